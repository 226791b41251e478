/- Of this proof. -/
import Derived.Test.YtgmnakghjemjlaaGreatGki
set_option linter.unusedSimpArgs false
set_option linter.unusedVariables false
namespace Gi
open Go Go.RowKit
set_option maxHeartbeats 8000000
set_option maxRecDepth 4000
attribute [local simp] bu sQ bg bX ep fZ ej fY f8 f7 uP uY uQ uZ uR u0 uS vd uT ve uU vf uV vg uW vh uX vi V.cells plain bn f9 isInt isStr isBool bin cW jN cX jO f4 un asList L.view ap V.view viewL aS av da cf bP comp aK bt dz ct bI bG bH bO bj cz aX bK aQ aY bM cB bL bJ bN V.flat L.flat dL du bA putAt thaw thawL thawT V.ow f6 ew ez cY f5 cZ eu freezeVs freezeLs freezeL V.mut L.mut aJ fq i7 aM be aE dq bE bi bS L.ren aU dM cj dQ bT bC wp_seq wp_block bF eB db cg dd wp_skip wp_exit wp_ret cN cM cS cO dj dk di cq aW L.notArr aP aN aO eA bo storeD bc fR br cE bf nE L.mov L.closed V.closed PV.bare PV.flat
def gN (f:List UInt8)(x:XItem):Int×Bool:=oT x.rcd.fs f
def tA (f:List UInt8)(a b:XItem):Bool:=dK (gN f a).1 (gN f b).1||((gN f a).1==(gN f b).1&&dK (Lo a.key b.key) 0)
def Lv (f:List UInt8)(x:XItem)(out:List XItem):Nat→Nat
 |0=>0
 |n+1=>match out[n]? with
  |none=>n+1
  |some y=>cond (tA f x y) (Lv f x out n) (n+1)
theorem Fs {f:List UInt8}{x:XItem}{out:List XItem}:∀n,Lv f x out n≤n
 |0=>Nat.le_refl _
 |n+1=>by
  unfold Lv
  cases out[n]? with
  |none=>exact Nat.le_refl _
  |some y=>
   cases h:tA f x y with
   |true=>simp only[h,cond_true];exact Nat.le_succ_of_le (Fs n)
   |false=>simp only[h,cond_false];exact Nat.le_refl _
theorem Bj {f:List UInt8}{x:XItem}{out:List XItem}:∀n,n≤out.length→∀p,Lv f x out n≤p→∀(hp:p<n)(ho:p<out.length),tA f x out[p]=true
 |0,_,p,_,hp,_=>by omega
 |n+1,hn,p,h,hp,ho=>by
  unfold Lv at h
  have hn':n<out.length:=by omega
  rw[List.getElem?_eq_getElem hn']at h
  simp only at h
  cases q:tA f x out[n]with
  |true=>
   rw[q,cond_true]at h
   by_cases e:p=n
   ·subst e;exact q
   ·exact Bj n (by omega) p h (by omega) ho
  |false=>rw[q,cond_false]at h;omega
theorem Bk {f:List UInt8}{x:XItem}{out:List XItem}:∀n,n≤out.length→∀j,Lv f x out n=j+1→∃h:j<out.length,tA f x out[j]=false
 |0,_,j,h=>by simp[Lv]at h
 |n+1,hn,j,h=>by
  unfold Lv at h
  have hn':n<out.length:=by omega
  rw[List.getElem?_eq_getElem hn']at h
  simp only at h
  cases q:tA f x out[n]with
  |true=>rw[q,cond_true]at h;exact Bk n (by omega) j h
  |false=>
   rw[q,cond_false]at h
   obtain rfl:n=j:=by omega
   exact⟨hn',q⟩
def Cx (out:List XItem)(x:XItem)(p:Nat):List XItem:=out.take p++x::out.drop p
def j4 (f:List UInt8)(out:List XItem)(x:XItem):List XItem:=cond (gN f x).2 (Cx out x (Lv f x out out.length)) out
def mo (f:List UInt8)(xs:List XItem):List XItem:=xs.foldl (j4 f) []
theorem EP {f:List UInt8}{xs:List XItem}{k:Nat}(hk:k<xs.length):mo f (xs.take (k+1))=j4 f (mo f (xs.take k)) xs[k]:=by
 unfold mo
 rw[List.take_succ_eq_append_getElem hk,List.foldl_append]
 rfl
theorem EQ (out:List XItem)(x:XItem)(p:Nat):(Cx out x p).map XItem.e=(out.map XItem.e).take p++x.e::(out.map XItem.e).drop p:=by simp[Cx,List.map_take,List.map_drop]
theorem LZ {out:List XItem}{x y:XItem}{p:Nat}(h:y∈Cx out x p):y=x∨y∈out:=by
 unfold Cx at h
 rcases List.mem_append.1 h with h|h
 ·exact .inr (List.mem_of_mem_take h)
 ·rcases List.mem_cons.1 h with h|h
  ·exact .inl h
  ·exact .inr (List.mem_of_mem_drop h)
theorem LY (out:List XItem)(x:XItem){p:Nat}(h:p≤out.length):(Cx out x p).length=out.length+1:=by simp[Cx];omega
theorem HK {f:List UInt8}{out:List XItem}{x y:XItem}(h:y∈j4 f out x):y=x∨y∈out:=by
 unfold j4 at h
 cases q:(gN f x).2 with
 |true=>rw[q,cond_true]at h;exact LZ h
 |false=>rw[q,cond_false]at h;exact .inr h
theorem tt {f:List UInt8}:∀(xs out:List XItem)(y:XItem),y∈xs.foldl (j4 f) out→y∈xs∨y∈out
 |[],out,y,h=> .inr h
 |x::xs,out,y,h=>by
  rcases tt xs (j4 f out x) y h with h|h
  ·exact .inl (List.mem_cons_of_mem _ h)
  ·rcases HK h with rfl|h
   ·exact .inl List.mem_cons_self
   ·exact .inr h
theorem v7 {f:List UInt8}{xs:List XItem}{y:XItem}(h:y∈mo f xs):y∈xs:=by
 rcases tt xs [] y h with h|h
 ·exact h
 ·cases h
theorem HJ {f:List UInt8}{out:List XItem}{x:XItem}:(j4 f out x).length≤out.length+1:=by
 unfold j4
 cases(gN f x).2 with
 |true=>rw[cond_true,LY _ _ (Fs _)];exact Nat.le_refl _
 |false=>rw[cond_false];omega
theorem tq {f:List UInt8}:∀(xs out:List XItem),(xs.foldl (j4 f) out).length≤out.length+xs.length
 |[],out=>by simp
 |x::xs,out=>by
  have h1:=tq (f:=f) xs (j4 f out x)
  have h2:=HJ (f:=f) (out:=out) (x:=x)
  simp only[List.foldl_cons,List.length_cons]
  omega
theorem v6 (f:List UInt8)(xs:List XItem):(mo f xs).length≤xs.length:=by
 have:=tq (f:=f) xs []
 simpa[mo]using this
def qI (l:List XItem)(k:Nat):XKey:=match l[k]? with
 |some x=>x.key
 |none=>⟨0,0,[]⟩
def Oh (f:List UInt8)(l:List XItem)(k:Nat):Bool:=match l[k]?,l[k+1]? with
 |some a,some b=>(gN f a).1==(gN f b).1
 |_,_=>false
theorem N4 {f:List UInt8}{l:List XItem}{k:Nat}(hk:k+1<l.length):Oh f l k=((gN f (l[k]'(by omega))).1==(gN f l[k+1]).1):=by
 have:k<l.length:=by omega
 simp[Oh,hk,this]
def N5 (f:List UInt8)(l:List XItem):XKey×XKey×Bool:=match(List.range (l.length-1)).find? (Oh f l)with
 |some k=>(qI l k,qI l (k+1),true)
 |none=>(⟨0,0,[]⟩,⟨0,0,[]⟩,false)
theorem IL {f:List UInt8}{l:List XItem}{k:Nat}(hk:k<l.length-1)(h:Oh f l k=true)(hn:∀j,j<k→Oh f l j=false):N5 f l=(qI l k,qI l (k+1),true):=by
 have:(List.range (l.length-1)).find? (Oh f l)=some k:=by
  rw[List.find?_range_eq_some]
  exact⟨h,List.mem_range.2 hk,fun j hj=>by simp[hn j hj]⟩
 simp only[N5,this]
theorem IK {f:List UInt8}{l:List XItem}(hn:∀j,j<l.length-1→Oh f l j=false):N5 f l=(⟨0,0,[]⟩,⟨0,0,[]⟩,false):=by
 have:(List.range (l.length-1)).find? (Oh f l)=none:=by
  rw[List.find?_range_eq_none]
  exact fun j hj=>by simp[hn j hj]
 simp only[N5,this]
def PU (t:XKey×XKey×Bool):V:= .tup [(true,[.pv (.int .i64 t.1.kind), .pv (.int .i64 t.1.n), .pv (.str t.1.text)]),(true,[.pv (.int .i64 t.2.1.kind), .pv (.int .i64 t.2.1.n), .pv (.str t.2.1.text)]),(false,[.pv (.bool t.2.2)])]
section
variable {B:Nat}{f:List UInt8}
theorem FV {f:List UInt8}{a b:XItem}(ha:a.Ok maxLen)(hb:b.Ok maxLen):ag Ph aG 415 [a.v,b.v,dS f]=some (au (tA f a b)):=by
 have e1:=gY ha.2.1 f
 have e2:=gY hb.2.1 f
 have e3:=nf ha.1 hb.1
 unfold tA gN
 generalize oT a.rcd.fs f=u at e1⊢
 generalize oT b.rcd.fs f=v at e2⊢
 obtain⟨w,hw⟩:∃w,(u.1==v.1)=w:=⟨_,rfl⟩
 rw[hw]
 refine ae (fn:=kw) rfl ?_
 simp +contextual (maxSteps:=9999999) [kw,e1,e2,e3,hw]
theorem Gd {f:List UInt8}{a b:XItem}(ha:a.Ok maxLen)(hb:b.Ok maxLen):ag Ph aG 414 [a.v,b.v,dS f]=some (au (tA f a b)):=by
 have e1:=gZ ha.2.1 f
 have e2:=gZ hb.2.1 f
 have e3:=nh ha.1 hb.1
 unfold tA gN
 generalize oT a.rcd.fs f=u at e1⊢
 generalize oT b.rcd.fs f=v at e2⊢
 obtain⟨w,hw⟩:∃w,(u.1==v.1)=w:=⟨_,rfl⟩
 rw[hw]
 refine ae (fn:=pA) rfl ?_
 simp +contextual (maxSteps:=9999999) [pA,e1,e2,e3,hw]
end
theorem At {B:Nat}(hB1:B≤1048576){s:XStore}(h:s.Ok B)(f:List UInt8):ag Ph aG 413 [s.v,dS f]=some (.one (.own 4 ((mo f s.items).map XItem.e))):=by
 have hB:B≤maxLen:=by unfold maxLen;omega
 have hl:s.items.length≤1048576:=Nat.le_trans h.2.1.1 hB1
 have hok:=h.2.1.2
 refine ae (fn:=nK) rfl ?_
 simp(maxSteps:=9999999) [nK]
 refine cL aR Cl.fin s.items.length [.f,.t,.f,.f,.f,.t,.f,.f,.f,.f,.f,.f,.f,.t,.t,.t,.f,.f,.f,.f,.f,.f,.f,.f,.f,.f,.f,.f,.f,.f,.f,.f,.f,.f,.f,.f,.f,.f,.f,.f,.f,.f,.f,.f,.f,.f,.f,.f,.f,.f,.f,.f] (fun k=>[(5, .one (.arr 0)),(15,aa .i64 k)]) (fun k=>[.arr 4 ((mo f (s.items.take k)).map XItem.e)]) rfl ?_ ?_ ?_
 ·exact Kn.of [1] (by decide) (by simp[show mo f []=[]from rfl]) (by simp)
 ·intro k hk
  have hx:=XItem.e.eq_1 s.items[k]
  have hkk:=hok _ (List.getElem_mem hk)
  have hkL:=XItem.Ok.mono hB hkk
  have f1:=gY (r:=s.items[k].rcd) hkL.2.1 f
  have f2:=pR hB1 hkk
  have hol:=Nat.le_trans (v6 f (s.items.take k)) (by rw[List.length_take];exact Nat.min_le_left _ _)
  have hoo:∀y∈mo f (s.items.take k),y.Ok B:=fun y hy=>hok y (List.mem_of_mem_take (v7 hy))
  try dsimp only
  rw[EP hk]
  generalize mo f (s.items.take k)=out at hol hoo⊢
  unfold j4
  have hls:∀q(hq:q<out.length),_:=fun q hq=>FV (f:=f) hkL (XItem.Ok.mono hB (hoo _ (List.getElem_mem hq)))
  have hgv:gN f s.items[k]=oT s.items[k].rcd.fs f:=rfl
  rw[hgv]
  generalize oT s.items[k].rcd.fs f=u at f1⊢
  obtain⟨u1,u2⟩:=u
  cases u2
  ·simp only[cond_false]
   simp(maxSteps:=9999999) [gO,hk,aF (n:=s.items.length) (by unfold maxLen;omega) hk,aV hk,hx,f1]
  ·simp only[cond_true]
   have hd1:=Fs (f:=f) (x:=s.items[k]) (out:=out) out.length
   have hd2:=Bj (f:=f) (x:=s.items[k]) (out:=out) out.length (Nat.le_refl _)
   have hd3:=Bk (f:=f) (x:=s.items[k]) (out:=out) out.length (Nat.le_refl _)
   have hm:=EQ out s.items[k] (Lv f s.items[k] out out.length)
   rw[hm,hx]
   clear hm
   have m1:=eR (m:=out.length+1) (z:=56) (by omega) (by omega)
   generalize Lv f s.items[k] out out.length=d at hd1 hd2 hd3⊢
   simp(maxSteps:=9999999) [gO,hk,aF (n:=s.items.length) (by unfold maxLen;omega) hk,aV hk,hx,f1]
   refine KZ aR Cl.kn (out.length-d) [.f,.t,.f,.f,.f,.t,.f,.t,.f,.f,.t,.f,.f,.t,.t,.t,.f,.f,.f,.f,.f,.f,.f,.f,.f,.f,.f,.f,.f,.f,.f,.f,.f,.f,.f,.f,.f,.f,.f,.f,.f,.f,.f,.f,.f,.f,.f,.f,.f,.f,.f,.f] (fun j=>[(10,aa .i64 ((out.length-j:Nat):Int))]) (fun _=>[.arr 4 (out.map XItem.e), .box [.pv (.int .i64 s.items[k].key.kind), .pv (.int .i64 s.items[k].key.n), .pv (.str s.items[k].key.text), .pv (.lst (s.items[k].rcd.fs.map XField.e))]]) 2 rfl ?_ ?_ ?_ ?_
   ·simp
   ·intro j hj
    obtain⟨q,hq⟩:∃q,out.length-j=q+1:=⟨out.length-j-1,by omega⟩
    have hq1:out.length-(j+1)=q:=by omega
    have hqo:q<out.length:=by omega
    have l1:=hls q hqo
    rw[hd2 q (by omega) hqo hqo]at l1
    have hy:=XItem.e.eq_1 out[q]
    have w4:dK 0 ((q:Int)+1)=true:=lL (by omega)
    have w5:IntKind.i64.wrap ((q:Int)+1-1)=(q:Int):=by rw[IntKind.wrap_i64];omega
    have w6:IntKind.i64.wrap (q:Int)=(q:Int):=by rw[IntKind.wrap_i64];omega
    try dsimp only
    rw[hq,hq1]
    clear hd2 hd3
    simp(maxSteps:=9999999) [fM,hk,hx,hy,hqo,l1,w4,w5,w6]
   ·have hz:out.length-(out.length-d)=d:=by omega
    try dsimp only
    rw[hz]
    cases d with
    |zero=>
     simp(maxSteps:=9999999) [fM,show dK 0 0=false from rfl]
    |succ q=>
     obtain⟨hqo,hlq⟩:=hd3 q rfl
     have l1:=hls q hqo
     rw[hlq]at l1
     have hy:=XItem.e.eq_1 out[q]
     have w4:dK 0 ((q:Int)+1)=true:=lL (by omega)
     have w5:IntKind.i64.wrap ((q:Int)+1-1)=(q:Int):=by rw[IntKind.wrap_i64];omega
     have w6:IntKind.i64.wrap (q:Int)=(q:Int):=by rw[IntKind.wrap_i64];omega
     simp(maxSteps:=9999999) [fM,hk,hx,hy,hqo,l1,w4,w5,w6]
   ·have hz:out.length-(out.length-d)=d:=by omega
    try dsimp only
    rw[hz]
    have hdi:(d:Int)≤(out.length:Int):=by omega
    simp(maxSteps:=9999999) [f2,hk,hx,aF (n:=s.items.length) (by unfold maxLen;omega) hk,hd1,hdi,m1,-fq]
    exact Kn.of [4] (by decide) (by simp) (by simp)
 ·try dsimp only
  rw[List.take_length]
  simp(maxSteps:=9999999) [gO]
theorem AA {B:Nat}(hB1:B≤1048576){s:XStore}(h:s.Ok B)(f:List UInt8):ag Ph aG 409 [s.v,dS f]=some (.one (.own 4 ((mo f s.items).map XItem.e))):=by
 have hB:B≤maxLen:=by unfold maxLen;omega
 have hl:s.items.length≤1048576:=Nat.le_trans h.2.1.1 hB1
 have hok:=h.2.1.2
 refine ae (fn:=nP) rfl ?_
 simp(maxSteps:=9999999) [nP]
 refine cL aR Cl.fin s.items.length [.f,.t,.t,.f,.f,.t,.t,.f,.f,.f,.f,.f,.f,.f,.f,.f,.f,.f,.f,.f,.f,.f,.f,.f,.f,.f,.f,.f,.f,.f,.f,.f,.f,.f,.f,.f,.f,.f,.f,.f,.f,.f,.f,.f,.f,.f,.f,.f,.f,.f,.f,.f,.f,.f,.f,.f,.f,.f,.f,.f,.f,.f,.f,.f,.f,.f,.f,.f,.f,.f,.f,.f] (fun k=>[(5, .one (.arr 1)),(6,aa .i64 k)]) (fun k=>[.box [.pv (.str s.name), .pv (.lst (s.items.map XItem.e)), .pv (.int .i64 s.auto)], .arr 4 ((mo f (s.items.take k)).map XItem.e)]) rfl ?_ ?_ ?_
 ·exact Kn.of [0,1] (by decide) (by simp[show mo f []=[]from rfl]) (by simp)
 ·intro k hk
  have hx:=XItem.e.eq_1 s.items[k]
  have hkk:=hok _ (List.getElem_mem hk)
  have hkL:=XItem.Ok.mono hB hkk
  have f1:=gZ (r:=s.items[k].rcd) hkL.2.1 f
  have f2:=r9 hB1 hkk
  have hol:=Nat.le_trans (v6 f (s.items.take k)) (by rw[List.length_take];exact Nat.min_le_left _ _)
  have hoo:∀y∈mo f (s.items.take k),y.Ok B:=fun y hy=>hok y (List.mem_of_mem_take (v7 hy))
  try dsimp only
  rw[EP hk]
  generalize mo f (s.items.take k)=out at hol hoo⊢
  unfold j4
  have hls:∀q(hq:q<out.length),_:=fun q hq=>Gd (f:=f) hkL (XItem.Ok.mono hB (hoo _ (List.getElem_mem hq)))
  have hgv:gN f s.items[k]=oT s.items[k].rcd.fs f:=rfl
  rw[hgv]
  generalize oT s.items[k].rcd.fs f=u at f1⊢
  obtain⟨u1,u2⟩:=u
  cases u2
  ·simp only[cond_false]
   simp(maxSteps:=9999999) [gP,hk,aF (n:=s.items.length) (by unfold maxLen;omega) hk,aV hk,hx,f1]
  ·simp only[cond_true]
   have hd1:=Fs (f:=f) (x:=s.items[k]) (out:=out) out.length
   have hd2:=Bj (f:=f) (x:=s.items[k]) (out:=out) out.length (Nat.le_refl _)
   have hd3:=Bk (f:=f) (x:=s.items[k]) (out:=out) out.length (Nat.le_refl _)
   have hm:=EQ out s.items[k] (Lv f s.items[k] out out.length)
   rw[hm,hx]
   clear hm
   have m1:=eR (m:=out.length+1) (z:=56) (by omega) (by omega)
   generalize Lv f s.items[k] out out.length=d at hd1 hd2 hd3⊢
   simp(maxSteps:=9999999) [gP,hk,aF (n:=s.items.length) (by unfold maxLen;omega) hk,aV hk,hx,f1]
   refine KZ aR Cl.kn (out.length-d) [.f,.t,.t,.f,.f,.t,.t,.f,.f,.t,.f,.f,.f,.f,.f,.f,.f,.f,.f,.f,.f,.f,.f,.f,.f,.f,.f,.f,.f,.f,.f,.f,.f,.f,.f,.f,.f,.f,.f,.f,.f,.f,.f,.f,.f,.f,.f,.f,.f,.f,.f,.f,.f,.f,.f,.f,.f,.f,.f,.f,.f,.f,.f,.f,.f,.f,.f,.f,.f,.f,.f,.f] (fun j=>[(9,aa .i64 ((out.length-j:Nat):Int))]) (fun _=>[.box [.pv (.str s.name), .pv (.lst (s.items.map XItem.e)), .pv (.int .i64 s.auto)], .arr 4 (out.map XItem.e)]) 2 rfl ?_ ?_ ?_ ?_
   ·simp
   ·intro j hj
    obtain⟨q,hq⟩:∃q,out.length-j=q+1:=⟨out.length-j-1,by omega⟩
    have hq1:out.length-(j+1)=q:=by omega
    have hqo:q<out.length:=by omega
    have l1:=hls q hqo
    rw[hd2 q (by omega) hqo hqo]at l1
    have hy:=XItem.e.eq_1 out[q]
    have w4:dK 0 ((q:Int)+1)=true:=lL (by omega)
    have w5:IntKind.i64.wrap ((q:Int)+1-1)=(q:Int):=by rw[IntKind.wrap_i64];omega
    have w6:IntKind.i64.wrap (q:Int)=(q:Int):=by rw[IntKind.wrap_i64];omega
    try dsimp only
    rw[hq,hq1]
    clear hd2 hd3
    simp(maxSteps:=9999999) [fP,hk,hx,hy,hqo,l1,w4,w5,w6]
   ·have hz:out.length-(out.length-d)=d:=by omega
    try dsimp only
    rw[hz]
    cases d with
    |zero=>
     simp(maxSteps:=9999999) [fP,show dK 0 0=false from rfl]
    |succ q=>
     obtain⟨hqo,hlq⟩:=hd3 q rfl
     have l1:=hls q hqo
     rw[hlq]at l1
     have hy:=XItem.e.eq_1 out[q]
     have w4:dK 0 ((q:Int)+1)=true:=lL (by omega)
     have w5:IntKind.i64.wrap ((q:Int)+1-1)=(q:Int):=by rw[IntKind.wrap_i64];omega
     have w6:IntKind.i64.wrap (q:Int)=(q:Int):=by rw[IntKind.wrap_i64];omega
     simp(maxSteps:=9999999) [fP,hk,hx,hy,hqo,l1,w4,w5,w6]
   ·have hz:out.length-(out.length-d)=d:=by omega
    try dsimp only
    rw[hz]
    have hdi:(d:Int)≤(out.length:Int):=by omega
    have t1:((out.map XItem.e).take d).all (fun e=>e.length==4)=true:=by rw[←List.map_take];exact dy (e:=XItem.e) (z:=4) (fun _=>rfl) _
    have t2:((out.map XItem.e).drop d).all (fun e=>e.length==4)=true:=by rw[←List.map_drop];exact dy (e:=XItem.e) (z:=4) (fun _=>rfl) _
    have t3:=dy (e:=XItem.e) (z:=4) (fun _=>rfl) out
    have n1:min d out.length=d:=Nat.min_eq_left hd1
    have n3:d+1+(out.length-d)=out.length+1:=by omega
    have m2:=eR (m:=d+1) (z:=56) (by omega) (by omega)
    have m3:=eR (m:=d) (z:=56) (by omega) (by omega)
    have n4:List.take (out.length-d) (List.drop d (List.map XItem.e out))=List.drop d (List.map XItem.e out):=List.take_of_length_le (by simp)
    simp(maxSteps:=9999999) [n4,f2,hk,hx,aF (n:=s.items.length) (by unfold maxLen;omega) hk,hd1,hdi,t1,t2,t3,n1,n3,m1,m2,m3,-fq]
    exact Kn.of [0,7] (by decide) (by simp) (by simp)
 ·try dsimp only
  rw[List.take_length]
  simp(maxSteps:=9999999) [gP]
theorem sX {B:Nat}(hB1:B≤1048576){s:XStore}(h:s.Ok B)(f:List UInt8):ag Ph aG 406 [s.v,dS f]=some (PU (N5 f (mo f s.items))):=by
 have hB:B≤maxLen:=by unfold maxLen;omega
 have e1:=At hB1 h f
 have hll:=Nat.le_trans (v6 f s.items) (Nat.le_trans h.2.1.1 hB1)
 have hoo:∀y∈mo f s.items,y.Ok maxLen:=fun y hy=>XItem.Ok.mono hB (h.2.1.2 y (v7 hy))
 refine ae (fn:=kj) rfl ?_
 generalize mo f s.items=l at e1 hll hoo⊢
 unfold PU
 simp(maxSteps:=9999999) [kj,e1]
 refine aB aR Cl.fin [.f,.t,.f,.f,.t,.t,.f,.t,.t,.f,.f,.f,.f,.f,.f,.f,.f,.f,.f,.f,.f,.f,.f,.f,.f,.f,.f,.f,.f,.f,.f,.f,.f,.f,.f,.f,.f,.f,.f,.f,.f,.f,.f,.f,.f,.f,.f,.f,.f,.f,.f,.f,.f,.f,.f,.f,.f,.f,.f] (fun k=>[(8,aa .i64 ((k:Int)+1))]) (l.length-1) (Oh f l) rfl (by simp) (fun k hk hn=> ?_) (fun hp _=> ?_)
 ·have hk1:k+1<l.length:=by omega
  have hk0:k<l.length:=by omega
  obtain⟨i1,i2,i3,i4,i5,i6⟩:=mE (n:=l.length) (by unfold maxLen;omega) hk1
  have f1:=gY (r:=l[k].rcd) (hoo _ (List.getElem_mem hk0)).2.1 f
  have f2:=gY (r:=l[k+1].rcd) (hoo _ (List.getElem_mem hk1)).2.1 f
  have hx:=XItem.e.eq_1 l[k]
  have hy:=XItem.e.eq_1 l[k+1]
  have hq:=IL (f:=f) hk
  have hpe:=N4 (f:=f) hk1
  unfold gN at hpe
  have ka:qI l k=l[k].key:=by simp[qI,hk0]
  have kb:qI l (k+1)=l[k+1].key:=by simp[qI,hk1]
  rw[hpe]
  rw[hpe,ka,kb]at hq
  generalize oT l[k].rcd.fs f=u at f1 hq⊢
  generalize oT l[k+1].rcd.fs f=v at f2 hq⊢
  cases hc:(u.1==v.1)
  ·simp(maxSteps:=9999999) [fi,hk0,hk1,hx,hy,i1,i2,i4,i5,i6,lL i6,f1,f2,hc]
  ·rw[hq hc hn]
   simp(maxSteps:=9999999) [fi,hk0,hk1,hx,hy,i1,i2,i4,i5,i6,lL i6,f1,f2,hc]
 ·rw[IK hp]
  have hge:dK (((l.length-1:Nat):Int)+1) (l.length:Int)=false:=wv (by omega)
  simp(maxSteps:=9999999) [fi,hge]
theorem tj {B:Nat}(hB1:B≤1048576){s:XStore}(h:s.Ok B)(f:List UInt8):ag Ph aG 401 [s.v,dS f]=some (PU (N5 f (mo f s.items))):=by
 have hB:B≤maxLen:=by unfold maxLen;omega
 have e1:=AA hB1 h f
 have hll:=Nat.le_trans (v6 f s.items) (Nat.le_trans h.2.1.1 hB1)
 have hoo:∀y∈mo f s.items,y.Ok maxLen:=fun y hy=>XItem.Ok.mono hB (h.2.1.2 y (v7 hy))
 refine ae (fn:=kD) rfl ?_
 generalize mo f s.items=l at e1 hll hoo⊢
 unfold PU
 simp(maxSteps:=9999999) [kD,e1]
 refine aB aR Cl.fin [.f,.t,.f,.f,.t,.t,.f,.t,.t,.f,.f,.f,.f,.f,.f,.f,.f,.f,.f,.f,.f,.f,.f,.f,.f,.f,.f,.f,.f,.f,.f,.f,.f,.f,.f,.f,.f,.f,.f,.f,.f,.f,.f,.f,.f,.f,.f,.f,.f,.f,.f,.f,.f,.f,.f,.f,.f,.f,.f] (fun k=>[(8,aa .i64 ((k:Int)+1))]) (l.length-1) (Oh f l) rfl (by simp) (fun k hk hn=> ?_) (fun hp _=> ?_)
 ·have hk1:k+1<l.length:=by omega
  have hk0:k<l.length:=by omega
  obtain⟨i1,i2,i3,i4,i5,i6⟩:=mE (n:=l.length) (by unfold maxLen;omega) hk1
  have f1:=gZ (r:=l[k].rcd) (hoo _ (List.getElem_mem hk0)).2.1 f
  have f2:=gZ (r:=l[k+1].rcd) (hoo _ (List.getElem_mem hk1)).2.1 f
  have hx:=XItem.e.eq_1 l[k]
  have hy:=XItem.e.eq_1 l[k+1]
  have hq:=IL (f:=f) hk
  have hpe:=N4 (f:=f) hk1
  unfold gN at hpe
  have ka:qI l k=l[k].key:=by simp[qI,hk0]
  have kb:qI l (k+1)=l[k+1].key:=by simp[qI,hk1]
  rw[hpe]
  rw[hpe,ka,kb]at hq
  generalize oT l[k].rcd.fs f=u at f1 hq⊢
  generalize oT l[k+1].rcd.fs f=v at f2 hq⊢
  cases hc:(u.1==v.1)
  ·simp(maxSteps:=9999999) [fj,hk0,hk1,hx,hy,i1,i2,i4,i5,i6,lL i6,f1,f2,hc]
  ·rw[hq hc hn]
   simp(maxSteps:=9999999) [fj,hk0,hk1,hx,hy,i1,i2,i4,i5,i6,lL i6,f1,f2,hc]
 ·rw[IK hp]
  have hge:dK (((l.length-1:Nat):Int)+1) (l.length:Int)=false:=wv (by omega)
  simp(maxSteps:=9999999) [fj,hge]
def M5 (ss:List XStore)(k:Nat):Bool:=match ss[k]?,ss[k-1]? with
 |some x,some y=> !(lB x)||(dK 0 k&& !(Op.bytesLess y.name x.name))
 |_,_=>false
def oE (a b:XIndexDef):Bool:=a.store==b.store&&a.field==b.field
theorem CR (a b:XIndexDef):oE a b=oE b a:=by unfold oE;rw[Bool.beq_comm (a:=a.store),Bool.beq_comm (a:=a.field)]
def Hh (us:List XIndexDef)(k:Nat):Bool:=match us[k]? with
 |some u=>fL k (iO (oE u) us)
 |none=>false
def Dt (ss:List XStore)(us:List XIndexDef)(k:Nat):Bool:=match us[k]? with
 |some u=>match ss.find? (OD u.store)with
  |some s=> !(cy u.field)||(Hh us k||(N5 u.field (mo u.field s.items)).2.2)
  |none=>true
 |none=>false
def Jo (d:XDatabase):Bool:=cy d.name&&(rg d.version 0 1000&&(!(dK 4 d.stores.length)&&(!(dK 4 d.unique.length)&&(!(fL d.stores.length (M5 d.stores))&& !(fL d.unique.length (Dt d.stores d.unique))))))
theorem EM {α:Type}(p:α→Bool)(xs:List α):(gB p xs= -1∧xs.find? p=none)∨∃j,∃hj:j<xs.length,gB p xs=(j:Int)∧xs.find? p=some xs[j]:=by
 unfold gB
 cases h:xs.findIdx? p with
 |none=>exact .inl ⟨rfl,by rw[List.findIdx?_eq_none_iff]at h;rw[List.find?_eq_none];exact fun x hx=>by simp[h x hx]⟩
 |some i=>
  rw[List.findIdx?_eq_some_iff_getElem]at h
  obtain⟨h1,h2,h3⟩:=h
  refine .inr ⟨i,h1,rfl,?_⟩
  rw[List.find?_eq_some_iff_getElem]
  exact⟨h2,i,h1,rfl,fun j hj=>by simpa using h3 j hj⟩
theorem LL {p:XIndexDef→Bool}{us:List XIndexDef}{k:Nat}(hk:k<us.length):(!(dK (gB p (us.take k)) 0))=fL k (iO p us):=by
 have at':∀j,j<k→iO p (us.take k) j=iO p us j:=fun j hj=>by simp[iO,List.getElem?_take,hj]
 rcases Ov p (us.take k)with h|⟨j,hj,h1,h2⟩
 ·rw[h,lL (by omega)]
  refine(MT fun j hj=> ?_).symm
  have hj2:j<(us.take k).length:=by simp;omega
  rw[←at' j hj]
  have:=Ou h _ (List.getElem_mem hj2)
  simp only[iO,List.getElem?_eq_getElem hj2];exact this
 ·have hj2:j<k:=by simp at hj;omega
  rw[h1,wv (by omega)]
  refine(MV hj2 ?_).symm
  rw[←at' j hj2];simp only[iO,List.getElem?_eq_getElem hj];exact h2
theorem Cu {us:List XIndexDef}(hl:us.length≤maxLen)(x:XIndexDef):ag Ph aG 412 [bv (us.map XIndexDef.e),x.v]=some (aa .i64 (gB (oE x) us)):=by
 refine ae (fn:=cQ) rfl ?_
 simp +contextual (maxSteps:=9999999) [cQ]
 refine aB aR Cl.fin [.t,.f,.f,.t,.f,.f,.f,.t,.t,.f,.f,.f,.f,.f,.f,.f,.f,.f,.f] (fun k=>[(8,aa .i64 k)]) us.length (iO (oE x) us) rfl (by simp) (fun k hk hj=> ?_) (fun hj _=> ?_)
 ·have hf:=ye hk hj
  simp +contextual (maxSteps:=9999999) [bR,iO,oE,hk,hf,aF hl hk,aV hk,XIndexDef.e.eq_1 us[k],oS,MJ]
 ·simp +contextual (maxSteps:=9999999) [bR,Cd hj]
theorem wa {us:List XIndexDef}(hl:us.length≤maxLen)(x:XIndexDef):ag Ph aG 405 [bv (us.map XIndexDef.e),x.v]=some (au (!(dK (gB (oE x) us) 0))):=by
 have e1:=Cu hl x
 refine ae (fn:=cD) rfl ?_
 simp +contextual (maxSteps:=9999999) [cD,e1]
theorem uj {B:Nat}(hB1:B≤1048576){d:XDatabase}(h:d.Ok B):ag Ph aG 397 [d.v]=some (au (Jo d)):=by
 have hB:B≤maxLen:=by unfold maxLen;omega
 obtain⟨hn,hv,⟨hsl,hs⟩,hul,hu⟩:=h
 have e1:=bh (Nat.le_trans hn hB)
 have e2:=aZ d.version 0 1000
 have hsL:d.stores.length≤maxLen:=Nat.le_trans hsl hB
 have huL:d.unique.length≤maxLen:=Nat.le_trans hul hB
 unfold Jo
 refine ae (fn:=eF) rfl ?_
 cases c1:cy d.name<;>rw[c1]at e1
 ·simp(maxSteps:=9999999) [eF,e1]
 cases c2:rg d.version 0 1000<;>rw[c2]at e2
 ·simp(maxSteps:=9999999) [eF,e1,e2]
 cases c3:dK 4 d.stores.length
 rotate_left
 ·simp(maxSteps:=9999999) [eF,e1,e2,c3]
 cases c4:dK 4 d.unique.length
 rotate_left
 ·simp(maxSteps:=9999999) [eF,e1,e2,c3,c4]
 simp(maxSteps:=9999999) [eF,e1,e2,c3,c4]
 refine aB aR Cl.fin [.f,.t,.f,.f,.f,.f,.f,.f,.f,.f,.f,.f,.f,.f,.f,.f,.f,.f,.f,.f,.f,.f,.f,.f,.f,.f,.f,.f,.f,.f,.f,.f,.f,.f,.t,.t,.t,.f,.f,.f,.f,.f,.f,.f,.f,.f,.f,.f,.f,.f,.f,.f,.f,.f,.f,.f,.f,.f,.f,.f,.f,.f,.f,.f,.f,.f,.f,.f,.f,.f,.f,.f,.f,.f,.f,.f,.f,.f,.f,.f,.f,.f,.f,.f,.f,.f,.f,.f,.f,.f,.f,.f,.f,.f,.f,.f,.f,.f,.f,.f,.f,.f,.f] (fun k=>[(36,aa .i64 k)]) d.stores.length (M5 d.stores) rfl (by simp) (fun k hk _=> ?_) (fun _ hp=> ?_)
 ·obtain⟨q1,q2⟩:=td hsL hk
  have e3:=m7 (XStore.Ok.mono hB (hs _ (List.getElem_mem hk)))
  simp +contextual (maxSteps:=9999999) [fE,M5,hk,q1,q2,aF hsL hk,aV hk,XStore.e.eq_1 d.stores[k],XStore.e.eq_1 d.stores[k-1],e3]
 ·simp(maxSteps:=9999999) [fE,hp]
  refine aB aR Cl.fin [.f,.t,.f,.f,.f,.f,.f,.f,.f,.f,.f,.f,.f,.f,.f,.f,.f,.f,.f,.f,.f,.f,.f,.f,.f,.f,.f,.f,.f,.f,.f,.f,.f,.f,.f,.f,.f,.f,.f,.f,.f,.f,.f,.f,.f,.f,.f,.f,.f,.f,.f,.f,.f,.f,.f,.f,.f,.f,.f,.f,.f,.f,.t,.t,.t,.f,.f,.f,.f,.f,.f,.f,.f,.f,.f,.f,.f,.f,.f,.f,.f,.f,.f,.f,.f,.f,.f,.f,.f,.f,.f,.f,.f,.f,.f,.f,.f,.f,.f,.f,.f,.f,.f] (fun k=>[(64,aa .i64 k)]) d.unique.length (Dt d.stores d.unique) rfl (by simp) (fun k hk _=> ?_) (fun _ hp=> ?_)
  ·have e3:=wc (d:=d) hsL d.unique[k].store
   have e4:=bh (Nat.le_trans (hu _ (List.getElem_mem hk)).2 hB)
   have e5:=wa (us:=d.unique.take k) (by rw[List.length_take];omega) d.unique[k]
   rw[LL hk]at e5
   have hdup:Hh d.unique k=fL k (iO (oE d.unique[k]) d.unique):=by simp[Hh,hk]
   rw[←hdup]at e5
   rw[List.map_take]at e5
   have hx:=XIndexDef.e.eq_1 d.unique[k]
   have w:=dy (e:=XIndexDef.e) (z:=2) (fun _=>rfl) d.unique
   rcases EM (OD d.unique[k].store) d.stores with⟨h1,h2⟩|⟨j,hj,h1,h2⟩<;>rw[h1]at e3
   ·rw[show Dt d.stores d.unique k=true by simp[Dt,hk,h2]]
    simp +contextual (maxSteps:=9999999) [fF,hk,e3,hx,aF huL hk,aV hk,show dK (-1) 0=true from rfl]
   ·have e6:=sX hB1 (hs _ (List.getElem_mem hj)) d.unique[k].field
    have hy:=XStore.e.eq_1 d.stores[j]
    rw[show Dt d.stores d.unique k=(!(cy d.unique[k].field)||(Hh d.unique k||(N5 d.unique[k].field (mo d.unique[k].field d.stores[j].items)).2.2)) by simp[Dt,hk,h2]]
    generalize N5 d.unique[k].field (mo d.unique[k].field d.stores[j].items)=T at e6⊢
    unfold PU at e6
    generalize cy d.unique[k].field=N at e4⊢
    generalize Hh d.unique k=D at e5⊢
    simp +contextual (maxSteps:=9999999) [fF,hk,hj,e3,e4,e5,e6,hx,hy,w,Nat.le_of_lt hk,aF huL hk,aV hk,uy]
  ·simp(maxSteps:=9999999) [fF,hp]
end Gi
