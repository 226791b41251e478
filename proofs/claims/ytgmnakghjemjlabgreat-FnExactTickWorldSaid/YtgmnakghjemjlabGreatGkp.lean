/- Of this proof. -/
import Derived.Test.YtgmnakghjemjlabGreatGki
set_option linter.unusedSimpArgs false
set_option linter.unusedVariables false
namespace Gi
open Go Go.RowKit
set_option maxHeartbeats 8000000
set_option maxRecDepth 4000
attribute [local simp] bw rW bg bY dS fY dR fX f7 f6 um uB uo uC uq uD ur uE ut uF uu uG uw uH uy uI uz uJ V.cells plain bo gr isInt isStr isBool bin cT jF cU jG fZ un asList L.view ap V.view viewL aU ar cX bZ bP comp aK bu dz cr bD bB bC bx bc bU aO bH aS aX bJ bV bI bG bK V.flat L.flat dJ dk bt putAt thaw thawL thawT V.ow f5 dW dX cV f4 cW dV freezeVs freezeLs freezeL V.mut L.mut aJ cG iK aN be aG dv bM bi bS L.ren aV dL ce dO bQ bF wp_seq wp_block bA ed cY ca cZ wp_skip wp_exit wp_ret cK cI cS cL df dg de cq aW L.notArr aR aP aQ dZ bp storeD a9 fT br cE bh nK L.mov L.closed V.closed PV.bare PV.flat
def gN (f:List UInt8)(x:XItem):Int×Bool:=pt x.rcd.fs f
def uc (f:List UInt8)(a b:XItem):Bool:=dA (gN f a).1 (gN f b).1||((gN f a).1==(gN f b).1&&dA (L7 a.key b.key) 0)
def Me (f:List UInt8)(x:XItem)(out:List XItem):Nat→Nat
 |0=>0
 |n+1=>match out[n]? with
  |none=>n+1
  |some y=>cond (uc f x y) (Me f x out n) (n+1)
theorem F7 {f:List UInt8}{x:XItem}{out:List XItem}:∀n,Me f x out n≤n
 |0=>Nat.le_refl _
 |n+1=>by
  unfold Me
  cases out[n]? with
  |none=>exact Nat.le_refl _
  |some y=>
   cases h:uc f x y with
   |true=>simp only[h,cond_true];exact Nat.le_succ_of_le (F7 n)
   |false=>simp only[h,cond_false];exact Nat.le_refl _
theorem BS {f:List UInt8}{x:XItem}{out:List XItem}:∀n,n≤out.length→∀p,Me f x out n≤p→∀(hp:p<n)(ho:p<out.length),uc f x out[p]=true
 |0,_,p,_,hp,_=>by omega
 |n+1,hn,p,h,hp,ho=>by
  unfold Me at h
  have hn':n<out.length:=by omega
  rw[List.getElem?_eq_getElem hn']at h
  simp only at h
  cases q:uc f x out[n]with
  |true=>
   rw[q,cond_true]at h
   by_cases e:p=n
   ·subst e;exact q
   ·exact BS n (by omega) p h (by omega) ho
  |false=>rw[q,cond_false]at h;omega
theorem BT {f:List UInt8}{x:XItem}{out:List XItem}:∀n,n≤out.length→∀j,Me f x out n=j+1→∃h:j<out.length,uc f x out[j]=false
 |0,_,j,h=>by simp[Me]at h
 |n+1,hn,j,h=>by
  unfold Me at h
  have hn':n<out.length:=by omega
  rw[List.getElem?_eq_getElem hn']at h
  simp only at h
  cases q:uc f x out[n]with
  |true=>rw[q,cond_true]at h;exact BT n (by omega) j h
  |false=>
   rw[q,cond_false]at h
   obtain rfl:n=j:=by omega
   exact⟨hn',q⟩
def C7 (out:List XItem)(x:XItem)(p:Nat):List XItem:=out.take p++x::out.drop p
def kw (f:List UInt8)(out:List XItem)(x:XItem):List XItem:=cond (gN f x).2 (C7 out x (Me f x out out.length)) out
def mQ (f:List UInt8)(xs:List XItem):List XItem:=xs.foldl (kw f) []
theorem Fs {f:List UInt8}{xs:List XItem}{k:Nat}(hk:k<xs.length):mQ f (xs.take (k+1))=kw f (mQ f (xs.take k)) xs[k]:=by
 unfold mQ
 rw[List.take_succ_eq_append_getElem hk,List.foldl_append]
 rfl
theorem Ft (out:List XItem)(x:XItem)(p:Nat):(C7 out x p).map XItem.e=(out.map XItem.e).take p++x.e::(out.map XItem.e).drop p:=by simp[C7,List.map_take,List.map_drop]
theorem MI {out:List XItem}{x y:XItem}{p:Nat}(h:y∈C7 out x p):y=x∨y∈out:=by
 unfold C7 at h
 rcases List.mem_append.1 h with h|h
 ·exact .inr (List.mem_of_mem_take h)
 ·rcases List.mem_cons.1 h with h|h
  ·exact .inl h
  ·exact .inr (List.mem_of_mem_drop h)
theorem MH (out:List XItem)(x:XItem){p:Nat}(h:p≤out.length):(C7 out x p).length=out.length+1:=by simp[C7];omega
theorem Il {f:List UInt8}{out:List XItem}{x y:XItem}(h:y∈kw f out x):y=x∨y∈out:=by
 unfold kw at h
 cases q:(gN f x).2 with
 |true=>rw[q,cond_true]at h;exact MI h
 |false=>rw[q,cond_false]at h;exact .inr h
theorem tZ {f:List UInt8}:∀(xs out:List XItem)(y:XItem),y∈xs.foldl (kw f) out→y∈xs∨y∈out
 |[],out,y,h=> .inr h
 |x::xs,out,y,h=>by
  rcases tZ xs (kw f out x) y h with h|h
  ·exact .inl (List.mem_cons_of_mem _ h)
  ·rcases Il h with rfl|h
   ·exact .inl List.mem_cons_self
   ·exact .inr h
theorem wL {f:List UInt8}{xs:List XItem}{y:XItem}(h:y∈mQ f xs):y∈xs:=by
 rcases tZ xs [] y h with h|h
 ·exact h
 ·cases h
theorem Ik {f:List UInt8}{out:List XItem}{x:XItem}:(kw f out x).length≤out.length+1:=by
 unfold kw
 cases(gN f x).2 with
 |true=>rw[cond_true,MH _ _ (F7 _)];exact Nat.le_refl _
 |false=>rw[cond_false];omega
theorem tY {f:List UInt8}:∀(xs out:List XItem),(xs.foldl (kw f) out).length≤out.length+xs.length
 |[],out=>by simp
 |x::xs,out=>by
  have h1:=tY (f:=f) xs (kw f out x)
  have h2:=Ik (f:=f) (out:=out) (x:=x)
  simp only[List.foldl_cons,List.length_cons]
  omega
theorem wK (f:List UInt8)(xs:List XItem):(mQ f xs).length≤xs.length:=by
 have:=tY (f:=f) xs []
 simpa[mQ]using this
def rt (l:List XItem)(k:Nat):XKey:=match l[k]? with
 |some x=>x.key
 |none=>⟨0,0,[]⟩
def O4 (f:List UInt8)(l:List XItem)(k:Nat):Bool:=match l[k]?,l[k+1]? with
 |some a,some b=>(gN f a).1==(gN f b).1
 |_,_=>false
theorem OP {f:List UInt8}{l:List XItem}{k:Nat}(hk:k+1<l.length):O4 f l k=((gN f (l[k]'(by omega))).1==(gN f l[k+1]).1):=by
 have:k<l.length:=by omega
 simp[O4,hk,this]
def OQ (f:List UInt8)(l:List XItem):XKey×XKey×Bool:=match(List.range (l.length-1)).find? (O4 f l)with
 |some k=>(rt l k,rt l (k+1),true)
 |none=>(⟨0,0,[]⟩,⟨0,0,[]⟩,false)
theorem Jl {f:List UInt8}{l:List XItem}{k:Nat}(hk:k<l.length-1)(h:O4 f l k=true)(hn:∀j,j<k→O4 f l j=false):OQ f l=(rt l k,rt l (k+1),true):=by
 have:(List.range (l.length-1)).find? (O4 f l)=some k:=by
  rw[List.find?_range_eq_some]
  exact⟨h,List.mem_range.2 hk,fun j hj=>by simp[hn j hj]⟩
 simp only[OQ,this]
theorem Jk {f:List UInt8}{l:List XItem}(hn:∀j,j<l.length-1→O4 f l j=false):OQ f l=(⟨0,0,[]⟩,⟨0,0,[]⟩,false):=by
 have:(List.range (l.length-1)).find? (O4 f l)=none:=by
  rw[List.find?_range_eq_none]
  exact fun j hj=>by simp[hn j hj]
 simp only[OQ,this]
def Qz (t:XKey×XKey×Bool):V:= .tup [(true,[.pv (.int .i64 t.1.kind), .pv (.int .i64 t.1.n), .pv (.str t.1.text)]),(true,[.pv (.int .i64 t.2.1.kind), .pv (.int .i64 t.2.1.n), .pv (.str t.2.1.text)]),(false,[.pv (.bool t.2.2)])]
section
variable {B:Nat}{f:List UInt8}
theorem GD {f:List UInt8}{a b:XItem}(ha:a.Ok maxLen)(hb:b.Ok maxLen):ag Ph aE 415 [a.v,b.v,fM f]=some (au (uc f a b)):=by
 have e1:=ig ha.2.1 f
 have e2:=ig hb.2.1 f
 have e3:=nG ha.1 hb.1
 unfold uc gN
 generalize pt a.rcd.fs f=u at e1⊢
 generalize pt b.rcd.fs f=v at e2⊢
 obtain⟨w,hw⟩:∃w,(u.1==v.1)=w:=⟨_,rfl⟩
 rw[hw]
 refine ae (fn:=kP) rfl ?_
 simp +contextual (maxSteps:=9999999) [kP,e1,e2,e3,hw]
theorem GO {f:List UInt8}{a b:XItem}(ha:a.Ok maxLen)(hb:b.Ok maxLen):ag Ph aE 414 [a.v,b.v,fM f]=some (au (uc f a b)):=by
 have e1:=ii ha.2.1 f
 have e2:=ii hb.2.1 f
 have e3:=nJ ha.1 hb.1
 unfold uc gN
 generalize pt a.rcd.fs f=u at e1⊢
 generalize pt b.rcd.fs f=v at e2⊢
 obtain⟨w,hw⟩:∃w,(u.1==v.1)=w:=⟨_,rfl⟩
 rw[hw]
 refine ae (fn:=pY) rfl ?_
 simp +contextual (maxSteps:=9999999) [pY,e1,e2,e3,hw]
end
theorem A2 {B:Nat}(hB1:B≤1048576){s:XStore}(h:s.Ok B)(f:List UInt8):ag Ph aE 413 [s.v,fM f]=some (.one (.own 4 ((mQ f s.items).map XItem.e))):=by
 have hB:B≤maxLen:=by unfold maxLen;omega
 have hl:s.items.length≤1048576:=Nat.le_trans h.2.1.1 hB1
 have hok:=h.2.1.2
 refine ae (fn:=oh) rfl ?_
 simp(maxSteps:=9999999) [oh]
 refine cF aT Cl.fin s.items.length [.f,.t,.f,.f,.f,.t,.f,.f,.f,.f,.f,.f,.f,.t,.t,.t,.f,.f,.f,.f,.f,.f,.f,.f,.f,.f,.f,.f,.f,.f,.f,.f,.f,.f,.f,.f,.f,.f,.f,.f,.f,.f,.f,.f,.f,.f,.f,.f,.f,.f,.f,.f] (fun k=>[(5, .one (.arr 0)),(15,aa .i64 k)]) (fun k=>[.arr 4 ((mQ f (s.items.take k)).map XItem.e)]) rfl ?_ ?_ ?_
 ·exact Kn.of [1] (by decide) (by simp[show mQ f []=[]from rfl]) (by simp)
 ·intro k hk
  have hx:=XItem.e.eq_1 s.items[k]
  have hkk:=hok _ (List.getElem_mem hk)
  have hkL:=XItem.Ok.mono hB hkk
  have f1:=ig (r:=s.items[k].rcd) hkL.2.1 f
  have f2:=qj hB1 hkk
  have hol:=Nat.le_trans (wK f (s.items.take k)) (by rw[List.length_take];exact Nat.min_le_left _ _)
  have hoo:∀y∈mQ f (s.items.take k),y.Ok B:=fun y hy=>hok y (List.mem_of_mem_take (wL hy))
  try dsimp only
  rw[Fs hk]
  generalize mQ f (s.items.take k)=out at hol hoo⊢
  unfold kw
  have hls:∀q(hq:q<out.length),_:=fun q hq=>GD (f:=f) hkL (XItem.Ok.mono hB (hoo _ (List.getElem_mem hq)))
  have hgv:gN f s.items[k]=pt s.items[k].rcd.fs f:=rfl
  rw[hgv]
  generalize pt s.items[k].rcd.fs f=u at f1⊢
  obtain⟨u1,u2⟩:=u
  cases u2
  ·simp only[cond_false]
   simp(maxSteps:=9999999) [gY,hk,aF (n:=s.items.length) (by unfold maxLen;omega) hk,aY hk,hx,f1]
  ·simp only[cond_true]
   have hd1:=F7 (f:=f) (x:=s.items[k]) (out:=out) out.length
   have hd2:=BS (f:=f) (x:=s.items[k]) (out:=out) out.length (Nat.le_refl _)
   have hd3:=BT (f:=f) (x:=s.items[k]) (out:=out) out.length (Nat.le_refl _)
   have hm:=Ft out s.items[k] (Me f s.items[k] out out.length)
   rw[hm,hx]
   clear hm
   have m1:=eF (m:=out.length+1) (z:=56) (by omega) (by omega)
   generalize Me f s.items[k] out out.length=d at hd1 hd2 hd3⊢
   simp(maxSteps:=9999999) [gY,hk,aF (n:=s.items.length) (by unfold maxLen;omega) hk,aY hk,hx,f1]
   refine LH aT Cl.kn (out.length-d) [.f,.t,.f,.f,.f,.t,.f,.t,.f,.f,.t,.f,.f,.t,.t,.t,.f,.f,.f,.f,.f,.f,.f,.f,.f,.f,.f,.f,.f,.f,.f,.f,.f,.f,.f,.f,.f,.f,.f,.f,.f,.f,.f,.f,.f,.f,.f,.f,.f,.f,.f,.f] (fun j=>[(10,aa .i64 ((out.length-j:Nat):Int))]) (fun _=>[.arr 4 (out.map XItem.e), .box [.pv (.int .i64 s.items[k].key.kind), .pv (.int .i64 s.items[k].key.n), .pv (.str s.items[k].key.text), .pv (.lst (s.items[k].rcd.fs.map XField.e))]]) 2 rfl ?_ ?_ ?_ ?_
   ·simp
   ·intro j hj
    obtain⟨q,hq⟩:∃q,out.length-j=q+1:=⟨out.length-j-1,by omega⟩
    have hq1:out.length-(j+1)=q:=by omega
    have hqo:q<out.length:=by omega
    have l1:=hls q hqo
    rw[hd2 q (by omega) hqo hqo]at l1
    have hy:=XItem.e.eq_1 out[q]
    have w4:dA 0 ((q:Int)+1)=true:=lY (by omega)
    have w5:IntKind.i64.wrap ((q:Int)+1-1)=(q:Int):=by rw[IntKind.wrap_i64];omega
    have w6:IntKind.i64.wrap (q:Int)=(q:Int):=by rw[IntKind.wrap_i64];omega
    try dsimp only
    rw[hq,hq1]
    clear hd2 hd3
    simp(maxSteps:=9999999) [f8,hk,hx,hy,hqo,l1,w4,w5,w6]
   ·have hz:out.length-(out.length-d)=d:=by omega
    try dsimp only
    rw[hz]
    cases d with
    |zero=>
     simp(maxSteps:=9999999) [f8,show dA 0 0=false from rfl]
    |succ q=>
     obtain⟨hqo,hlq⟩:=hd3 q rfl
     have l1:=hls q hqo
     rw[hlq]at l1
     have hy:=XItem.e.eq_1 out[q]
     have w4:dA 0 ((q:Int)+1)=true:=lY (by omega)
     have w5:IntKind.i64.wrap ((q:Int)+1-1)=(q:Int):=by rw[IntKind.wrap_i64];omega
     have w6:IntKind.i64.wrap (q:Int)=(q:Int):=by rw[IntKind.wrap_i64];omega
     simp(maxSteps:=9999999) [f8,hk,hx,hy,hqo,l1,w4,w5,w6]
   ·have hz:out.length-(out.length-d)=d:=by omega
    try dsimp only
    rw[hz]
    have hdi:(d:Int)≤(out.length:Int):=by omega
    simp(maxSteps:=9999999) [f2,hk,hx,aF (n:=s.items.length) (by unfold maxLen;omega) hk,hd1,hdi,m1,-cG]
    exact Kn.of [4] (by decide) (by simp) (by simp)
 ·try dsimp only
  rw[List.take_length]
  simp(maxSteps:=9999999) [gY]
theorem Ba {B:Nat}(hB1:B≤1048576){s:XStore}(h:s.Ok B)(f:List UInt8):ag Ph aE 409 [s.v,fM f]=some (.one (.own 4 ((mQ f s.items).map XItem.e))):=by
 have hB:B≤maxLen:=by unfold maxLen;omega
 have hl:s.items.length≤1048576:=Nat.le_trans h.2.1.1 hB1
 have hok:=h.2.1.2
 refine ae (fn:=ou) rfl ?_
 simp(maxSteps:=9999999) [ou]
 refine cF aT Cl.fin s.items.length [.f,.t,.t,.f,.f,.t,.t,.f,.f,.f,.f,.f,.f,.f,.f,.f,.f,.f,.f,.f,.f,.f,.f,.f,.f,.f,.f,.f,.f,.f,.f,.f,.f,.f,.f,.f,.f,.f,.f,.f,.f,.f,.f,.f,.f,.f,.f,.f,.f,.f,.f,.f,.f,.f,.f,.f,.f,.f,.f,.f,.f,.f,.f,.f,.f,.f,.f,.f,.f,.f,.f,.f] (fun k=>[(5, .one (.arr 1)),(6,aa .i64 k)]) (fun k=>[.box [.pv (.str s.name), .pv (.lst (s.items.map XItem.e)), .pv (.int .i64 s.auto)], .arr 4 ((mQ f (s.items.take k)).map XItem.e)]) rfl ?_ ?_ ?_
 ·exact Kn.of [0,1] (by decide) (by simp[show mQ f []=[]from rfl]) (by simp)
 ·intro k hk
  have hx:=XItem.e.eq_1 s.items[k]
  have hkk:=hok _ (List.getElem_mem hk)
  have hkL:=XItem.Ok.mono hB hkk
  have f1:=ii (r:=s.items[k].rcd) hkL.2.1 f
  have f2:=sL hB1 hkk
  have hol:=Nat.le_trans (wK f (s.items.take k)) (by rw[List.length_take];exact Nat.min_le_left _ _)
  have hoo:∀y∈mQ f (s.items.take k),y.Ok B:=fun y hy=>hok y (List.mem_of_mem_take (wL hy))
  try dsimp only
  rw[Fs hk]
  generalize mQ f (s.items.take k)=out at hol hoo⊢
  unfold kw
  have hls:∀q(hq:q<out.length),_:=fun q hq=>GO (f:=f) hkL (XItem.Ok.mono hB (hoo _ (List.getElem_mem hq)))
  have hgv:gN f s.items[k]=pt s.items[k].rcd.fs f:=rfl
  rw[hgv]
  generalize pt s.items[k].rcd.fs f=u at f1⊢
  obtain⟨u1,u2⟩:=u
  cases u2
  ·simp only[cond_false]
   simp(maxSteps:=9999999) [gZ,hk,aF (n:=s.items.length) (by unfold maxLen;omega) hk,aY hk,hx,f1]
  ·simp only[cond_true]
   have hd1:=F7 (f:=f) (x:=s.items[k]) (out:=out) out.length
   have hd2:=BS (f:=f) (x:=s.items[k]) (out:=out) out.length (Nat.le_refl _)
   have hd3:=BT (f:=f) (x:=s.items[k]) (out:=out) out.length (Nat.le_refl _)
   have hm:=Ft out s.items[k] (Me f s.items[k] out out.length)
   rw[hm,hx]
   clear hm
   have m1:=eF (m:=out.length+1) (z:=56) (by omega) (by omega)
   generalize Me f s.items[k] out out.length=d at hd1 hd2 hd3⊢
   simp(maxSteps:=9999999) [gZ,hk,aF (n:=s.items.length) (by unfold maxLen;omega) hk,aY hk,hx,f1]
   refine LH aT Cl.kn (out.length-d) [.f,.t,.t,.f,.f,.t,.t,.f,.f,.t,.f,.f,.f,.f,.f,.f,.f,.f,.f,.f,.f,.f,.f,.f,.f,.f,.f,.f,.f,.f,.f,.f,.f,.f,.f,.f,.f,.f,.f,.f,.f,.f,.f,.f,.f,.f,.f,.f,.f,.f,.f,.f,.f,.f,.f,.f,.f,.f,.f,.f,.f,.f,.f,.f,.f,.f,.f,.f,.f,.f,.f,.f] (fun j=>[(9,aa .i64 ((out.length-j:Nat):Int))]) (fun _=>[.box [.pv (.str s.name), .pv (.lst (s.items.map XItem.e)), .pv (.int .i64 s.auto)], .arr 4 (out.map XItem.e)]) 2 rfl ?_ ?_ ?_ ?_
   ·simp
   ·intro j hj
    obtain⟨q,hq⟩:∃q,out.length-j=q+1:=⟨out.length-j-1,by omega⟩
    have hq1:out.length-(j+1)=q:=by omega
    have hqo:q<out.length:=by omega
    have l1:=hls q hqo
    rw[hd2 q (by omega) hqo hqo]at l1
    have hy:=XItem.e.eq_1 out[q]
    have w4:dA 0 ((q:Int)+1)=true:=lY (by omega)
    have w5:IntKind.i64.wrap ((q:Int)+1-1)=(q:Int):=by rw[IntKind.wrap_i64];omega
    have w6:IntKind.i64.wrap (q:Int)=(q:Int):=by rw[IntKind.wrap_i64];omega
    try dsimp only
    rw[hq,hq1]
    clear hd2 hd3
    simp(maxSteps:=9999999) [gg,hk,hx,hy,hqo,l1,w4,w5,w6]
   ·have hz:out.length-(out.length-d)=d:=by omega
    try dsimp only
    rw[hz]
    cases d with
    |zero=>
     simp(maxSteps:=9999999) [gg,show dA 0 0=false from rfl]
    |succ q=>
     obtain⟨hqo,hlq⟩:=hd3 q rfl
     have l1:=hls q hqo
     rw[hlq]at l1
     have hy:=XItem.e.eq_1 out[q]
     have w4:dA 0 ((q:Int)+1)=true:=lY (by omega)
     have w5:IntKind.i64.wrap ((q:Int)+1-1)=(q:Int):=by rw[IntKind.wrap_i64];omega
     have w6:IntKind.i64.wrap (q:Int)=(q:Int):=by rw[IntKind.wrap_i64];omega
     simp(maxSteps:=9999999) [gg,hk,hx,hy,hqo,l1,w4,w5,w6]
   ·have hz:out.length-(out.length-d)=d:=by omega
    try dsimp only
    rw[hz]
    have hdi:(d:Int)≤(out.length:Int):=by omega
    have t1:((out.map XItem.e).take d).all (fun e=>e.length==4)=true:=by rw[←List.map_take];exact dC (e:=XItem.e) (z:=4) (fun _=>rfl) _
    have t2:((out.map XItem.e).drop d).all (fun e=>e.length==4)=true:=by rw[←List.map_drop];exact dC (e:=XItem.e) (z:=4) (fun _=>rfl) _
    have t3:=dC (e:=XItem.e) (z:=4) (fun _=>rfl) out
    have n1:min d out.length=d:=Nat.min_eq_left hd1
    have n3:d+1+(out.length-d)=out.length+1:=by omega
    have m2:=eF (m:=d+1) (z:=56) (by omega) (by omega)
    have m3:=eF (m:=d) (z:=56) (by omega) (by omega)
    have n4:List.take (out.length-d) (List.drop d (List.map XItem.e out))=List.drop d (List.map XItem.e out):=List.take_of_length_le (by simp)
    simp(maxSteps:=9999999) [n4,f2,hk,hx,aF (n:=s.items.length) (by unfold maxLen;omega) hk,hd1,hdi,t1,t2,t3,n1,n3,m1,m2,m3,-cG]
    exact Kn.of [0,7] (by decide) (by simp) (by simp)
 ·try dsimp only
  rw[List.take_length]
  simp(maxSteps:=9999999) [gZ]
theorem tG {B:Nat}(hB1:B≤1048576){s:XStore}(h:s.Ok B)(f:List UInt8):ag Ph aE 406 [s.v,fM f]=some (Qz (OQ f (mQ f s.items))):=by
 have hB:B≤maxLen:=by unfold maxLen;omega
 have e1:=A2 hB1 h f
 have hll:=Nat.le_trans (wK f s.items) (Nat.le_trans h.2.1.1 hB1)
 have hoo:∀y∈mQ f s.items,y.Ok maxLen:=fun y hy=>XItem.Ok.mono hB (h.2.1.2 y (wL hy))
 refine ae (fn:=kJ) rfl ?_
 generalize mQ f s.items=l at e1 hll hoo⊢
 unfold Qz
 simp(maxSteps:=9999999) [kJ,e1]
 refine aC aT Cl.fin [.f,.t,.f,.f,.t,.t,.f,.t,.t,.f,.f,.f,.f,.f,.f,.f,.f,.f,.f,.f,.f,.f,.f,.f,.f,.f,.f,.f,.f,.f,.f,.f,.f,.f,.f,.f,.f,.f,.f,.f,.f,.f,.f,.f,.f,.f,.f,.f,.f,.f,.f,.f,.f,.f,.f,.f,.f,.f,.f] (fun k=>[(8,aa .i64 ((k:Int)+1))]) (l.length-1) (O4 f l) rfl (by simp) (fun k hk hn=> ?_) (fun hp _=> ?_)
 ·have hk1:k+1<l.length:=by omega
  have hk0:k<l.length:=by omega
  obtain⟨i1,i2,i3,i4,i5,i6⟩:=mZ (n:=l.length) (by unfold maxLen;omega) hk1
  have f1:=ig (r:=l[k].rcd) (hoo _ (List.getElem_mem hk0)).2.1 f
  have f2:=ig (r:=l[k+1].rcd) (hoo _ (List.getElem_mem hk1)).2.1 f
  have hx:=XItem.e.eq_1 l[k]
  have hy:=XItem.e.eq_1 l[k+1]
  have hq:=Jl (f:=f) hk
  have hpe:=OP (f:=f) hk1
  unfold gN at hpe
  have ka:rt l k=l[k].key:=by simp[rt,hk0]
  have kb:rt l (k+1)=l[k+1].key:=by simp[rt,hk1]
  rw[hpe]
  rw[hpe,ka,kb]at hq
  generalize pt l[k].rcd.fs f=u at f1 hq⊢
  generalize pt l[k+1].rcd.fs f=v at f2 hq⊢
  cases hc:(u.1==v.1)
  ·simp(maxSteps:=9999999) [fv,hk0,hk1,hx,hy,i1,i2,i4,i5,i6,lY i6,f1,f2,hc]
  ·rw[hq hc hn]
   simp(maxSteps:=9999999) [fv,hk0,hk1,hx,hy,i1,i2,i4,i5,i6,lY i6,f1,f2,hc]
 ·rw[Jk hp]
  have hge:dA (((l.length-1:Nat):Int)+1) (l.length:Int)=false:=ud (by omega)
  simp(maxSteps:=9999999) [fv,hge]
theorem tT {B:Nat}(hB1:B≤1048576){s:XStore}(h:s.Ok B)(f:List UInt8):ag Ph aE 401 [s.v,fM f]=some (Qz (OQ f (mQ f s.items))):=by
 have hB:B≤maxLen:=by unfold maxLen;omega
 have e1:=Ba hB1 h f
 have hll:=Nat.le_trans (wK f s.items) (Nat.le_trans h.2.1.1 hB1)
 have hoo:∀y∈mQ f s.items,y.Ok maxLen:=fun y hy=>XItem.Ok.mono hB (h.2.1.2 y (wL hy))
 refine ae (fn:=kV) rfl ?_
 generalize mQ f s.items=l at e1 hll hoo⊢
 unfold Qz
 simp(maxSteps:=9999999) [kV,e1]
 refine aC aT Cl.fin [.f,.t,.f,.f,.t,.t,.f,.t,.t,.f,.f,.f,.f,.f,.f,.f,.f,.f,.f,.f,.f,.f,.f,.f,.f,.f,.f,.f,.f,.f,.f,.f,.f,.f,.f,.f,.f,.f,.f,.f,.f,.f,.f,.f,.f,.f,.f,.f,.f,.f,.f,.f,.f,.f,.f,.f,.f,.f,.f] (fun k=>[(8,aa .i64 ((k:Int)+1))]) (l.length-1) (O4 f l) rfl (by simp) (fun k hk hn=> ?_) (fun hp _=> ?_)
 ·have hk1:k+1<l.length:=by omega
  have hk0:k<l.length:=by omega
  obtain⟨i1,i2,i3,i4,i5,i6⟩:=mZ (n:=l.length) (by unfold maxLen;omega) hk1
  have f1:=ii (r:=l[k].rcd) (hoo _ (List.getElem_mem hk0)).2.1 f
  have f2:=ii (r:=l[k+1].rcd) (hoo _ (List.getElem_mem hk1)).2.1 f
  have hx:=XItem.e.eq_1 l[k]
  have hy:=XItem.e.eq_1 l[k+1]
  have hq:=Jl (f:=f) hk
  have hpe:=OP (f:=f) hk1
  unfold gN at hpe
  have ka:rt l k=l[k].key:=by simp[rt,hk0]
  have kb:rt l (k+1)=l[k+1].key:=by simp[rt,hk1]
  rw[hpe]
  rw[hpe,ka,kb]at hq
  generalize pt l[k].rcd.fs f=u at f1 hq⊢
  generalize pt l[k+1].rcd.fs f=v at f2 hq⊢
  cases hc:(u.1==v.1)
  ·simp(maxSteps:=9999999) [fw,hk0,hk1,hx,hy,i1,i2,i4,i5,i6,lY i6,f1,f2,hc]
  ·rw[hq hc hn]
   simp(maxSteps:=9999999) [fw,hk0,hk1,hx,hy,i1,i2,i4,i5,i6,lY i6,f1,f2,hc]
 ·rw[Jk hp]
  have hge:dA (((l.length-1:Nat):Int)+1) (l.length:Int)=false:=ud (by omega)
  simp(maxSteps:=9999999) [fw,hge]
def NL (ss:List XStore)(k:Nat):Bool:=match ss[k]?,ss[k-1]? with
 |some x,some y=> !(lV x)||(dA 0 k&& !(Op.bytesLess y.name x.name))
 |_,_=>false
def o6 (a b:XIndexDef):Bool:=a.store==b.store&&a.field==b.field
theorem Du (a b:XIndexDef):o6 a b=o6 b a:=by unfold o6;rw[Bool.beq_comm (a:=a.store),Bool.beq_comm (a:=a.field)]
def HQ (us:List XIndexDef)(k:Nat):Bool:=match us[k]? with
 |some u=>fA k (io (o6 u) us)
 |none=>false
def D3 (ss:List XStore)(us:List XIndexDef)(k:Nat):Bool:=match us[k]? with
 |some u=>match ss.find? (Pn u.store)with
  |some s=> !(cC u.field)||(HQ us k||(OQ u.field (mQ u.field s.items)).2.2)
  |none=>true
 |none=>false
def JZ (d:XDatabase):Bool:=cC d.name&&(rg d.version 0 1000&&(!(dA 4 d.stores.length)&&(!(dA 4 d.unique.length)&&(!(fA d.stores.length (NL d.stores))&& !(fA d.unique.length (D3 d.stores d.unique))))))
theorem Fo {α:Type}(p:α→Bool)(xs:List α):(ib p xs= -1∧xs.find? p=none)∨∃j,∃hj:j<xs.length,ib p xs=(j:Int)∧xs.find? p=some xs[j]:=by
 unfold ib
 cases h:xs.findIdx? p with
 |none=>exact .inl ⟨rfl,by rw[List.findIdx?_eq_none_iff]at h;rw[List.find?_eq_none];exact fun x hx=>by simp[h x hx]⟩
 |some i=>
  rw[List.findIdx?_eq_some_iff_getElem]at h
  obtain⟨h1,h2,h3⟩:=h
  refine .inr ⟨i,h1,rfl,?_⟩
  rw[List.find?_eq_some_iff_getElem]
  exact⟨h2,i,h1,rfl,fun j hj=>by simpa using h3 j hj⟩
theorem Mv {p:XIndexDef→Bool}{us:List XIndexDef}{k:Nat}(hk:k<us.length):(!(dA (ib p (us.take k)) 0))=fA k (io p us):=by
 have at':∀j,j<k→io p (us.take k) j=io p us j:=fun j hj=>by simp[io,List.getElem?_take,hj]
 rcases K0 p (us.take k)with h|⟨j,hj,h1,h2⟩
 ·rw[h,lY (by omega)]
  refine(Jw fun j hj=> ?_).symm
  have hj2:j<(us.take k).length:=by simp;omega
  rw[←at' j hj]
  have:=KZ h _ (List.getElem_mem hj2)
  simp only[io,List.getElem?_eq_getElem hj2];exact this
 ·have hj2:j<k:=by simp at hj;omega
  rw[h1,ud (by omega)]
  refine(Jx hj2 ?_).symm
  rw[←at' j hj2];simp only[io,List.getElem?_eq_getElem hj];exact h2
theorem C4 {us:List XIndexDef}(hl:us.length≤maxLen)(x:XIndexDef):ag Ph aE 412 [bm (us.map XIndexDef.e),x.v]=some (aa .i64 (ib (o6 x) us)):=by
 refine ae (fn:=db) rfl ?_
 simp +contextual (maxSteps:=9999999) [db]
 refine aC aT Cl.fin [.t,.f,.f,.t,.f,.f,.f,.t,.t,.f,.f,.f,.f,.f,.f,.f,.f,.f,.f] (fun k=>[(8,aa .i64 k)]) us.length (io (o6 x) us) rfl (by simp) (fun k hk hj=> ?_) (fun hj _=> ?_)
 ·have hf:=yM hk hj
  simp +contextual (maxSteps:=9999999) [bT,io,o6,hk,hf,aF hl hk,aY hk,XIndexDef.e.eq_1 us[k],pq,Nu]
 ·simp +contextual (maxSteps:=9999999) [bT,CN hj]
theorem wM {us:List XIndexDef}(hl:us.length≤maxLen)(x:XIndexDef):ag Ph aE 405 [bm (us.map XIndexDef.e),x.v]=some (au (!(dA (ib (o6 x) us) 0))):=by
 have e1:=C4 hl x
 refine ae (fn:=cJ) rfl ?_
 simp +contextual (maxSteps:=9999999) [cJ,e1]
theorem vp {B:Nat}(hB1:B≤1048576){d:XDatabase}(h:d.Ok B):ag Ph aE 397 [d.v]=some (au (JZ d)):=by
 have hB:B≤maxLen:=by unfold maxLen;omega
 obtain⟨hn,hv,⟨hsl,hs⟩,hul,hu⟩:=h
 have e1:=bn (Nat.le_trans hn hB)
 have e2:=aZ d.version 0 1000
 have hsL:d.stores.length≤maxLen:=Nat.le_trans hsl hB
 have huL:d.unique.length≤maxLen:=Nat.le_trans hul hB
 unfold JZ
 refine ae (fn:=eM) rfl ?_
 cases c1:cC d.name<;>rw[c1]at e1
 ·simp(maxSteps:=9999999) [eM,e1]
 cases c2:rg d.version 0 1000<;>rw[c2]at e2
 ·simp(maxSteps:=9999999) [eM,e1,e2]
 cases c3:dA 4 d.stores.length
 rotate_left
 ·simp(maxSteps:=9999999) [eM,e1,e2,c3]
 cases c4:dA 4 d.unique.length
 rotate_left
 ·simp(maxSteps:=9999999) [eM,e1,e2,c3,c4]
 simp(maxSteps:=9999999) [eM,e1,e2,c3,c4]
 refine aC aT Cl.fin [.f,.t,.f,.f,.f,.f,.f,.f,.f,.f,.f,.f,.f,.f,.f,.f,.f,.f,.f,.f,.f,.f,.f,.f,.f,.f,.f,.f,.f,.f,.f,.f,.f,.f,.t,.t,.t,.f,.f,.f,.f,.f,.f,.f,.f,.f,.f,.f,.f,.f,.f,.f,.f,.f,.f,.f,.f,.f,.f,.f,.f,.f,.f,.f,.f,.f,.f,.f,.f,.f,.f,.f,.f,.f,.f,.f,.f,.f,.f,.f,.f,.f,.f,.f,.f,.f,.f,.f,.f,.f,.f,.f,.f,.f,.f,.f,.f,.f,.f,.f,.f,.f,.f] (fun k=>[(36,aa .i64 k)]) d.stores.length (NL d.stores) rfl (by simp) (fun k hk _=> ?_) (fun _ hp=> ?_)
 ·obtain⟨q1,q2⟩:=tN hsL hk
  have e3:=nC (XStore.Ok.mono hB (hs _ (List.getElem_mem hk)))
  simp +contextual (maxSteps:=9999999) [fO,NL,hk,q1,q2,aF hsL hk,aY hk,XStore.e.eq_1 d.stores[k],XStore.e.eq_1 d.stores[k-1],e3]
 ·simp(maxSteps:=9999999) [fO,hp]
  refine aC aT Cl.fin [.f,.t,.f,.f,.f,.f,.f,.f,.f,.f,.f,.f,.f,.f,.f,.f,.f,.f,.f,.f,.f,.f,.f,.f,.f,.f,.f,.f,.f,.f,.f,.f,.f,.f,.f,.f,.f,.f,.f,.f,.f,.f,.f,.f,.f,.f,.f,.f,.f,.f,.f,.f,.f,.f,.f,.f,.f,.f,.f,.f,.f,.f,.t,.t,.t,.f,.f,.f,.f,.f,.f,.f,.f,.f,.f,.f,.f,.f,.f,.f,.f,.f,.f,.f,.f,.f,.f,.f,.f,.f,.f,.f,.f,.f,.f,.f,.f,.f,.f,.f,.f,.f,.f] (fun k=>[(64,aa .i64 k)]) d.unique.length (D3 d.stores d.unique) rfl (by simp) (fun k hk _=> ?_) (fun _ hp=> ?_)
  ·have e3:=wQ (d:=d) hsL d.unique[k].store
   have e4:=bn (Nat.le_trans (hu _ (List.getElem_mem hk)).2 hB)
   have e5:=wM (us:=d.unique.take k) (by rw[List.length_take];omega) d.unique[k]
   rw[Mv hk]at e5
   have hdup:HQ d.unique k=fA k (io (o6 d.unique[k]) d.unique):=by simp[HQ,hk]
   rw[←hdup]at e5
   rw[List.map_take]at e5
   have hx:=XIndexDef.e.eq_1 d.unique[k]
   have w:=dC (e:=XIndexDef.e) (z:=2) (fun _=>rfl) d.unique
   rcases Fo (Pn d.unique[k].store) d.stores with⟨h1,h2⟩|⟨j,hj,h1,h2⟩<;>rw[h1]at e3
   ·rw[show D3 d.stores d.unique k=true by simp[D3,hk,h2]]
    simp +contextual (maxSteps:=9999999) [fP,hk,e3,hx,aF huL hk,aY hk,show dA (-1) 0=true from rfl]
   ·have e6:=tG hB1 (hs _ (List.getElem_mem hj)) d.unique[k].field
    have hy:=XStore.e.eq_1 d.stores[j]
    rw[show D3 d.stores d.unique k=(!(cC d.unique[k].field)||(HQ d.unique k||(OQ d.unique[k].field (mQ d.unique[k].field d.stores[j].items)).2.2)) by simp[D3,hk,h2]]
    generalize OQ d.unique[k].field (mQ d.unique[k].field d.stores[j].items)=T at e6⊢
    unfold Qz at e6
    generalize cC d.unique[k].field=N at e4⊢
    generalize HQ d.unique k=D at e5⊢
    simp +contextual (maxSteps:=9999999) [fP,hk,hj,e3,e4,e5,e6,hx,hy,w,Nat.le_of_lt hk,aF huL hk,aY hk,Df]
  ·simp(maxSteps:=9999999) [fP,hp]
theorem Cl.imp {call:Nat→List V→Option V}(hc:k9 call){Q:Ex→St→Prop}(hQ:Cl Q){ks:List Fr}(hz:kz ks=true){A:Prop}:Cl (fun e τ=>A→wp call Q ks (some (e,τ))):=fun e σ τ k h a=>Jp hc hQ hz k (h a)
theorem vI {B:Nat}(hB1:B≤1048576){d:XDatabase}(h:d.Ok B):ag Ph aE 393 [d.v]=some (au (JZ d)):=by
 have hB:B≤maxLen:=by unfold maxLen;omega
 obtain⟨hn,hv,⟨hsl,hs⟩,hul,hu⟩:=h
 have e1:=co (Nat.le_trans hn hB)
 have e2:=bq d.version 0 1000
 have hsL:d.stores.length≤maxLen:=Nat.le_trans hsl hB
 have huL:d.unique.length≤maxLen:=Nat.le_trans hul hB
 unfold JZ
 refine ae (fn:=lJ) rfl ?_
 simp(maxSteps:=9999999) [lJ]
 refine aC aT Cl.fin [.f,.t,.f,.t,.f,.f,.f,.f,.f,.f,.f,.f,.f,.f,.f,.f,.f,.f,.f,.f,.f,.f,.f,.f,.f,.f,.f,.f,.f,.f,.f,.f,.f,.f,.f,.f,.f,.f,.f,.f,.f,.f,.f,.f,.f,.f,.f,.f,.f,.f,.f,.f,.f,.f,.f,.f,.f,.f,.f,.f,.f,.f,.f,.f,.f,.f,.f,.f,.f,.f,.f,.f,.f,.f,.f,.f,.f,.f,.f,.f,.f,.f,.f,.f,.f,.f,.f,.f,.f,.f,.f,.f,.f,.f,.f,.f,.f,.f,.f,.f,.f,.f,.f,.f,.f,.f,.f,.f,.f,.f,.f,.f,.f,.f,.f,.f,.f,.f,.f,.f,.f,.f,.f,.f] (fun k=>[(3,aa .i64 k)]) d.stores.length (NL d.stores) rfl (by simp) (fun k hk _=> ?_) (fun _ hp=> ?_)
 ·obtain⟨q1,q2⟩:=tN hsL hk
  have e3:=nD (XStore.Ok.mono hB (hs _ (List.getElem_mem hk)))
  simp +contextual (maxSteps:=9999999) [eR,NL,hk,q1,q2,aF hsL hk,aY hk,XStore.e.eq_1 d.stores[k],XStore.e.eq_1 d.stores[k-1],e3]
 ·simp(maxSteps:=9999999) [eR,hp]
  refine aC aT Cl.fin [.f,.t,.f,.f,.t,.f,.f,.f,.f,.f,.f,.f,.f,.f,.f,.f,.f,.f,.f,.f,.f,.f,.f,.f,.f,.f,.f,.f,.f,.f,.f,.f,.f,.f,.f,.f,.f,.f,.f,.f,.f,.f,.f,.f,.f,.f,.f,.f,.f,.f,.f,.f,.f,.f,.f,.f,.f,.f,.f,.f,.f,.f,.f,.f,.f,.f,.f,.f,.f,.f,.f,.f,.f,.f,.f,.f,.f,.f,.f,.f,.f,.f,.f,.f,.f,.f,.f,.f,.f,.f,.f,.f,.f,.f,.f,.f,.f,.f,.f,.f,.f,.f,.f,.f,.f,.f,.f,.f,.f,.f,.f,.f,.f,.f,.f,.f,.f,.f,.f,.f,.f,.f,.f,.f] (fun k=>[(4,aa .i64 k)]) d.unique.length (D3 d.stores d.unique) rfl (by simp) (fun k hk _=> ?_) (fun _ hp=> ?_)
  ·have e3:=xn (d:=d) hsL d.unique[k].store
   have e4:=co (Nat.le_trans (hu _ (List.getElem_mem hk)).2 hB)
   have hdup:HQ d.unique k=fA k (io (o6 d.unique[k]) d.unique):=by simp[HQ,hk]
   have hx:=XIndexDef.e.eq_1 d.unique[k]
   rcases Fo (Pn d.unique[k].store) d.stores with⟨h1,h2⟩|⟨j,hj,h1,h2⟩<;>rw[h1]at e3
   ·rw[show D3 d.stores d.unique k=true by simp[D3,hk,h2]]
    simp +contextual (maxSteps:=9999999) [dw,hk,e3,hx,aF huL hk,aY hk,show dA (-1) 0=true from rfl]
   ·have e6:=tT hB1 (hs _ (List.getElem_mem hj)) d.unique[k].field
    have hy:=XStore.e.eq_1 d.stores[j]
    rw[show D3 d.stores d.unique k=(!(cC d.unique[k].field)||(HQ d.unique k||(OQ d.unique[k].field (mQ d.unique[k].field d.stores[j].items)).2.2)) by simp[D3,hk,h2],hdup]
    generalize OQ d.unique[k].field (mQ d.unique[k].field d.stores[j].items)=T at e6⊢
    unfold Qz at e6
    generalize cC d.unique[k].field=N at e4⊢
    cases N
    ·simp +contextual (maxSteps:=9999999) [dw,hk,hj,e3,e4,e6,hx,hy,aF huL hk,aY hk,Df]
    cases hT:T.2.2<;>rw[hT]at e6
    rotate_left
    ·simp +contextual (maxSteps:=9999999) [dw,hk,hj,e3,e4,e6,hx,hy,aF huL hk,aY hk,Df]
    cases hD:fA k (io (o6 d.unique[k]) d.unique)
    ·simp(maxSteps:=9999999) [dw,hk,hj,e3,e4,e6,hx,hy,aF huL hk,aY hk,Df]
     refine aC aT (Cl.kn) [.f,.t,.f,.f,.t,.f,.f,.f,.f,.t,.f,.f,.f,.f,.f,.f,.f,.f,.f,.f,.f,.f,.f,.f,.f,.f,.f,.f,.f,.f,.f,.f,.f,.f,.f,.f,.f,.f,.f,.f,.f,.f,.f,.f,.f,.f,.f,.f,.f,.f,.f,.f,.f,.f,.f,.f,.f,.f,.f,.f,.f,.f,.f,.f,.f,.f,.f,.f,.f,.f,.f,.f,.f,.f,.f,.f,.f,.f,.f,.f,.f,.f,.f,.f,.f,.f,.f,.f,.f,.f,.f,.f,.f,.f,.f,.f,.f,.f,.f,.f,.f,.f,.f,.f,.f,.f,.f,.f,.f,.f,.f,.f,.f,.f,.f,.f,.f,.f,.f,.f,.f,.f,.f,.f] (fun j=>[(9,aa .i64 j)]) k (io (o6 d.unique[k]) d.unique) rfl (by simp) (fun i hi _=> ?_) (fun _ hq=> ?_)
     ·have hi2:i<d.unique.length:=by omega
      have hcm:o6 d.unique[k] d.unique[i]=(d.unique[i].store==d.unique[k].store&&d.unique[i].field==d.unique[k].field):=Du _ _
      simp +contextual (maxSteps:=9999999) [eS,io,hcm,hi2,hk,hx,XIndexDef.e.eq_1 d.unique[i],pq,Nu,aF huL hi2,aY hi,hD]
     ·simp(maxSteps:=9999999) [eS,aF huL hk]
    ·simp(maxSteps:=9999999) [dw,hk,hj,e3,e4,e6,hx,hy,aF huL hk,aY hk,Df]
     refine aC aT (Cl.imp aT Cl.fin rfl) [.f,.t,.f,.f,.t,.f,.f,.f,.f,.t,.f,.f,.f,.f,.f,.f,.f,.f,.f,.f,.f,.f,.f,.f,.f,.f,.f,.f,.f,.f,.f,.f,.f,.f,.f,.f,.f,.f,.f,.f,.f,.f,.f,.f,.f,.f,.f,.f,.f,.f,.f,.f,.f,.f,.f,.f,.f,.f,.f,.f,.f,.f,.f,.f,.f,.f,.f,.f,.f,.f,.f,.f,.f,.f,.f,.f,.f,.f,.f,.f,.f,.f,.f,.f,.f,.f,.f,.f,.f,.f,.f,.f,.f,.f,.f,.f,.f,.f,.f,.f,.f,.f,.f,.f,.f,.f,.f,.f,.f,.f,.f,.f,.f,.f,.f,.f,.f,.f,.f,.f,.f,.f,.f,.f] (fun j=>[(9,aa .i64 j)]) k (io (o6 d.unique[k]) d.unique) rfl (by simp) (fun i hi _=> ?_) (fun _ hq=> ?_)
     ·have hi2:i<d.unique.length:=by omega
      have hcm:o6 d.unique[k] d.unique[i]=(d.unique[i].store==d.unique[k].store&&d.unique[i].field==d.unique[k].field):=Du _ _
      simp +contextual (maxSteps:=9999999) [eS,io,hcm,hi2,hk,hx,XIndexDef.e.eq_1 d.unique[i],pq,Nu,aF huL hi2,aY hi,hD]
     ·rw[hD]at hq;cases hq
  ·simp +contextual (maxSteps:=9999999) [dw,hp,e1,e2]
end Gi
