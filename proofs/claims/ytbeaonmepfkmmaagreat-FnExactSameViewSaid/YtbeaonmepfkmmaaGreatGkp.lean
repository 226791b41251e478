/- Of this proof. -/
import Derived.Test.YtbeaonmepfkmmaaGreatGoQ
set_option linter.unusedSimpArgs false
set_option linter.unusedVariables false
namespace Gi
open Go Go.RowKit
set_option maxHeartbeats 8000000
set_option maxRecDepth 4000
attribute [local simp] start nx bZ cJ cB dB cA dA dG dF og oA oh oB ol oC om oD oq oE ot oF ou oG ov oH oz oI V.cells plain bt gD isInt isStr isBool bin bM fF bN fG dC un asList L.view au V.view viewL aT az bQ bd b6 comp aN bU cy bI aY aW aX ar aj aE ah aq aO am aR bw aA aZ a9 V.flat L.flat cZ cV br putAt thaw thawL thawT V.ow dE cD cE bO dD bP cC freezeVs freezeLs freezeL V.mut L.mut aH cd eW bg bF aP dN cu bK cH L.ren aJ cS bX cY bW bE wp_seq wp_block aM cG bR bf bS wp_skip wp_exit wp_ret b9 b8 cj ca cr ct cq bH aF L.notArr bq bo bp cF b7 storeD aS eB ba bY aQ kX L.mov L.closed V.closed PV.bare PV.flat
def gN (f:List UInt8)(x:XItem):Int×Bool:=m8 x.rcd.fs f
def wB (f:List UInt8)(a b:XItem):Bool:=cw (gN f a).1 (gN f b).1||((gN f a).1==(gN f b).1&&cw (pA a.key b.key) 0)
def Of (f:List UInt8)(x:XItem)(out:List XItem):Nat→Nat
 |0=>0
 |n+1=>match out[n]? with
  |none=>n+1
  |some y=>cond (wB f x y) (Of f x out n) (n+1)
theorem Hj {f:List UInt8}{x:XItem}{out:List XItem}:∀n,Of f x out n≤n
 |0=>Nat.le_refl _
 |n+1=>by
  unfold Of
  cases out[n]? with
  |none=>exact Nat.le_refl _
  |some y=>
   cases h:wB f x y with
   |true=>simp only[h,cond_true];exact Nat.le_succ_of_le (Hj n)
   |false=>simp only[h,cond_false];exact Nat.le_refl _
theorem C7 {f:List UInt8}{x:XItem}{out:List XItem}:∀n,n≤out.length→∀p,Of f x out n≤p→∀(hp:p<n)(ho:p<out.length),wB f x out[p]=true
 |0,_,p,_,hp,_=>by omega
 |n+1,hn,p,h,hp,ho=>by
  unfold Of at h
  have hn':n<out.length:=by omega
  rw[List.getElem?_eq_getElem hn']at h
  simp only at h
  cases q:wB f x out[n]with
  |true=>
   rw[q,cond_true]at h
   by_cases e:p=n
   ·subst e;exact q
   ·exact C7 n (by omega) p h (by omega) ho
  |false=>rw[q,cond_false]at h;omega
theorem C8 {f:List UInt8}{x:XItem}{out:List XItem}:∀n,n≤out.length→∀j,Of f x out n=j+1→∃h:j<out.length,wB f x out[j]=false
 |0,_,j,h=>by simp[Of]at h
 |n+1,hn,j,h=>by
  unfold Of at h
  have hn':n<out.length:=by omega
  rw[List.getElem?_eq_getElem hn']at h
  simp only at h
  cases q:wB f x out[n]with
  |true=>rw[q,cond_true]at h;exact C8 n (by omega) j h
  |false=>
   rw[q,cond_false]at h
   obtain rfl:n=j:=by omega
   exact⟨hn',q⟩
def Ee (out:List XItem)(x:XItem)(p:Nat):List XItem:=out.take p++x::out.drop p
def lE (f:List UInt8)(out:List XItem)(x:XItem):List XItem:=cond (gN f x).2 (Ee out x (Of f x out out.length)) out
def nU (f:List UInt8)(xs:List XItem):List XItem:=xs.foldl (lE f) []
theorem Gw {f:List UInt8}{xs:List XItem}{k:Nat}(hk:k<xs.length):nU f (xs.take (k+1))=lE f (nU f (xs.take k)) xs[k]:=by
 unfold nU
 rw[List.take_succ_eq_append_getElem hk,List.foldl_append]
 rfl
theorem Gx (out:List XItem)(x:XItem)(p:Nat):(Ee out x p).map XItem.e=(out.map XItem.e).take p++x.e::(out.map XItem.e).drop p:=by simp[Ee,List.map_take,List.map_drop]
theorem OO {out:List XItem}{x y:XItem}{p:Nat}(h:y∈Ee out x p):y=x∨y∈out:=by
 unfold Ee at h
 rcases List.mem_append.1 h with h|h
 ·exact .inr (List.mem_of_mem_take h)
 ·rcases List.mem_cons.1 h with h|h
  ·exact .inl h
  ·exact .inr (List.mem_of_mem_drop h)
theorem ON (out:List XItem)(x:XItem){p:Nat}(h:p≤out.length):(Ee out x p).length=out.length+1:=by simp[Ee];omega
theorem JR {f:List UInt8}{out:List XItem}{x y:XItem}(h:y∈lE f out x):y=x∨y∈out:=by
 unfold lE at h
 cases q:(gN f x).2 with
 |true=>rw[q,cond_true]at h;exact OO h
 |false=>rw[q,cond_false]at h;exact .inr h
theorem wv {f:List UInt8}:∀(xs out:List XItem)(y:XItem),y∈xs.foldl (lE f) out→y∈xs∨y∈out
 |[],out,y,h=> .inr h
 |x::xs,out,y,h=>by
  rcases wv xs (lE f out x) y h with h|h
  ·exact .inl (List.mem_cons_of_mem _ h)
  ·rcases JR h with rfl|h
   ·exact .inl List.mem_cons_self
   ·exact .inr h
theorem yA {f:List UInt8}{xs:List XItem}{y:XItem}(h:y∈nU f xs):y∈xs:=by
 rcases wv xs [] y h with h|h
 ·exact h
 ·cases h
theorem JQ {f:List UInt8}{out:List XItem}{x:XItem}:(lE f out x).length≤out.length+1:=by
 unfold lE
 cases(gN f x).2 with
 |true=>rw[cond_true,ON _ _ (Hj _)];exact Nat.le_refl _
 |false=>rw[cond_false];omega
theorem wu {f:List UInt8}:∀(xs out:List XItem),(xs.foldl (lE f) out).length≤out.length+xs.length
 |[],out=>by simp
 |x::xs,out=>by
  have h1:=wu (f:=f) xs (lE f out x)
  have h2:=JQ (f:=f) (out:=out) (x:=x)
  simp only[List.foldl_cons,List.length_cons]
  omega
theorem yz (f:List UInt8)(xs:List XItem):(nU f xs).length≤xs.length:=by
 have:=wu (f:=f) xs []
 simpa[nU]using this
def ua (l:List XItem)(k:Nat):XKey:=match l[k]? with
 |some x=>x.key
 |none=>⟨0,0,[]⟩
def RB (f:List UInt8)(l:List XItem)(k:Nat):Bool:=match l[k]?,l[k+1]? with
 |some a,some b=>(gN f a).1==(gN f b).1
 |_,_=>false
theorem Rm {f:List UInt8}{l:List XItem}{k:Nat}(hk:k+1<l.length):RB f l k=((gN f (l[k]'(by omega))).1==(gN f l[k+1]).1):=by
 have:k<l.length:=by omega
 simp[RB,hk,this]
def Rn (f:List UInt8)(l:List XItem):XKey×XKey×Bool:=match(List.range (l.length-1)).find? (RB f l)with
 |some k=>(ua l k,ua l (k+1),true)
 |none=>(⟨0,0,[]⟩,⟨0,0,[]⟩,false)
theorem La {f:List UInt8}{l:List XItem}{k:Nat}(hk:k<l.length-1)(h:RB f l k=true)(hn:∀j,j<k→RB f l j=false):Rn f l=(ua l k,ua l (k+1),true):=by
 have:(List.range (l.length-1)).find? (RB f l)=some k:=by
  rw[List.find?_range_eq_some]
  exact⟨h,List.mem_range.2 hk,fun j hj=>by simp[hn j hj]⟩
 simp only[Rn,this]
theorem K9 {f:List UInt8}{l:List XItem}(hn:∀j,j<l.length-1→RB f l j=false):Rn f l=(⟨0,0,[]⟩,⟨0,0,[]⟩,false):=by
 have:(List.range (l.length-1)).find? (RB f l)=none:=by
  rw[List.find?_range_eq_none]
  exact fun j hj=>by simp[hn j hj]
 simp only[Rn,this]
def TP (t:XKey×XKey×Bool):V:= .tup [(true,[.pv (.int .i64 t.1.kind), .pv (.int .i64 t.1.n), .pv (.str t.1.text)]),(true,[.pv (.int .i64 t.2.1.kind), .pv (.int .i64 t.2.1.n), .pv (.str t.2.1.text)]),(false,[.pv (.bool t.2.2)])]
section
variable {B:Nat}{f:List UInt8}
theorem HQ {f:List UInt8}{a b:XItem}(ha:a.Ok maxLen)(hb:b.Ok maxLen):ag Ph aC 415 [a.v,b.v,di f]=some (aD (wB f a b)):=by
 have e1:=gU ha.2.1 f
 have e2:=gU hb.2.1 f
 have e3:=ft ha.1 hb.1
 unfold wB gN
 generalize m8 a.rcd.fs f=u at e1⊢
 generalize m8 b.rcd.fs f=v at e2⊢
 obtain⟨w,hw⟩:∃w,(u.1==v.1)=w:=⟨_,rfl⟩
 rw[hw]
 refine aa (fn:=lY) rfl ?_
 simp +contextual (maxSteps:=9999999) [lY,e1,e2,e3,hw]
theorem Ij {f:List UInt8}{a b:XItem}(ha:a.Ok maxLen)(hb:b.Ok maxLen):ag Ph aC 414 [a.v,b.v,di f]=some (aD (wB f a b)):=by
 have e1:=gX ha.2.1 f
 have e2:=gX hb.2.1 f
 have e3:=fu ha.1 hb.1
 unfold wB gN
 generalize m8 a.rcd.fs f=u at e1⊢
 generalize m8 b.rcd.fs f=v at e2⊢
 obtain⟨w,hw⟩:∃w,(u.1==v.1)=w:=⟨_,rfl⟩
 rw[hw]
 refine aa (fn:=rZ) rfl ?_
 simp +contextual (maxSteps:=9999999) [rZ,e1,e2,e3,hw]
end
theorem Ce {B:Nat}(hB1:B≤1048576){s:XStore}(h:s.Ok B)(f:List UInt8):ag Ph aC 413 [s.v,di f]=some (.one (.own 4 ((nU f s.items).map XItem.e))):=by
 have hB:B≤maxLen:=by unfold maxLen;omega
 have hl:s.items.length≤1048576:=Nat.le_trans h.2.1.1 hB1
 have hok:=h.2.1.2
 refine aa (fn:=qa) rfl ?_
 simp(maxSteps:=9999999) [qa]
 refine iB bG Cl.fin s.items.length [.f,.t,.f,.f,.f,.t,.f,.f,.f,.f,.f,.f,.f,.t,.t,.t,.f,.f,.f,.f,.f,.f,.f,.f,.f,.f,.f,.f,.f,.f,.f,.f,.f,.f,.f,.f,.f,.f,.f,.f,.f,.f,.f,.f,.f,.f,.f,.f,.f,.f,.f,.f] (fun k=>[(5, .one (.arr 0)),(15,ai .i64 k)]) (fun k=>[.arr 4 ((nU f (s.items.take k)).map XItem.e)]) rfl ?_ ?_ ?_
 ·exact Kn.of [1] (by decide) (by simp[show nU f []=[]from rfl]) (by simp)
 ·intro k hk
  have hx:=XItem.e.eq_1 s.items[k]
  have hkk:=hok _ (List.getElem_mem hk)
  have hkL:=XItem.Ok.mono hB hkk
  have f1:=gU (r:=s.items[k].rcd) hkL.2.1 f
  have f2:=sC hB1 hkk
  have hol:=Nat.le_trans (yz f (s.items.take k)) (by rw[List.length_take];exact Nat.min_le_left _ _)
  have hoo:∀y∈nU f (s.items.take k),y.Ok B:=fun y hy=>hok y (List.mem_of_mem_take (yA hy))
  try dsimp only
  rw[Gw hk]
  generalize nU f (s.items.take k)=out at hol hoo⊢
  unfold lE
  have hls:∀q(hq:q<out.length),_:=fun q hq=>HQ (f:=f) hkL (XItem.Ok.mono hB (hoo _ (List.getElem_mem hq)))
  have hgv:gN f s.items[k]=m8 s.items[k].rcd.fs f:=rfl
  rw[hgv]
  generalize m8 s.items[k].rcd.fs f=u at f1⊢
  obtain⟨u1,u2⟩:=u
  cases u2
  ·simp only[cond_false]
   simp(maxSteps:=9999999) [iQ,hk,aU (n:=s.items.length) (by unfold maxLen;omega) hk,a8 hk,hx,f1]
  ·simp only[cond_true]
   have hd1:=Hj (f:=f) (x:=s.items[k]) (out:=out) out.length
   have hd2:=C7 (f:=f) (x:=s.items[k]) (out:=out) out.length (Nat.le_refl _)
   have hd3:=C8 (f:=f) (x:=s.items[k]) (out:=out) out.length (Nat.le_refl _)
   have hm:=Gx out s.items[k] (Of f s.items[k] out out.length)
   rw[hm,hx]
   clear hm
   have m1:=gV (m:=out.length+1) (z:=56) (by omega) (by omega)
   generalize Of f s.items[k] out out.length=d at hd1 hd2 hd3⊢
   simp(maxSteps:=9999999) [iQ,hk,aU (n:=s.items.length) (by unfold maxLen;omega) hk,a8 hk,hx,f1]
   refine NP bG Cl.kn (out.length-d) [.f,.t,.f,.f,.f,.t,.f,.t,.f,.f,.t,.f,.f,.t,.t,.t,.f,.f,.f,.f,.f,.f,.f,.f,.f,.f,.f,.f,.f,.f,.f,.f,.f,.f,.f,.f,.f,.f,.f,.f,.f,.f,.f,.f,.f,.f,.f,.f,.f,.f,.f,.f] (fun j=>[(10,ai .i64 ((out.length-j:Nat):Int))]) (fun _=>[.arr 4 (out.map XItem.e), .box [.pv (.int .i64 s.items[k].key.kind), .pv (.int .i64 s.items[k].key.n), .pv (.str s.items[k].key.text), .pv (.lst (s.items[k].rcd.fs.map XField.e))]]) 2 rfl ?_ ?_ ?_ ?_
   ·simp
   ·intro j hj
    obtain⟨q,hq⟩:∃q,out.length-j=q+1:=⟨out.length-j-1,by omega⟩
    have hq1:out.length-(j+1)=q:=by omega
    have hqo:q<out.length:=by omega
    have l1:=hls q hqo
    rw[hd2 q (by omega) hqo hqo]at l1
    have hy:=XItem.e.eq_1 out[q]
    have w4:cw 0 ((q:Int)+1)=true:=eJ (by omega)
    have w5:IntKind.i64.wrap ((q:Int)+1-1)=(q:Int):=by rw[IntKind.wrap_i64];omega
    have w6:IntKind.i64.wrap (q:Int)=(q:Int):=by rw[IntKind.wrap_i64];omega
    try dsimp only
    rw[hq,hq1]
    clear hd2 hd3
    simp(maxSteps:=9999999) [gO,hk,hx,hy,hqo,l1,w4,w5,w6]
   ·have hz:out.length-(out.length-d)=d:=by omega
    try dsimp only
    rw[hz]
    cases d with
    |zero=>
     simp(maxSteps:=9999999) [gO,show cw 0 0=false from rfl]
    |succ q=>
     obtain⟨hqo,hlq⟩:=hd3 q rfl
     have l1:=hls q hqo
     rw[hlq]at l1
     have hy:=XItem.e.eq_1 out[q]
     have w4:cw 0 ((q:Int)+1)=true:=eJ (by omega)
     have w5:IntKind.i64.wrap ((q:Int)+1-1)=(q:Int):=by rw[IntKind.wrap_i64];omega
     have w6:IntKind.i64.wrap (q:Int)=(q:Int):=by rw[IntKind.wrap_i64];omega
     simp(maxSteps:=9999999) [gO,hk,hx,hy,hqo,l1,w4,w5,w6]
   ·have hz:out.length-(out.length-d)=d:=by omega
    try dsimp only
    rw[hz]
    have hdi:(d:Int)≤(out.length:Int):=by omega
    simp(maxSteps:=9999999) [f2,hk,hx,aU (n:=s.items.length) (by unfold maxLen;omega) hk,hd1,hdi,m1,-cd]
    exact Kn.of [4] (by decide) (by simp) (by simp)
 ·try dsimp only
  rw[List.take_length]
  simp(maxSteps:=9999999) [iQ]
theorem Cq {B:Nat}(hB1:B≤1048576){s:XStore}(h:s.Ok B)(f:List UInt8):ag Ph aC 409 [s.v,di f]=some (.one (.own 4 ((nU f s.items).map XItem.e))):=by
 have hB:B≤maxLen:=by unfold maxLen;omega
 have hl:s.items.length≤1048576:=Nat.le_trans h.2.1.1 hB1
 have hok:=h.2.1.2
 refine aa (fn:=qi) rfl ?_
 simp(maxSteps:=9999999) [qi]
 refine iB bG Cl.fin s.items.length [.f,.t,.t,.f,.f,.t,.t,.f,.f,.f,.f,.f,.f,.f,.f,.f,.f,.f,.f,.f,.f,.f,.f,.f,.f,.f,.f,.f,.f,.f,.f,.f,.f,.f,.f,.f,.f,.f,.f,.f,.f,.f,.f,.f,.f,.f,.f,.f,.f,.f,.f,.f,.f,.f,.f,.f,.f,.f,.f,.f,.f,.f,.f,.f,.f,.f,.f,.f,.f,.f,.f,.f] (fun k=>[(5, .one (.arr 1)),(6,ai .i64 k)]) (fun k=>[.box [.pv (.str s.name), .pv (.lst (s.items.map XItem.e)), .pv (.int .i64 s.auto)], .arr 4 ((nU f (s.items.take k)).map XItem.e)]) rfl ?_ ?_ ?_
 ·exact Kn.of [0,1] (by decide) (by simp[show nU f []=[]from rfl]) (by simp)
 ·intro k hk
  have hx:=XItem.e.eq_1 s.items[k]
  have hkk:=hok _ (List.getElem_mem hk)
  have hkL:=XItem.Ok.mono hB hkk
  have f1:=gX (r:=s.items[k].rcd) hkL.2.1 f
  have f2:=qD hB1 hkk
  have hol:=Nat.le_trans (yz f (s.items.take k)) (by rw[List.length_take];exact Nat.min_le_left _ _)
  have hoo:∀y∈nU f (s.items.take k),y.Ok B:=fun y hy=>hok y (List.mem_of_mem_take (yA hy))
  try dsimp only
  rw[Gw hk]
  generalize nU f (s.items.take k)=out at hol hoo⊢
  unfold lE
  have hls:∀q(hq:q<out.length),_:=fun q hq=>Ij (f:=f) hkL (XItem.Ok.mono hB (hoo _ (List.getElem_mem hq)))
  have hgv:gN f s.items[k]=m8 s.items[k].rcd.fs f:=rfl
  rw[hgv]
  generalize m8 s.items[k].rcd.fs f=u at f1⊢
  obtain⟨u1,u2⟩:=u
  cases u2
  ·simp only[cond_false]
   simp(maxSteps:=9999999) [iS,hk,aU (n:=s.items.length) (by unfold maxLen;omega) hk,a8 hk,hx,f1]
  ·simp only[cond_true]
   have hd1:=Hj (f:=f) (x:=s.items[k]) (out:=out) out.length
   have hd2:=C7 (f:=f) (x:=s.items[k]) (out:=out) out.length (Nat.le_refl _)
   have hd3:=C8 (f:=f) (x:=s.items[k]) (out:=out) out.length (Nat.le_refl _)
   have hm:=Gx out s.items[k] (Of f s.items[k] out out.length)
   rw[hm,hx]
   clear hm
   have m1:=gV (m:=out.length+1) (z:=56) (by omega) (by omega)
   generalize Of f s.items[k] out out.length=d at hd1 hd2 hd3⊢
   simp(maxSteps:=9999999) [iS,hk,aU (n:=s.items.length) (by unfold maxLen;omega) hk,a8 hk,hx,f1]
   refine NP bG Cl.kn (out.length-d) [.f,.t,.t,.f,.f,.t,.t,.f,.f,.t,.f,.f,.f,.f,.f,.f,.f,.f,.f,.f,.f,.f,.f,.f,.f,.f,.f,.f,.f,.f,.f,.f,.f,.f,.f,.f,.f,.f,.f,.f,.f,.f,.f,.f,.f,.f,.f,.f,.f,.f,.f,.f,.f,.f,.f,.f,.f,.f,.f,.f,.f,.f,.f,.f,.f,.f,.f,.f,.f,.f,.f,.f] (fun j=>[(9,ai .i64 ((out.length-j:Nat):Int))]) (fun _=>[.box [.pv (.str s.name), .pv (.lst (s.items.map XItem.e)), .pv (.int .i64 s.auto)], .arr 4 (out.map XItem.e)]) 2 rfl ?_ ?_ ?_ ?_
   ·simp
   ·intro j hj
    obtain⟨q,hq⟩:∃q,out.length-j=q+1:=⟨out.length-j-1,by omega⟩
    have hq1:out.length-(j+1)=q:=by omega
    have hqo:q<out.length:=by omega
    have l1:=hls q hqo
    rw[hd2 q (by omega) hqo hqo]at l1
    have hy:=XItem.e.eq_1 out[q]
    have w4:cw 0 ((q:Int)+1)=true:=eJ (by omega)
    have w5:IntKind.i64.wrap ((q:Int)+1-1)=(q:Int):=by rw[IntKind.wrap_i64];omega
    have w6:IntKind.i64.wrap (q:Int)=(q:Int):=by rw[IntKind.wrap_i64];omega
    try dsimp only
    rw[hq,hq1]
    clear hd2 hd3
    simp(maxSteps:=9999999) [gR,hk,hx,hy,hqo,l1,w4,w5,w6]
   ·have hz:out.length-(out.length-d)=d:=by omega
    try dsimp only
    rw[hz]
    cases d with
    |zero=>
     simp(maxSteps:=9999999) [gR,show cw 0 0=false from rfl]
    |succ q=>
     obtain⟨hqo,hlq⟩:=hd3 q rfl
     have l1:=hls q hqo
     rw[hlq]at l1
     have hy:=XItem.e.eq_1 out[q]
     have w4:cw 0 ((q:Int)+1)=true:=eJ (by omega)
     have w5:IntKind.i64.wrap ((q:Int)+1-1)=(q:Int):=by rw[IntKind.wrap_i64];omega
     have w6:IntKind.i64.wrap (q:Int)=(q:Int):=by rw[IntKind.wrap_i64];omega
     simp(maxSteps:=9999999) [gR,hk,hx,hy,hqo,l1,w4,w5,w6]
   ·have hz:out.length-(out.length-d)=d:=by omega
    try dsimp only
    rw[hz]
    have hdi:(d:Int)≤(out.length:Int):=by omega
    have t1:((out.map XItem.e).take d).all (fun e=>e.length==4)=true:=by rw[←List.map_take];exact fj (e:=XItem.e) (z:=4) (fun _=>rfl) _
    have t2:((out.map XItem.e).drop d).all (fun e=>e.length==4)=true:=by rw[←List.map_drop];exact fj (e:=XItem.e) (z:=4) (fun _=>rfl) _
    have t3:=fj (e:=XItem.e) (z:=4) (fun _=>rfl) out
    have n1:min d out.length=d:=Nat.min_eq_left hd1
    have n3:d+1+(out.length-d)=out.length+1:=by omega
    have m2:=gV (m:=d+1) (z:=56) (by omega) (by omega)
    have m3:=gV (m:=d) (z:=56) (by omega) (by omega)
    have n4:List.take (out.length-d) (List.drop d (List.map XItem.e out))=List.drop d (List.map XItem.e out):=List.take_of_length_le (by simp)
    simp(maxSteps:=9999999) [n4,f2,hk,hx,aU (n:=s.items.length) (by unfold maxLen;omega) hk,hd1,hdi,t1,t2,t3,n1,n3,m1,m2,m3,-cd]
    exact Kn.of [0,7] (by decide) (by simp) (by simp)
 ·try dsimp only
  rw[List.take_length]
  simp(maxSteps:=9999999) [iS]
theorem v7 {B:Nat}(hB1:B≤1048576){s:XStore}(h:s.Ok B)(f:List UInt8):ag Ph aC 406 [s.v,di f]=some (TP (Rn f (nU f s.items))):=by
 have hB:B≤maxLen:=by unfold maxLen;omega
 have e1:=Ce hB1 h f
 have hll:=Nat.le_trans (yz f s.items) (Nat.le_trans h.2.1.1 hB1)
 have hoo:∀y∈nU f s.items,y.Ok maxLen:=fun y hy=>XItem.Ok.mono hB (h.2.1.2 y (yA hy))
 refine aa (fn:=lS) rfl ?_
 generalize nU f s.items=l at e1 hll hoo⊢
 unfold TP
 simp(maxSteps:=9999999) [lS,e1]
 refine aL bG Cl.fin [.f,.t,.f,.f,.t,.t,.f,.t,.t,.f,.f,.f,.f,.f,.f,.f,.f,.f,.f,.f,.f,.f,.f,.f,.f,.f,.f,.f,.f,.f,.f,.f,.f,.f,.f,.f,.f,.f,.f,.f,.f,.f,.f,.f,.f,.f,.f,.f,.f,.f,.f,.f,.f,.f,.f,.f,.f,.f,.f] (fun k=>[(8,ai .i64 ((k:Int)+1))]) (l.length-1) (RB f l) rfl (by simp) (fun k hk hn=> ?_) (fun hp _=> ?_)
 ·have hk1:k+1<l.length:=by omega
  have hk0:k<l.length:=by omega
  obtain⟨i1,i2,i3,i4,i5,i6⟩:=OL (n:=l.length) (by unfold maxLen;omega) hk1
  have f1:=gU (r:=l[k].rcd) (hoo _ (List.getElem_mem hk0)).2.1 f
  have f2:=gU (r:=l[k+1].rcd) (hoo _ (List.getElem_mem hk1)).2.1 f
  have hx:=XItem.e.eq_1 l[k]
  have hy:=XItem.e.eq_1 l[k+1]
  have hq:=La (f:=f) hk
  have hpe:=Rm (f:=f) hk1
  unfold gN at hpe
  have ka:ua l k=l[k].key:=by simp[ua,hk0]
  have kb:ua l (k+1)=l[k+1].key:=by simp[ua,hk1]
  rw[hpe]
  rw[hpe,ka,kb]at hq
  generalize m8 l[k].rcd.fs f=u at f1 hq⊢
  generalize m8 l[k+1].rcd.fs f=v at f2 hq⊢
  cases hc:(u.1==v.1)
  ·simp(maxSteps:=9999999) [fZ,hk0,hk1,hx,hy,i1,i2,i4,i5,i6,eJ i6,f1,f2,hc]
  ·rw[hq hc hn]
   simp(maxSteps:=9999999) [fZ,hk0,hk1,hx,hy,i1,i2,i4,i5,i6,eJ i6,f1,f2,hc]
 ·rw[K9 hp]
  have hge:cw (((l.length-1:Nat):Int)+1) (l.length:Int)=false:=fB (by omega)
  simp(maxSteps:=9999999) [fZ,hge]
theorem wh {B:Nat}(hB1:B≤1048576){s:XStore}(h:s.Ok B)(f:List UInt8):ag Ph aC 401 [s.v,di f]=some (TP (Rn f (nU f s.items))):=by
 have hB:B≤maxLen:=by unfold maxLen;omega
 have e1:=Cq hB1 h f
 have hll:=Nat.le_trans (yz f s.items) (Nat.le_trans h.2.1.1 hB1)
 have hoo:∀y∈nU f s.items,y.Ok maxLen:=fun y hy=>XItem.Ok.mono hB (h.2.1.2 y (yA hy))
 refine aa (fn:=me) rfl ?_
 generalize nU f s.items=l at e1 hll hoo⊢
 unfold TP
 simp(maxSteps:=9999999) [me,e1]
 refine aL bG Cl.fin [.f,.t,.f,.f,.t,.t,.f,.t,.t,.f,.f,.f,.f,.f,.f,.f,.f,.f,.f,.f,.f,.f,.f,.f,.f,.f,.f,.f,.f,.f,.f,.f,.f,.f,.f,.f,.f,.f,.f,.f,.f,.f,.f,.f,.f,.f,.f,.f,.f,.f,.f,.f,.f,.f,.f,.f,.f,.f,.f] (fun k=>[(8,ai .i64 ((k:Int)+1))]) (l.length-1) (RB f l) rfl (by simp) (fun k hk hn=> ?_) (fun hp _=> ?_)
 ·have hk1:k+1<l.length:=by omega
  have hk0:k<l.length:=by omega
  obtain⟨i1,i2,i3,i4,i5,i6⟩:=OL (n:=l.length) (by unfold maxLen;omega) hk1
  have f1:=gX (r:=l[k].rcd) (hoo _ (List.getElem_mem hk0)).2.1 f
  have f2:=gX (r:=l[k+1].rcd) (hoo _ (List.getElem_mem hk1)).2.1 f
  have hx:=XItem.e.eq_1 l[k]
  have hy:=XItem.e.eq_1 l[k+1]
  have hq:=La (f:=f) hk
  have hpe:=Rm (f:=f) hk1
  unfold gN at hpe
  have ka:ua l k=l[k].key:=by simp[ua,hk0]
  have kb:ua l (k+1)=l[k+1].key:=by simp[ua,hk1]
  rw[hpe]
  rw[hpe,ka,kb]at hq
  generalize m8 l[k].rcd.fs f=u at f1 hq⊢
  generalize m8 l[k+1].rcd.fs f=v at f2 hq⊢
  cases hc:(u.1==v.1)
  ·simp(maxSteps:=9999999) [f8,hk0,hk1,hx,hy,i1,i2,i4,i5,i6,eJ i6,f1,f2,hc]
  ·rw[hq hc hn]
   simp(maxSteps:=9999999) [f8,hk0,hk1,hx,hy,i1,i2,i4,i5,i6,eJ i6,f1,f2,hc]
 ·rw[K9 hp]
  have hge:cw (((l.length-1:Nat):Int)+1) (l.length:Int)=false:=fB (by omega)
  simp(maxSteps:=9999999) [f8,hge]
def PZ (ss:List XStore)(k:Nat):Bool:=match ss[k]?,ss[k-1]? with
 |some x,some y=> !(fg x)||(cw 0 k&& !(Op.bytesLess y.name x.name))
 |_,_=>false
def qz (a b:XIndexDef):Bool:=a.store==b.store&&a.field==b.field
theorem Ew (a b:XIndexDef):qz a b=qz b a:=by unfold qz;rw[Bool.beq_comm (a:=a.store),Bool.beq_comm (a:=a.field)]
def Jl (us:List XIndexDef)(k:Nat):Bool:=match us[k]? with
 |some u=>lc k (pz (qz u) us)
 |none=>false
def Fa (ss:List XStore)(us:List XIndexDef)(k:Nat):Bool:=match us[k]? with
 |some u=>match ss.find? (HW u.store)with
  |some s=> !(iG u.field)||(Jl us k||(Rn u.field (nU u.field s.items)).2.2)
  |none=>true
 |none=>false
def uN (d:XDatabase):Bool:=iG d.name&&(rg d.version 0 1000&&(!(cw 4 d.stores.length)&&(!(cw 4 d.unique.length)&&(!(lc d.stores.length (PZ d.stores))&& !(lc d.unique.length (Fa d.stores d.unique))))))
theorem mw {α:Type}(p:α→Bool)(xs:List α):(dM p xs= -1∧xs.find? p=none)∨∃j,∃hj:j<xs.length,dM p xs=(j:Int)∧xs.find? p=some xs[j]:=by
 unfold dM
 cases h:xs.findIdx? p with
 |none=>exact .inl ⟨rfl,by rw[List.findIdx?_eq_none_iff]at h;rw[List.find?_eq_none];exact fun x hx=>by simp[h x hx]⟩
 |some i=>
  rw[List.findIdx?_eq_some_iff_getElem]at h
  obtain⟨h1,h2,h3⟩:=h
  refine .inr ⟨i,h1,rfl,?_⟩
  rw[List.find?_eq_some_iff_getElem]
  exact⟨h2,i,h1,rfl,fun j hj=>by simpa using h3 j hj⟩
theorem OC {p:XIndexDef→Bool}{us:List XIndexDef}{k:Nat}(hk:k<us.length):(!(cw (dM p (us.take k)) 0))=lc k (pz p us):=by
 have at':∀j,j<k→pz p (us.take k) j=pz p us j:=fun j hj=>by simp[pz,List.getElem?_take,hj]
 rcases yt p (us.take k)with h|⟨j,hj,h1,h2⟩
 ·rw[h,eJ (by omega)]
  refine(zD fun j hj=> ?_).symm
  have hj2:j<(us.take k).length:=by simp;omega
  rw[←at' j hj]
  have:=M9 h _ (List.getElem_mem hj2)
  simp only[pz,List.getElem?_eq_getElem hj2];exact this
 ·have hj2:j<k:=by simp at hj;omega
  rw[h1,fB (by omega)]
  refine(PU hj2 ?_).symm
  rw[←at' j hj2];simp only[pz,List.getElem?_eq_getElem hj];exact h2
theorem Ea {us:List XIndexDef}(hl:us.length≤maxLen)(x:XIndexDef):ag Ph aC 412 [bi (us.map XIndexDef.e),x.v]=some (ai .i64 (dM (qz x) us)):=by
 refine aa (fn:=dL) rfl ?_
 simp +contextual (maxSteps:=9999999) [dL]
 refine aL bG Cl.fin [.t,.f,.f,.t,.f,.f,.f,.t,.t,.f,.f,.f,.f,.f,.f,.f,.f,.f,.f] (fun k=>[(8,ai .i64 k)]) us.length (pz (qz x) us) rfl (by simp) (fun k hk hj=> ?_) (fun hj _=> ?_)
 ·have hf:=Az hk hj
  simp +contextual (maxSteps:=9999999) [cL,pz,qz,hk,hf,aU hl hk,a8 hk,XIndexDef.e.eq_1 us[k],kJ,Fv]
 ·simp +contextual (maxSteps:=9999999) [cL,w9 hj]
theorem yB {us:List XIndexDef}(hl:us.length≤maxLen)(x:XIndexDef):ag Ph aC 405 [bi (us.map XIndexDef.e),x.v]=some (aD (!(cw (dM (qz x) us) 0))):=by
 have e1:=Ea hl x
 refine aa (fn:=dj) rfl ?_
 simp +contextual (maxSteps:=9999999) [dj,e1]
theorem mf {B:Nat}(hB1:B≤1048576){d:XDatabase}(h:d.Ok B):ag Ph aC 397 [d.v]=some (aD (uN d)):=by
 have hB:B≤maxLen:=by unfold maxLen;omega
 obtain⟨hn,hv,⟨hsl,hs⟩,hul,hu⟩:=h
 have e1:=iY (Nat.le_trans hn hB)
 have e2:=fy d.version 0 1000
 have hsL:d.stores.length≤maxLen:=Nat.le_trans hsl hB
 have huL:d.unique.length≤maxLen:=Nat.le_trans hul hB
 unfold uN
 refine aa (fn:=fb) rfl ?_
 cases c1:iG d.name<;>rw[c1]at e1
 ·simp(maxSteps:=9999999) [fb,e1]
 cases c2:rg d.version 0 1000<;>rw[c2]at e2
 ·simp(maxSteps:=9999999) [fb,e1,e2]
 cases c3:cw 4 d.stores.length
 rotate_left
 ·simp(maxSteps:=9999999) [fb,e1,e2,c3]
 cases c4:cw 4 d.unique.length
 rotate_left
 ·simp(maxSteps:=9999999) [fb,e1,e2,c3,c4]
 simp(maxSteps:=9999999) [fb,e1,e2,c3,c4]
 refine aL bG Cl.fin [.f,.t,.f,.f,.f,.f,.f,.f,.f,.f,.f,.f,.f,.f,.f,.f,.f,.f,.f,.f,.f,.f,.f,.f,.f,.f,.f,.f,.f,.f,.f,.f,.f,.f,.t,.t,.t,.f,.f,.f,.f,.f,.f,.f,.f,.f,.f,.f,.f,.f,.f,.f,.f,.f,.f,.f,.f,.f,.f,.f,.f,.f,.f,.f,.f,.f,.f,.f,.f,.f,.f,.f,.f,.f,.f,.f,.f,.f,.f,.f,.f,.f,.f,.f,.f,.f,.f,.f,.f,.f,.f,.f,.f,.f,.f,.f,.f,.f,.f,.f,.f,.f,.f] (fun k=>[(36,ai .i64 k)]) d.stores.length (PZ d.stores) rfl (by simp) (fun k hk _=> ?_) (fun _ hp=> ?_)
 ·obtain⟨q1,q2⟩:=O5 hsL hk
  have e3:=jz (XStore.Ok.mono hB (hs _ (List.getElem_mem hk)))
  simp +contextual (maxSteps:=9999999) [gv,PZ,hk,q1,q2,aU hsL hk,a8 hk,XStore.e.eq_1 d.stores[k],XStore.e.eq_1 d.stores[k-1],e3]
 ·simp(maxSteps:=9999999) [gv,hp]
  refine aL bG Cl.fin [.f,.t,.f,.f,.f,.f,.f,.f,.f,.f,.f,.f,.f,.f,.f,.f,.f,.f,.f,.f,.f,.f,.f,.f,.f,.f,.f,.f,.f,.f,.f,.f,.f,.f,.f,.f,.f,.f,.f,.f,.f,.f,.f,.f,.f,.f,.f,.f,.f,.f,.f,.f,.f,.f,.f,.f,.f,.f,.f,.f,.f,.f,.t,.t,.t,.f,.f,.f,.f,.f,.f,.f,.f,.f,.f,.f,.f,.f,.f,.f,.f,.f,.f,.f,.f,.f,.f,.f,.f,.f,.f,.f,.f,.f,.f,.f,.f,.f,.f,.f,.f,.f,.f] (fun k=>[(64,ai .i64 k)]) d.unique.length (Fa d.stores d.unique) rfl (by simp) (fun k hk _=> ?_) (fun _ hp=> ?_)
  ·have e3:=m9 (d:=d) hsL d.unique[k].store
   have e4:=iY (Nat.le_trans (hu _ (List.getElem_mem hk)).2 hB)
   have e5:=yB (us:=d.unique.take k) (by rw[List.length_take];omega) d.unique[k]
   rw[OC hk]at e5
   have hdup:Jl d.unique k=lc k (pz (qz d.unique[k]) d.unique):=by simp[Jl,hk]
   rw[←hdup]at e5
   rw[List.map_take]at e5
   have hx:=XIndexDef.e.eq_1 d.unique[k]
   have w:=fj (e:=XIndexDef.e) (z:=2) (fun _=>rfl) d.unique
   rcases mw (HW d.unique[k].store) d.stores with⟨h1,h2⟩|⟨j,hj,h1,h2⟩<;>rw[h1]at e3
   ·rw[show Fa d.stores d.unique k=true by simp[Fa,hk,h2]]
    simp +contextual (maxSteps:=9999999) [gx,hk,e3,hx,aU huL hk,a8 hk,show cw (-1) 0=true from rfl]
   ·have e6:=v7 hB1 (hs _ (List.getElem_mem hj)) d.unique[k].field
    have hy:=XStore.e.eq_1 d.stores[j]
    rw[show Fa d.stores d.unique k=(!(iG d.unique[k].field)||(Jl d.unique k||(Rn d.unique[k].field (nU d.unique[k].field d.stores[j].items)).2.2)) by simp[Fa,hk,h2]]
    generalize Rn d.unique[k].field (nU d.unique[k].field d.stores[j].items)=T at e6⊢
    unfold TP at e6
    generalize iG d.unique[k].field=N at e4⊢
    generalize Jl d.unique k=D at e5⊢
    simp +contextual (maxSteps:=9999999) [gx,hk,hj,e3,e4,e5,e6,hx,hy,w,Nat.le_of_lt hk,aU huL hk,a8 hk,nV]
  ·simp(maxSteps:=9999999) [gx,hp]
theorem Cl.imp {call:Nat→List V→Option V}(hc:qS call){Q:Ex→St→Prop}(hQ:Cl Q){ks:List Fr}(hz:kz ks=true){A:Prop}:Cl (fun e τ=>A→wp call Q ks (some (e,τ))):=fun e σ τ k h a=>Rq hc hQ hz k (h a)
theorem ml {B:Nat}(hB1:B≤1048576){d:XDatabase}(h:d.Ok B):ag Ph aC 393 [d.v]=some (aD (uN d)):=by
 have hB:B≤maxLen:=by unfold maxLen;omega
 obtain⟨hn,hv,⟨hsl,hs⟩,hul,hu⟩:=h
 have e1:=i9 (Nat.le_trans hn hB)
 have e2:=gI d.version 0 1000
 have hsL:d.stores.length≤maxLen:=Nat.le_trans hsl hB
 have huL:d.unique.length≤maxLen:=Nat.le_trans hul hB
 unfold uN
 refine aa (fn:=mX) rfl ?_
 simp(maxSteps:=9999999) [mX]
 refine aL bG Cl.fin [.f,.t,.f,.t,.f,.f,.f,.f,.f,.f,.f,.f,.f,.f,.f,.f,.f,.f,.f,.f,.f,.f,.f,.f,.f,.f,.f,.f,.f,.f,.f,.f,.f,.f,.f,.f,.f,.f,.f,.f,.f,.f,.f,.f,.f,.f,.f,.f,.f,.f,.f,.f,.f,.f,.f,.f,.f,.f,.f,.f,.f,.f,.f,.f,.f,.f,.f,.f,.f,.f,.f,.f,.f,.f,.f,.f,.f,.f,.f,.f,.f,.f,.f,.f,.f,.f,.f,.f,.f,.f,.f,.f,.f,.f,.f,.f,.f,.f,.f,.f,.f,.f,.f,.f,.f,.f,.f,.f,.f,.f,.f,.f,.f,.f,.f,.f,.f,.f,.f,.f,.f,.f,.f,.f] (fun k=>[(3,ai .i64 k)]) d.stores.length (PZ d.stores) rfl (by simp) (fun k hk _=> ?_) (fun _ hp=> ?_)
 ·obtain⟨q1,q2⟩:=O5 hsL hk
  have e3:=ph (XStore.Ok.mono hB (hs _ (List.getElem_mem hk)))
  simp +contextual (maxSteps:=9999999) [fm,PZ,hk,q1,q2,aU hsL hk,a8 hk,XStore.e.eq_1 d.stores[k],XStore.e.eq_1 d.stores[k-1],e3]
 ·simp(maxSteps:=9999999) [fm,hp]
  refine aL bG Cl.fin [.f,.t,.f,.f,.t,.f,.f,.f,.f,.f,.f,.f,.f,.f,.f,.f,.f,.f,.f,.f,.f,.f,.f,.f,.f,.f,.f,.f,.f,.f,.f,.f,.f,.f,.f,.f,.f,.f,.f,.f,.f,.f,.f,.f,.f,.f,.f,.f,.f,.f,.f,.f,.f,.f,.f,.f,.f,.f,.f,.f,.f,.f,.f,.f,.f,.f,.f,.f,.f,.f,.f,.f,.f,.f,.f,.f,.f,.f,.f,.f,.f,.f,.f,.f,.f,.f,.f,.f,.f,.f,.f,.f,.f,.f,.f,.f,.f,.f,.f,.f,.f,.f,.f,.f,.f,.f,.f,.f,.f,.f,.f,.f,.f,.f,.f,.f,.f,.f,.f,.f,.f,.f,.f,.f] (fun k=>[(4,ai .i64 k)]) d.unique.length (Fa d.stores d.unique) rfl (by simp) (fun k hk _=> ?_) (fun _ hp=> ?_)
  ·have e3:=nj (d:=d) hsL d.unique[k].store
   have e4:=i9 (Nat.le_trans (hu _ (List.getElem_mem hk)).2 hB)
   have hdup:Jl d.unique k=lc k (pz (qz d.unique[k]) d.unique):=by simp[Jl,hk]
   have hx:=XIndexDef.e.eq_1 d.unique[k]
   rcases mw (HW d.unique[k].store) d.stores with⟨h1,h2⟩|⟨j,hj,h1,h2⟩<;>rw[h1]at e3
   ·rw[show Fa d.stores d.unique k=true by simp[Fa,hk,h2]]
    simp +contextual (maxSteps:=9999999) [dP,hk,e3,hx,aU huL hk,a8 hk,show cw (-1) 0=true from rfl]
   ·have e6:=wh hB1 (hs _ (List.getElem_mem hj)) d.unique[k].field
    have hy:=XStore.e.eq_1 d.stores[j]
    rw[show Fa d.stores d.unique k=(!(iG d.unique[k].field)||(Jl d.unique k||(Rn d.unique[k].field (nU d.unique[k].field d.stores[j].items)).2.2)) by simp[Fa,hk,h2],hdup]
    generalize Rn d.unique[k].field (nU d.unique[k].field d.stores[j].items)=T at e6⊢
    unfold TP at e6
    generalize iG d.unique[k].field=N at e4⊢
    cases N
    ·simp +contextual (maxSteps:=9999999) [dP,hk,hj,e3,e4,e6,hx,hy,aU huL hk,a8 hk,nV]
    cases hT:T.2.2<;>rw[hT]at e6
    rotate_left
    ·simp +contextual (maxSteps:=9999999) [dP,hk,hj,e3,e4,e6,hx,hy,aU huL hk,a8 hk,nV]
    cases hD:lc k (pz (qz d.unique[k]) d.unique)
    ·simp(maxSteps:=9999999) [dP,hk,hj,e3,e4,e6,hx,hy,aU huL hk,a8 hk,nV]
     refine aL bG (Cl.kn) [.f,.t,.f,.f,.t,.f,.f,.f,.f,.t,.f,.f,.f,.f,.f,.f,.f,.f,.f,.f,.f,.f,.f,.f,.f,.f,.f,.f,.f,.f,.f,.f,.f,.f,.f,.f,.f,.f,.f,.f,.f,.f,.f,.f,.f,.f,.f,.f,.f,.f,.f,.f,.f,.f,.f,.f,.f,.f,.f,.f,.f,.f,.f,.f,.f,.f,.f,.f,.f,.f,.f,.f,.f,.f,.f,.f,.f,.f,.f,.f,.f,.f,.f,.f,.f,.f,.f,.f,.f,.f,.f,.f,.f,.f,.f,.f,.f,.f,.f,.f,.f,.f,.f,.f,.f,.f,.f,.f,.f,.f,.f,.f,.f,.f,.f,.f,.f,.f,.f,.f,.f,.f,.f,.f] (fun j=>[(9,ai .i64 j)]) k (pz (qz d.unique[k]) d.unique) rfl (by simp) (fun i hi _=> ?_) (fun _ hq=> ?_)
     ·have hi2:i<d.unique.length:=by omega
      have hcm:qz d.unique[k] d.unique[i]=(d.unique[i].store==d.unique[k].store&&d.unique[i].field==d.unique[k].field):=Ew _ _
      simp +contextual (maxSteps:=9999999) [fo,pz,hcm,hi2,hk,hx,XIndexDef.e.eq_1 d.unique[i],kJ,Fv,aU huL hi2,a8 hi,hD]
     ·simp(maxSteps:=9999999) [fo,aU huL hk]
    ·simp(maxSteps:=9999999) [dP,hk,hj,e3,e4,e6,hx,hy,aU huL hk,a8 hk,nV]
     refine aL bG (Cl.imp bG Cl.fin rfl) [.f,.t,.f,.f,.t,.f,.f,.f,.f,.t,.f,.f,.f,.f,.f,.f,.f,.f,.f,.f,.f,.f,.f,.f,.f,.f,.f,.f,.f,.f,.f,.f,.f,.f,.f,.f,.f,.f,.f,.f,.f,.f,.f,.f,.f,.f,.f,.f,.f,.f,.f,.f,.f,.f,.f,.f,.f,.f,.f,.f,.f,.f,.f,.f,.f,.f,.f,.f,.f,.f,.f,.f,.f,.f,.f,.f,.f,.f,.f,.f,.f,.f,.f,.f,.f,.f,.f,.f,.f,.f,.f,.f,.f,.f,.f,.f,.f,.f,.f,.f,.f,.f,.f,.f,.f,.f,.f,.f,.f,.f,.f,.f,.f,.f,.f,.f,.f,.f,.f,.f,.f,.f,.f,.f] (fun j=>[(9,ai .i64 j)]) k (pz (qz d.unique[k]) d.unique) rfl (by simp) (fun i hi _=> ?_) (fun _ hq=> ?_)
     ·have hi2:i<d.unique.length:=by omega
      have hcm:qz d.unique[k] d.unique[i]=(d.unique[i].store==d.unique[k].store&&d.unique[i].field==d.unique[k].field):=Ew _ _
      simp +contextual (maxSteps:=9999999) [fo,pz,hcm,hi2,hk,hx,XIndexDef.e.eq_1 d.unique[i],kJ,Fv,aU huL hi2,a8 hi,hD]
     ·rw[hD]at hq;cases hq
  ·simp +contextual (maxSteps:=9999999) [dP,hp,e1,e2]
end Gi
