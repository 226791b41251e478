/- Of this proof. -/
import Derived.Test.YtebnmoogdmpepaaGreatGki
set_option linter.unusedSimpArgs false
set_option linter.unusedVariables false
namespace Gi
open Go Go.RowKit
set_option maxHeartbeats 8000000
set_option maxRecDepth 4000
attribute [local simp] start oH bJ cI cS ed cR dZ eu ep pz pI pA pJ pB pK pC pL pD pM pE pO pF pP pG pQ pH pR V.cells plain bA fR isInt isStr isBool bin bY gj bZ gl ee un asList L.view aj V.view viewL aW am ce bD bS comp aQ bI cH bP bq bo bp aC aq aY al aB aI au bi bF aE br bt V.flat L.flat db da bB putAt thaw thawL thawT V.ow ej cV cW ca eh cd cU freezeVs freezeLs freezeL V.mut L.mut aH dE fK aZ bC aN dv bR bj bV L.ren aP dg bW dq bU bH wp_seq wp_block bg cZ cf bE cj wp_skip wp_exit wp_ret ct cr cz cu cC cD cB bO aF L.notArr aU aS aT cY bz storeD bc eP bu co ba k8 L.mov L.closed V.closed PV.bare PV.flat
def gN (f:List UInt8)(x:XItem):Int×Bool:=ru x.rcd.fs f
def xi (f:List UInt8)(a b:XItem):Bool:=cT (gN f a).1 (gN f b).1||((gN f a).1==(gN f b).1&&cT (sV a.key b.key) 0)
def PY (f:List UInt8)(x:XItem)(out:List XItem):Nat→Nat
 |0=>0
 |n+1=>match out[n]? with
  |none=>n+1
  |some y=>cond (xi f x y) (PY f x out n) (n+1)
theorem IV {f:List UInt8}{x:XItem}{out:List XItem}:∀n,PY f x out n≤n
 |0=>Zm _
 |n+1=>by
  unfold PY
  cases out[n]? with
  |none=>exact Zm _
  |some y=>
   cases h:xi f x y with
   |true=>simp only[h,cond_true];exact Nat.le_succ_of_le (IV n)
   |false=>simp only[h,cond_false];exact Zm _
theorem Ed {f:List UInt8}{x:XItem}{out:List XItem}:∀n,n≤out.length→∀p,PY f x out n≤p→∀(hp:p<n)(ho:p<out.length),xi f x out[p]=true
 |0,_,p,_,hp,_=>by omega
 |n+1,hn,p,h,hp,ho=>by
  unfold PY at h
  have hn':n<out.length:=by omega
  rw[Zn hn']at h
  simp only at h
  cases q:xi f x out[n]with
  |true=>
   rw[q,cond_true]at h
   by_cases e:p=n
   ·subst e;exact q
   ·exact Ed n (by omega) p h (by omega) ho
  |false=>rw[q,cond_false]at h;omega
theorem Ee {f:List UInt8}{x:XItem}{out:List XItem}:∀n,n≤out.length→∀j,PY f x out n=j+1→∃h:j<out.length,xi f x out[j]=false
 |0,_,j,h=>by simp[PY]at h
 |n+1,hn,j,h=>by
  unfold PY at h
  have hn':n<out.length:=by omega
  rw[Zn hn']at h
  simp only at h
  cases q:xi f x out[n]with
  |true=>rw[q,cond_true]at h;exact Ee n (by omega) j h
  |false=>
   rw[q,cond_false]at h
   obtain rfl:n=j:=by omega
   exact⟨hn',q⟩
def FC (out:List XItem)(x:XItem)(p:Nat):List XItem:=out.take p++x::out.drop p
def lU (f:List UInt8)(out:List XItem)(x:XItem):List XItem:=cond (gN f x).2 (FC out x (PY f x out out.length)) out
def oq (f:List UInt8)(xs:List XItem):List XItem:=xs.foldl (lU f) []
theorem Ia {f:List UInt8}{xs:List XItem}{k:Nat}(hk:k<xs.length):oq f (xs.take (k+1))=lU f (oq f (xs.take k)) xs[k]:=by
 unfold oq
 rw[Yf hk,List.foldl_append]
 rfl
theorem Ib (out:List XItem)(x:XItem)(p:Nat):(FC out x p).map XItem.e=(out.map XItem.e).take p++x.e::(out.map XItem.e).drop p:=by simp[FC,List.map_take,List.map_drop]
theorem Qq {out:List XItem}{x y:XItem}{p:Nat}(h:y∈FC out x p):y=x∨y∈out:=by
 unfold FC at h
 rcases Yy.1 h with h|h
 ·exact .inr (Z3 h)
 ·rcases Z8.1 h with h|h
  ·exact .inl h
  ·exact .inr (Yw h)
theorem Qp (out:List XItem)(x:XItem){p:Nat}(h:p≤out.length):(FC out x p).length=out.length+1:=by simp[FC];omega
theorem Lp {f:List UInt8}{out:List XItem}{x y:XItem}(h:y∈lU f out x):y=x∨y∈out:=by
 unfold lU at h
 cases q:(gN f x).2 with
 |true=>rw[q,cond_true]at h;exact Qq h
 |false=>rw[q,cond_false]at h;exact .inr h
theorem xd {f:List UInt8}:∀(xs out:List XItem)(y:XItem),y∈xs.foldl (lU f) out→y∈xs∨y∈out
 |[],out,y,h=> .inr h
 |x::xs,out,y,h=>by
  rcases xd xs (lU f out x) y h with h|h
  ·exact .inl (Y5 _ h)
  ·rcases Lp h with rfl|h
   ·exact .inl Xq
   ·exact .inr h
theorem zA {f:List UInt8}{xs:List XItem}{y:XItem}(h:y∈oq f xs):y∈xs:=by
 rcases xd xs [] y h with h|h
 ·exact h
 ·cases h
theorem Lo {f:List UInt8}{out:List XItem}{x:XItem}:(lU f out x).length≤out.length+1:=by
 unfold lU
 cases(gN f x).2 with
 |true=>rw[cond_true,Qp _ _ (IV _)];exact Zm _
 |false=>rw[cond_false];omega
theorem xc {f:List UInt8}:∀(xs out:List XItem),(xs.foldl (lU f) out).length≤out.length+xs.length
 |[],out=>by simp
 |x::xs,out=>by
  have h1:=xc (f:=f) xs (lU f out x)
  have h2:=Lo (f:=f) (out:=out) (x:=x)
  simp only[List.foldl_cons,Zo]
  omega
theorem zz (f:List UInt8)(xs:List XItem):(oq f xs).length≤xs.length:=by
 have:=xc (f:=f) xs []
 simpa[oq]using this
def uA (l:List XItem)(k:Nat):XKey:=match l[k]? with
 |some x=>x.key
 |none=>⟨0,0,[]⟩
def Ta (f:List UInt8)(l:List XItem)(k:Nat):Bool:=match l[k]?,l[k+1]? with
 |some a,some b=>(gN f a).1==(gN f b).1
 |_,_=>false
theorem SU {f:List UInt8}{l:List XItem}{k:Nat}(hk:k+1<l.length):Ta f l k=((gN f (l[k]'(by omega))).1==(gN f l[k+1]).1):=by
 have:k<l.length:=by omega
 simp[Ta,hk,this]
def SV (f:List UInt8)(l:List XItem):XKey×XKey×Bool:=match(List.range (l.length-1)).find? (Ta f l)with
 |some k=>(uA l k,uA l (k+1),true)
 |none=>(⟨0,0,[]⟩,⟨0,0,[]⟩,false)
theorem MI {f:List UInt8}{l:List XItem}{k:Nat}(hk:k<l.length-1)(h:Ta f l k=true)(hn:∀j,j<k→Ta f l j=false):SV f l=(uA l k,uA l (k+1),true):=by
 have:(List.range (l.length-1)).find? (Ta f l)=some k:=by
  rw[List.find?_range_eq_some]
  exact⟨h,List.mem_range.2 hk,fun j hj=>by simp[hn j hj]⟩
 simp only[SV,this]
theorem MH {f:List UInt8}{l:List XItem}(hn:∀j,j<l.length-1→Ta f l j=false):SV f l=(⟨0,0,[]⟩,⟨0,0,[]⟩,false):=by
 have:(List.range (l.length-1)).find? (Ta f l)=none:=by
  rw[List.find?_range_eq_none]
  exact fun j hj=>by simp[hn j hj]
 simp only[SV,this]
def UY (t:XKey×XKey×Bool):V:= .tup [(true,[.pv (.int .i64 t.1.kind), .pv (.int .i64 t.1.n), .pv (.str t.1.text)]),(true,[.pv (.int .i64 t.2.1.kind), .pv (.int .i64 t.2.1.n), .pv (.str t.2.1.text)]),(false,[.pv (.bool t.2.2)])]
section
variable {B:Nat}{f:List UInt8}
theorem Jq {f:List UInt8}{a b:XItem}(ha:a.Ok maxLen)(hb:b.Ok maxLen):ag Ph aM 415 [a.v,b.v,eB f]=some (aA (xi f a b)):=by
 have e1:=jd ha.2.1 f
 have e2:=jd hb.2.1 f
 have e3:=iN ha.1 hb.1
 unfold xi gN
 generalize ru a.rcd.fs f=u at e1⊢
 generalize ru b.rcd.fs f=v at e2⊢
 obtain⟨w,hw⟩:∃w,(u.1==v.1)=w:=⟨_,rfl⟩
 rw[hw]
 refine ae (fn:=mp) rfl ?_
 simp +contextual (maxSteps:=9999999) [mp,e1,e2,e3,hw]
theorem JI {f:List UInt8}{a b:XItem}(ha:a.Ok maxLen)(hb:b.Ok maxLen):ag Ph aM 414 [a.v,b.v,eB f]=some (aA (xi f a b)):=by
 have e1:=jf ha.2.1 f
 have e2:=jf hb.2.1 f
 have e3:=iO ha.1 hb.1
 unfold xi gN
 generalize ru a.rcd.fs f=u at e1⊢
 generalize ru b.rcd.fs f=v at e2⊢
 obtain⟨w,hw⟩:∃w,(u.1==v.1)=w:=⟨_,rfl⟩
 rw[hw]
 refine ae (fn:=sF) rfl ?_
 simp +contextual (maxSteps:=9999999) [sF,e1,e2,e3,hw]
end
theorem Do {B:Nat}(hB1:B≤1048576){s:XStore}(h:s.Ok B)(f:List UInt8):ag Ph aM 413 [s.v,eB f]=some (.one (.own 4 ((oq f s.items).map XItem.e))):=by
 have hB:B≤maxLen:=by unfold maxLen;omega
 have hl:s.items.length≤1048576:=Zc h.2.1.1 hB1
 have hok:=h.2.1.2
 refine ae (fn:=ql) rfl ?_
 simp(maxSteps:=9999999) [ql]
 refine dD bm Cl.fin s.items.length [.f,.t,.f,.f,.f,.t,.f,.f,.f,.f,.f,.f,.f,.t,.t,.t,.f,.f,.f,.f,.f,.f,.f,.f,.f,.f,.f,.f,.f,.f,.f,.f,.f,.f,.f,.f,.f,.f,.f,.f,.f,.f,.f,.f,.f,.f,.f,.f,.f,.f,.f,.f] (fun k=>[(5, .one (.arr 0)),(15,aa .i64 k)]) (fun k=>[.arr 4 ((oq f (s.items.take k)).map XItem.e)]) rfl ?_ ?_ ?_
 ·exact Kn.of [1] (by decide) (by simp[show oq f []=[]from rfl]) (by simp)
 ·intro k hk
  have hx:=XItem.e.eq_1 s.items[k]
  have hkk:=hok _ (Zf hk)
  have hkL:=XItem.Ok.mono hB hkk
  have f1:=jd (r:=s.items[k].rcd) hkL.2.1 f
  have f2:=tg hB1 hkk
  have hol:=Zc (zz f (s.items.take k)) (by rw[Yd];exact Nat.min_le_left _ _)
  have hoo:∀y∈oq f (s.items.take k),y.Ok B:=fun y hy=>hok y (Z3 (zA hy))
  try dsimp only
  rw[Ia hk]
  generalize oq f (s.items.take k)=out at hol hoo⊢
  unfold lU
  have hls:∀q(hq:q<out.length),_:=fun q hq=>Jq (f:=f) hkL (XItem.Ok.mono hB (hoo _ (Zf hq)))
  have hgv:gN f s.items[k]=ru s.items[k].rcd.fs f:=rfl
  rw[hgv]
  generalize ru s.items[k].rcd.fs f=u at f1⊢
  obtain⟨u1,u2⟩:=u
  cases u2
  ·simp only[cond_false]
   simp(maxSteps:=9999999) [iQ,hk,aR (n:=s.items.length) (by unfold maxLen;omega) hk,bd hk,hx,f1]
  ·simp only[cond_true]
   have hd1:=IV (f:=f) (x:=s.items[k]) (out:=out) out.length
   have hd2:=Ed (f:=f) (x:=s.items[k]) (out:=out) out.length (Zm _)
   have hd3:=Ee (f:=f) (x:=s.items[k]) (out:=out) out.length (Zm _)
   have hm:=Ib out s.items[k] (PY f s.items[k] out out.length)
   rw[hm,hx]
   clear hm
   have m1:=eR (m:=out.length+1) (z:=56) (by omega) (by omega)
   generalize PY f s.items[k] out out.length=d at hd1 hd2 hd3⊢
   simp(maxSteps:=9999999) [iQ,hk,aR (n:=s.items.length) (by unfold maxLen;omega) hk,bd hk,hx,f1]
   refine Pp bm Cl.kn (out.length-d) [.f,.t,.f,.f,.f,.t,.f,.t,.f,.f,.t,.f,.f,.t,.t,.t,.f,.f,.f,.f,.f,.f,.f,.f,.f,.f,.f,.f,.f,.f,.f,.f,.f,.f,.f,.f,.f,.f,.f,.f,.f,.f,.f,.f,.f,.f,.f,.f,.f,.f,.f,.f] (fun j=>[(10,aa .i64 ((out.length-j:Nat):Int))]) (fun _=>[.arr 4 (out.map XItem.e), .box [.pv (.int .i64 s.items[k].key.kind), .pv (.int .i64 s.items[k].key.n), .pv (.str s.items[k].key.text), .pv (.lst (s.items[k].rcd.fs.map XField.e))]]) 2 rfl ?_ ?_ ?_ ?_
   ·simp
   ·intro j hj
    obtain⟨q,hq⟩:∃q,out.length-j=q+1:=⟨out.length-j-1,by omega⟩
    have hq1:out.length-(j+1)=q:=by omega
    have hqo:q<out.length:=by omega
    have l1:=hls q hqo
    rw[hd2 q (by omega) hqo hqo]at l1
    have hy:=XItem.e.eq_1 out[q]
    have w4:cT 0 ((q:Int)+1)=true:=jH (by omega)
    have w5:IntKind.i64.wrap ((q:Int)+1-1)=(q:Int):=by rw[IntKind.wrap_i64];omega
    have w6:IntKind.i64.wrap (q:Int)=(q:Int):=by rw[IntKind.wrap_i64];omega
    try dsimp only
    rw[hq,hq1]
    clear hd2 hd3
    simp(maxSteps:=9999999) [gR,hk,hx,hy,hqo,l1,w4,w5,w6]
   ·have hz:out.length-(out.length-d)=d:=by omega
    try dsimp only
    rw[hz]
    cases d with
    |zero=>
     simp(maxSteps:=9999999) [gR,show cT 0 0=false from rfl]
    |succ q=>
     obtain⟨hqo,hlq⟩:=hd3 q rfl
     have l1:=hls q hqo
     rw[hlq]at l1
     have hy:=XItem.e.eq_1 out[q]
     have w4:cT 0 ((q:Int)+1)=true:=jH (by omega)
     have w5:IntKind.i64.wrap ((q:Int)+1-1)=(q:Int):=by rw[IntKind.wrap_i64];omega
     have w6:IntKind.i64.wrap (q:Int)=(q:Int):=by rw[IntKind.wrap_i64];omega
     simp(maxSteps:=9999999) [gR,hk,hx,hy,hqo,l1,w4,w5,w6]
   ·have hz:out.length-(out.length-d)=d:=by omega
    try dsimp only
    rw[hz]
    have hdi:(d:Int)≤(out.length:Int):=by omega
    simp(maxSteps:=9999999) [f2,hk,hx,aR (n:=s.items.length) (by unfold maxLen;omega) hk,hd1,hdi,m1,-dE]
    exact Kn.of [4] (by decide) (by simp) (by simp)
 ·try dsimp only
  rw[Yq]
  simp(maxSteps:=9999999) [iQ]
theorem Dw {B:Nat}(hB1:B≤1048576){s:XStore}(h:s.Ok B)(f:List UInt8):ag Ph aM 409 [s.v,eB f]=some (.one (.own 4 ((oq f s.items).map XItem.e))):=by
 have hB:B≤maxLen:=by unfold maxLen;omega
 have hl:s.items.length≤1048576:=Zc h.2.1.1 hB1
 have hok:=h.2.1.2
 refine ae (fn:=qt) rfl ?_
 simp(maxSteps:=9999999) [qt]
 refine dD bm Cl.fin s.items.length [.f,.t,.t,.f,.f,.t,.t,.f,.f,.f,.f,.f,.f,.f,.f,.f,.f,.f,.f,.f,.f,.f,.f,.f,.f,.f,.f,.f,.f,.f,.f,.f,.f,.f,.f,.f,.f,.f,.f,.f,.f,.f,.f,.f,.f,.f,.f,.f,.f,.f,.f,.f,.f,.f,.f,.f,.f,.f,.f,.f,.f,.f,.f,.f,.f,.f,.f,.f,.f,.f,.f,.f] (fun k=>[(5, .one (.arr 1)),(6,aa .i64 k)]) (fun k=>[.box [.pv (.str s.name), .pv (.lst (s.items.map XItem.e)), .pv (.int .i64 s.auto)], .arr 4 ((oq f (s.items.take k)).map XItem.e)]) rfl ?_ ?_ ?_
 ·exact Kn.of [0,1] (by decide) (by simp[show oq f []=[]from rfl]) (by simp)
 ·intro k hk
  have hx:=XItem.e.eq_1 s.items[k]
  have hkk:=hok _ (Zf hk)
  have hkL:=XItem.Ok.mono hB hkk
  have f1:=jf (r:=s.items[k].rcd) hkL.2.1 f
  have f2:=vL hB1 hkk
  have hol:=Zc (zz f (s.items.take k)) (by rw[Yd];exact Nat.min_le_left _ _)
  have hoo:∀y∈oq f (s.items.take k),y.Ok B:=fun y hy=>hok y (Z3 (zA hy))
  try dsimp only
  rw[Ia hk]
  generalize oq f (s.items.take k)=out at hol hoo⊢
  unfold lU
  have hls:∀q(hq:q<out.length),_:=fun q hq=>JI (f:=f) hkL (XItem.Ok.mono hB (hoo _ (Zf hq)))
  have hgv:gN f s.items[k]=ru s.items[k].rcd.fs f:=rfl
  rw[hgv]
  generalize ru s.items[k].rcd.fs f=u at f1⊢
  obtain⟨u1,u2⟩:=u
  cases u2
  ·simp only[cond_false]
   simp(maxSteps:=9999999) [iS,hk,aR (n:=s.items.length) (by unfold maxLen;omega) hk,bd hk,hx,f1]
  ·simp only[cond_true]
   have hd1:=IV (f:=f) (x:=s.items[k]) (out:=out) out.length
   have hd2:=Ed (f:=f) (x:=s.items[k]) (out:=out) out.length (Zm _)
   have hd3:=Ee (f:=f) (x:=s.items[k]) (out:=out) out.length (Zm _)
   have hm:=Ib out s.items[k] (PY f s.items[k] out out.length)
   rw[hm,hx]
   clear hm
   have m1:=eR (m:=out.length+1) (z:=56) (by omega) (by omega)
   generalize PY f s.items[k] out out.length=d at hd1 hd2 hd3⊢
   simp(maxSteps:=9999999) [iS,hk,aR (n:=s.items.length) (by unfold maxLen;omega) hk,bd hk,hx,f1]
   refine Pp bm Cl.kn (out.length-d) [.f,.t,.t,.f,.f,.t,.t,.f,.f,.t,.f,.f,.f,.f,.f,.f,.f,.f,.f,.f,.f,.f,.f,.f,.f,.f,.f,.f,.f,.f,.f,.f,.f,.f,.f,.f,.f,.f,.f,.f,.f,.f,.f,.f,.f,.f,.f,.f,.f,.f,.f,.f,.f,.f,.f,.f,.f,.f,.f,.f,.f,.f,.f,.f,.f,.f,.f,.f,.f,.f,.f,.f] (fun j=>[(9,aa .i64 ((out.length-j:Nat):Int))]) (fun _=>[.box [.pv (.str s.name), .pv (.lst (s.items.map XItem.e)), .pv (.int .i64 s.auto)], .arr 4 (out.map XItem.e)]) 2 rfl ?_ ?_ ?_ ?_
   ·simp
   ·intro j hj
    obtain⟨q,hq⟩:∃q,out.length-j=q+1:=⟨out.length-j-1,by omega⟩
    have hq1:out.length-(j+1)=q:=by omega
    have hqo:q<out.length:=by omega
    have l1:=hls q hqo
    rw[hd2 q (by omega) hqo hqo]at l1
    have hy:=XItem.e.eq_1 out[q]
    have w4:cT 0 ((q:Int)+1)=true:=jH (by omega)
    have w5:IntKind.i64.wrap ((q:Int)+1-1)=(q:Int):=by rw[IntKind.wrap_i64];omega
    have w6:IntKind.i64.wrap (q:Int)=(q:Int):=by rw[IntKind.wrap_i64];omega
    try dsimp only
    rw[hq,hq1]
    clear hd2 hd3
    simp(maxSteps:=9999999) [gU,hk,hx,hy,hqo,l1,w4,w5,w6]
   ·have hz:out.length-(out.length-d)=d:=by omega
    try dsimp only
    rw[hz]
    cases d with
    |zero=>
     simp(maxSteps:=9999999) [gU,show cT 0 0=false from rfl]
    |succ q=>
     obtain⟨hqo,hlq⟩:=hd3 q rfl
     have l1:=hls q hqo
     rw[hlq]at l1
     have hy:=XItem.e.eq_1 out[q]
     have w4:cT 0 ((q:Int)+1)=true:=jH (by omega)
     have w5:IntKind.i64.wrap ((q:Int)+1-1)=(q:Int):=by rw[IntKind.wrap_i64];omega
     have w6:IntKind.i64.wrap (q:Int)=(q:Int):=by rw[IntKind.wrap_i64];omega
     simp(maxSteps:=9999999) [gU,hk,hx,hy,hqo,l1,w4,w5,w6]
   ·have hz:out.length-(out.length-d)=d:=by omega
    try dsimp only
    rw[hz]
    have hdi:(d:Int)≤(out.length:Int):=by omega
    have t1:((out.map XItem.e).take d).all (fun e=>e.length==4)=true:=by rw[←List.map_take];exact dC (e:=XItem.e) (z:=4) (fun _=>rfl) _
    have t2:((out.map XItem.e).drop d).all (fun e=>e.length==4)=true:=by rw[←List.map_drop];exact dC (e:=XItem.e) (z:=4) (fun _=>rfl) _
    have t3:=dC (e:=XItem.e) (z:=4) (fun _=>rfl) out
    have n1:min d out.length=d:=Nat.min_eq_left hd1
    have n3:d+1+(out.length-d)=out.length+1:=by omega
    have m2:=eR (m:=d+1) (z:=56) (by omega) (by omega)
    have m3:=eR (m:=d) (z:=56) (by omega) (by omega)
    have n4:List.take (out.length-d) (List.drop d (List.map XItem.e out))=List.drop d (List.map XItem.e out):=Zs (by simp)
    simp(maxSteps:=9999999) [n4,f2,hk,hx,aR (n:=s.items.length) (by unfold maxLen;omega) hk,hd1,hdi,t1,t2,t3,n1,n3,m1,m2,m3,-dE]
    exact Kn.of [0,7] (by decide) (by simp) (by simp)
 ·try dsimp only
  rw[Yq]
  simp(maxSteps:=9999999) [iS]
theorem wI {B:Nat}(hB1:B≤1048576){s:XStore}(h:s.Ok B)(f:List UInt8):ag Ph aM 406 [s.v,eB f]=some (UY (SV f (oq f s.items))):=by
 have hB:B≤maxLen:=by unfold maxLen;omega
 have e1:=Do hB1 h f
 have hll:=Zc (zz f s.items) (Zc h.2.1.1 hB1)
 have hoo:∀y∈oq f s.items,y.Ok maxLen:=fun y hy=>XItem.Ok.mono hB (h.2.1.2 y (zA hy))
 refine ae (fn:=mh) rfl ?_
 generalize oq f s.items=l at e1 hll hoo⊢
 unfold UY
 simp(maxSteps:=9999999) [mh,e1]
 refine aG bm Cl.fin [.f,.t,.f,.f,.t,.t,.f,.t,.t,.f,.f,.f,.f,.f,.f,.f,.f,.f,.f,.f,.f,.f,.f,.f,.f,.f,.f,.f,.f,.f,.f,.f,.f,.f,.f,.f,.f,.f,.f,.f,.f,.f,.f,.f,.f,.f,.f,.f,.f,.f,.f,.f,.f,.f,.f,.f,.f,.f,.f] (fun k=>[(8,aa .i64 ((k:Int)+1))]) (l.length-1) (Ta f l) rfl (by simp) (fun k hk hn=> ?_) (fun hp _=> ?_)
 ·have hk1:k+1<l.length:=by omega
  have hk0:k<l.length:=by omega
  obtain⟨i1,i2,i3,i4,i5,i6⟩:=oJ (n:=l.length) (by unfold maxLen;omega) hk1
  have f1:=jd (r:=l[k].rcd) (hoo _ (Zf hk0)).2.1 f
  have f2:=jd (r:=l[k+1].rcd) (hoo _ (Zf hk1)).2.1 f
  have hx:=XItem.e.eq_1 l[k]
  have hy:=XItem.e.eq_1 l[k+1]
  have hq:=MI (f:=f) hk
  have hpe:=SU (f:=f) hk1
  unfold gN at hpe
  have ka:uA l k=l[k].key:=by simp[uA,hk0]
  have kb:uA l (k+1)=l[k+1].key:=by simp[uA,hk1]
  rw[hpe]
  rw[hpe,ka,kb]at hq
  generalize ru l[k].rcd.fs f=u at f1 hq⊢
  generalize ru l[k+1].rcd.fs f=v at f2 hq⊢
  cases hc:(u.1==v.1)
  ·simp(maxSteps:=9999999) [f7,hk0,hk1,hx,hy,i1,i2,i4,i5,i6,jH i6,f1,f2,hc]
  ·rw[hq hc hn]
   simp(maxSteps:=9999999) [f7,hk0,hk1,hx,hy,i1,i2,i4,i5,i6,jH i6,f1,f2,hc]
 ·rw[MH hp]
  have hge:cT (((l.length-1:Nat):Int)+1) (l.length:Int)=false:=kE (by omega)
  simp(maxSteps:=9999999) [f7,hge]
theorem wW {B:Nat}(hB1:B≤1048576){s:XStore}(h:s.Ok B)(f:List UInt8):ag Ph aM 401 [s.v,eB f]=some (UY (SV f (oq f s.items))):=by
 have hB:B≤maxLen:=by unfold maxLen;omega
 have e1:=Dw hB1 h f
 have hll:=Zc (zz f s.items) (Zc h.2.1.1 hB1)
 have hoo:∀y∈oq f s.items,y.Ok maxLen:=fun y hy=>XItem.Ok.mono hB (h.2.1.2 y (zA hy))
 refine ae (fn:=mB) rfl ?_
 generalize oq f s.items=l at e1 hll hoo⊢
 unfold UY
 simp(maxSteps:=9999999) [mB,e1]
 refine aG bm Cl.fin [.f,.t,.f,.f,.t,.t,.f,.t,.t,.f,.f,.f,.f,.f,.f,.f,.f,.f,.f,.f,.f,.f,.f,.f,.f,.f,.f,.f,.f,.f,.f,.f,.f,.f,.f,.f,.f,.f,.f,.f,.f,.f,.f,.f,.f,.f,.f,.f,.f,.f,.f,.f,.f,.f,.f,.f,.f,.f,.f] (fun k=>[(8,aa .i64 ((k:Int)+1))]) (l.length-1) (Ta f l) rfl (by simp) (fun k hk hn=> ?_) (fun hp _=> ?_)
 ·have hk1:k+1<l.length:=by omega
  have hk0:k<l.length:=by omega
  obtain⟨i1,i2,i3,i4,i5,i6⟩:=oJ (n:=l.length) (by unfold maxLen;omega) hk1
  have f1:=jf (r:=l[k].rcd) (hoo _ (Zf hk0)).2.1 f
  have f2:=jf (r:=l[k+1].rcd) (hoo _ (Zf hk1)).2.1 f
  have hx:=XItem.e.eq_1 l[k]
  have hy:=XItem.e.eq_1 l[k+1]
  have hq:=MI (f:=f) hk
  have hpe:=SU (f:=f) hk1
  unfold gN at hpe
  have ka:uA l k=l[k].key:=by simp[uA,hk0]
  have kb:uA l (k+1)=l[k+1].key:=by simp[uA,hk1]
  rw[hpe]
  rw[hpe,ka,kb]at hq
  generalize ru l[k].rcd.fs f=u at f1 hq⊢
  generalize ru l[k+1].rcd.fs f=v at f2 hq⊢
  cases hc:(u.1==v.1)
  ·simp(maxSteps:=9999999) [f8,hk0,hk1,hx,hy,i1,i2,i4,i5,i6,jH i6,f1,f2,hc]
  ·rw[hq hc hn]
   simp(maxSteps:=9999999) [f8,hk0,hk1,hx,hy,i1,i2,i4,i5,i6,jH i6,f1,f2,hc]
 ·rw[MH hp]
  have hge:cT (((l.length-1:Nat):Int)+1) (l.length:Int)=false:=kE (by omega)
  simp(maxSteps:=9999999) [f8,hge]
def Rx (ss:List XStore)(k:Nat):Bool:=match ss[k]?,ss[k-1]? with
 |some x,some y=> !(eO x)||(cT 0 k&& !(Op.bytesLess y.name x.name))
 |_,_=>false
def qW (a b:XIndexDef):Bool:=a.store==b.store&&a.field==b.field
theorem F5 (a b:XIndexDef):qW a b=qW b a:=by unfold qW;rw[Bool.beq_comm (a:=a.store),Bool.beq_comm (a:=a.field)]
def KR (us:List XIndexDef)(k:Nat):Bool:=match us[k]? with
 |some u=>gD k (ir (qW u) us)
 |none=>false
def GF (ss:List XStore)(us:List XIndexDef)(k:Nat):Bool:=match us[k]? with
 |some u=>match ss.find? (Ty u.store)with
  |some s=> !(dB u.field)||(KR us k||(SV u.field (oq u.field s.items)).2.2)
  |none=>true
 |none=>false
def Nt (d:XDatabase):Bool:=dB d.name&&(rg d.version 0 1000&&(!(cT 4 d.stores.length)&&(!(cT 4 d.unique.length)&&(!(gD d.stores.length (Rx d.stores))&& !(gD d.unique.length (GF d.stores d.unique))))))
theorem om {α:Type}(p:α→Bool)(xs:List α):(dR p xs= -1∧xs.find? p=none)∨∃j,∃hj:j<xs.length,dR p xs=(j:Int)∧xs.find? p=some xs[j]:=by
 unfold dR
 cases h:xs.findIdx? p with
 |none=>exact .inl ⟨rfl,by rw[Xd]at h;rw[List.find?_eq_none];exact fun x hx=>by simp[h x hx]⟩
 |some i=>
  rw[Yi]at h
  obtain⟨h1,h2,h3⟩:=h
  refine .inr ⟨i,h1,rfl,?_⟩
  rw[List.find?_eq_some_iff_getElem]
  exact⟨h2,i,h1,rfl,fun j hj=>by simpa using h3 j hj⟩
theorem Qc {p:XIndexDef→Bool}{us:List XIndexDef}{k:Nat}(hk:k<us.length):(!(cT (dR p (us.take k)) 0))=gD k (ir p us):=by
 have at':∀j,j<k→ir p (us.take k) j=ir p us j:=fun j hj=>by simp[ir,Z9,hj]
 rcases zo p (us.take k)with h|⟨j,hj,h1,h2⟩
 ·rw[h,jH (by omega)]
  refine(IE fun j hj=> ?_).symm
  have hj2:j<(us.take k).length:=by simp;omega
  rw[←at' j hj]
  have:=OB h _ (Zf hj2)
  simp only[ir,Zn hj2];exact this
 ·have hj2:j<k:=by simp at hj;omega
  rw[h1,kE (by omega)]
  refine(Rs hj2 ?_).symm
  rw[←at' j hj2];simp only[ir,Zn hj];exact h2
theorem Fz {us:List XIndexDef}(hl:us.length≤maxLen)(x:XIndexDef):ag Ph aM 412 [cA (us.map XIndexDef.e),x.v]=some (aa .i64 (dR (qW x) us)):=by
 refine ae (fn:=dO) rfl ?_
 simp +contextual (maxSteps:=9999999) [dO]
 refine aG bm Cl.fin [.t,.f,.f,.t,.f,.f,.f,.t,.t,.f,.f,.f,.f,.f,.f,.f,.f,.f,.f] (fun k=>[(8,aa .i64 k)]) us.length (ir (qW x) us) rfl (by simp) (fun k hk hj=> ?_) (fun hj _=> ?_)
 ·have hf:=sI hk hj
  simp +contextual (maxSteps:=9999999) [cO,ir,qW,hk,hf,aR hl hk,bd hk,XIndexDef.e.eq_1 us[k],pT,Ox]
 ·simp +contextual (maxSteps:=9999999) [cO,sH hj]
theorem zC {us:List XIndexDef}(hl:us.length≤maxLen)(x:XIndexDef):ag Ph aM 405 [cA (us.map XIndexDef.e),x.v]=some (aA (!(cT (dR (qW x) us) 0))):=by
 have e1:=Fz hl x
 refine ae (fn:=dF) rfl ?_
 simp +contextual (maxSteps:=9999999) [dF,e1]
theorem xX {B:Nat}(hB1:B≤1048576){d:XDatabase}(h:d.Ok B):ag Ph aM 397 [d.v]=some (aA (Nt d)):=by
 have hB:B≤maxLen:=by unfold maxLen;omega
 obtain⟨hn,hv,⟨hsl,hs⟩,hul,hu⟩:=h
 have e1:=bX (Zc hn hB)
 have e2:=bL d.version 0 1000
 have hsL:d.stores.length≤maxLen:=Zc hsl hB
 have huL:d.unique.length≤maxLen:=Zc hul hB
 unfold Nt
 refine ae (fn:=fm) rfl ?_
 cases c1:dB d.name<;>rw[c1]at e1
 ·simp(maxSteps:=9999999) [fm,e1]
 cases c2:rg d.version 0 1000<;>rw[c2]at e2
 ·simp(maxSteps:=9999999) [fm,e1,e2]
 cases c3:cT 4 d.stores.length
 rotate_left
 ·simp(maxSteps:=9999999) [fm,e1,e2,c3]
 cases c4:cT 4 d.unique.length
 rotate_left
 ·simp(maxSteps:=9999999) [fm,e1,e2,c3,c4]
 simp(maxSteps:=9999999) [fm,e1,e2,c3,c4]
 refine aG bm Cl.fin [.f,.t,.f,.f,.f,.f,.f,.f,.f,.f,.f,.f,.f,.f,.f,.f,.f,.f,.f,.f,.f,.f,.f,.f,.f,.f,.f,.f,.f,.f,.f,.f,.f,.f,.t,.t,.t,.f,.f,.f,.f,.f,.f,.f,.f,.f,.f,.f,.f,.f,.f,.f,.f,.f,.f,.f,.f,.f,.f,.f,.f,.f,.f,.f,.f,.f,.f,.f,.f,.f,.f,.f,.f,.f,.f,.f,.f,.f,.f,.f,.f,.f,.f,.f,.f,.f,.f,.f,.f,.f,.f,.f,.f,.f,.f,.f,.f,.f,.f,.f,.f,.f,.f] (fun k=>[(36,aa .i64 k)]) d.stores.length (Rx d.stores) rfl (by simp) (fun k hk _=> ?_) (fun _ hp=> ?_)
 ·obtain⟨q1,q2⟩:=wQ hsL hk
  have e3:=ik (XStore.Ok.mono hB (hs _ (Zf hk)))
  simp +contextual (maxSteps:=9999999) [gE,Rx,hk,q1,q2,aR hsL hk,bd hk,XStore.e.eq_1 d.stores[k],XStore.e.eq_1 d.stores[k-1],e3]
 ·simp(maxSteps:=9999999) [gE,hp]
  refine aG bm Cl.fin [.f,.t,.f,.f,.f,.f,.f,.f,.f,.f,.f,.f,.f,.f,.f,.f,.f,.f,.f,.f,.f,.f,.f,.f,.f,.f,.f,.f,.f,.f,.f,.f,.f,.f,.f,.f,.f,.f,.f,.f,.f,.f,.f,.f,.f,.f,.f,.f,.f,.f,.f,.f,.f,.f,.f,.f,.f,.f,.f,.f,.f,.f,.t,.t,.t,.f,.f,.f,.f,.f,.f,.f,.f,.f,.f,.f,.f,.f,.f,.f,.f,.f,.f,.f,.f,.f,.f,.f,.f,.f,.f,.f,.f,.f,.f,.f,.f,.f,.f,.f,.f,.f,.f] (fun k=>[(64,aa .i64 k)]) d.unique.length (GF d.stores d.unique) rfl (by simp) (fun k hk _=> ?_) (fun _ hp=> ?_)
  ·have e3:=zE (d:=d) hsL d.unique[k].store
   have e4:=bX (Zc (hu _ (Zf hk)).2 hB)
   have e5:=zC (us:=d.unique.take k) (by rw[Yd];omega) d.unique[k]
   rw[Qc hk]at e5
   have hdup:KR d.unique k=gD k (ir (qW d.unique[k]) d.unique):=by simp[KR,hk]
   rw[←hdup]at e5
   rw[List.map_take]at e5
   have hx:=XIndexDef.e.eq_1 d.unique[k]
   have w:=dC (e:=XIndexDef.e) (z:=2) (fun _=>rfl) d.unique
   rcases om (Ty d.unique[k].store) d.stores with⟨h1,h2⟩|⟨j,hj,h1,h2⟩<;>rw[h1]at e3
   ·rw[show GF d.stores d.unique k=true by simp[GF,hk,h2]]
    simp +contextual (maxSteps:=9999999) [gF,hk,e3,hx,aR huL hk,bd hk,show cT (-1) 0=true from rfl]
   ·have e6:=wI hB1 (hs _ (Zf hj)) d.unique[k].field
    have hy:=XStore.e.eq_1 d.stores[j]
    rw[show GF d.stores d.unique k=(!(dB d.unique[k].field)||(KR d.unique k||(SV d.unique[k].field (oq d.unique[k].field d.stores[j].items)).2.2)) by simp[GF,hk,h2]]
    generalize SV d.unique[k].field (oq d.unique[k].field d.stores[j].items)=T at e6⊢
    unfold UY at e6
    generalize dB d.unique[k].field=N at e4⊢
    generalize KR d.unique k=D at e5⊢
    simp +contextual (maxSteps:=9999999) [gF,hk,hj,e3,e4,e5,e6,hx,hy,w,Nat.le_of_lt hk,aR huL hk,bd hk,ye]
  ·simp(maxSteps:=9999999) [gF,hp]
theorem Cl.imp {call:Nat→List V→Option V}(hc:rt call){Q:Ex→St→Prop}(hQ:Cl Q){ks:List Fr}(hz:kz ks=true){A:Prop}:Cl (fun e τ=>A→wp call Q ks (some (e,τ))):=fun e σ τ k h a=>S1 hc hQ hz k (h a)
theorem yp {B:Nat}(hB1:B≤1048576){d:XDatabase}(h:d.Ok B):ag Ph aM 393 [d.v]=some (aA (Nt d)):=by
 have hB:B≤maxLen:=by unfold maxLen;omega
 obtain⟨hn,hv,⟨hsl,hs⟩,hul,hu⟩:=h
 have e1:=du (Zc hn hB)
 have e2:=cq d.version 0 1000
 have hsL:d.stores.length≤maxLen:=Zc hsl hB
 have huL:d.unique.length≤maxLen:=Zc hul hB
 unfold Nt
 refine ae (fn:=ni) rfl ?_
 simp(maxSteps:=9999999) [ni]
 refine aG bm Cl.fin [.f,.t,.f,.t,.f,.f,.f,.f,.f,.f,.f,.f,.f,.f,.f,.f,.f,.f,.f,.f,.f,.f,.f,.f,.f,.f,.f,.f,.f,.f,.f,.f,.f,.f,.f,.f,.f,.f,.f,.f,.f,.f,.f,.f,.f,.f,.f,.f,.f,.f,.f,.f,.f,.f,.f,.f,.f,.f,.f,.f,.f,.f,.f,.f,.f,.f,.f,.f,.f,.f,.f,.f,.f,.f,.f,.f,.f,.f,.f,.f,.f,.f,.f,.f,.f,.f,.f,.f,.f,.f,.f,.f,.f,.f,.f,.f,.f,.f,.f,.f,.f,.f,.f,.f,.f,.f,.f,.f,.f,.f,.f,.f,.f,.f,.f,.f,.f,.f,.f,.f,.f,.f,.f,.f] (fun k=>[(3,aa .i64 k)]) d.stores.length (Rx d.stores) rfl (by simp) (fun k hk _=> ?_) (fun _ hp=> ?_)
 ·obtain⟨q1,q2⟩:=wQ hsL hk
  have e3:=lX (XStore.Ok.mono hB (hs _ (Zf hk)))
  simp +contextual (maxSteps:=9999999) [fw,Rx,hk,q1,q2,aR hsL hk,bd hk,XStore.e.eq_1 d.stores[k],XStore.e.eq_1 d.stores[k-1],e3]
 ·simp(maxSteps:=9999999) [fw,hp]
  refine aG bm Cl.fin [.f,.t,.f,.f,.t,.f,.f,.f,.f,.f,.f,.f,.f,.f,.f,.f,.f,.f,.f,.f,.f,.f,.f,.f,.f,.f,.f,.f,.f,.f,.f,.f,.f,.f,.f,.f,.f,.f,.f,.f,.f,.f,.f,.f,.f,.f,.f,.f,.f,.f,.f,.f,.f,.f,.f,.f,.f,.f,.f,.f,.f,.f,.f,.f,.f,.f,.f,.f,.f,.f,.f,.f,.f,.f,.f,.f,.f,.f,.f,.f,.f,.f,.f,.f,.f,.f,.f,.f,.f,.f,.f,.f,.f,.f,.f,.f,.f,.f,.f,.f,.f,.f,.f,.f,.f,.f,.f,.f,.f,.f,.f,.f,.f,.f,.f,.f,.f,.f,.f,.f,.f,.f,.f,.f] (fun k=>[(4,aa .i64 k)]) d.unique.length (GF d.stores d.unique) rfl (by simp) (fun k hk _=> ?_) (fun _ hp=> ?_)
  ·have e3:=Ae (d:=d) hsL d.unique[k].store
   have e4:=du (Zc (hu _ (Zf hk)).2 hB)
   have hdup:KR d.unique k=gD k (ir (qW d.unique[k]) d.unique):=by simp[KR,hk]
   have hx:=XIndexDef.e.eq_1 d.unique[k]
   rcases om (Ty d.unique[k].store) d.stores with⟨h1,h2⟩|⟨j,hj,h1,h2⟩<;>rw[h1]at e3
   ·rw[show GF d.stores d.unique k=true by simp[GF,hk,h2]]
    simp +contextual (maxSteps:=9999999) [dX,hk,e3,hx,aR huL hk,bd hk,show cT (-1) 0=true from rfl]
   ·have e6:=wW hB1 (hs _ (Zf hj)) d.unique[k].field
    have hy:=XStore.e.eq_1 d.stores[j]
    rw[show GF d.stores d.unique k=(!(dB d.unique[k].field)||(KR d.unique k||(SV d.unique[k].field (oq d.unique[k].field d.stores[j].items)).2.2)) by simp[GF,hk,h2],hdup]
    generalize SV d.unique[k].field (oq d.unique[k].field d.stores[j].items)=T at e6⊢
    unfold UY at e6
    generalize dB d.unique[k].field=N at e4⊢
    cases N
    ·simp +contextual (maxSteps:=9999999) [dX,hk,hj,e3,e4,e6,hx,hy,aR huL hk,bd hk,ye]
    cases hT:T.2.2<;>rw[hT]at e6
    rotate_left
    ·simp +contextual (maxSteps:=9999999) [dX,hk,hj,e3,e4,e6,hx,hy,aR huL hk,bd hk,ye]
    cases hD:gD k (ir (qW d.unique[k]) d.unique)
    ·simp(maxSteps:=9999999) [dX,hk,hj,e3,e4,e6,hx,hy,aR huL hk,bd hk,ye]
     refine aG bm (Cl.kn) [.f,.t,.f,.f,.t,.f,.f,.f,.f,.t,.f,.f,.f,.f,.f,.f,.f,.f,.f,.f,.f,.f,.f,.f,.f,.f,.f,.f,.f,.f,.f,.f,.f,.f,.f,.f,.f,.f,.f,.f,.f,.f,.f,.f,.f,.f,.f,.f,.f,.f,.f,.f,.f,.f,.f,.f,.f,.f,.f,.f,.f,.f,.f,.f,.f,.f,.f,.f,.f,.f,.f,.f,.f,.f,.f,.f,.f,.f,.f,.f,.f,.f,.f,.f,.f,.f,.f,.f,.f,.f,.f,.f,.f,.f,.f,.f,.f,.f,.f,.f,.f,.f,.f,.f,.f,.f,.f,.f,.f,.f,.f,.f,.f,.f,.f,.f,.f,.f,.f,.f,.f,.f,.f,.f] (fun j=>[(9,aa .i64 j)]) k (ir (qW d.unique[k]) d.unique) rfl (by simp) (fun i hi _=> ?_) (fun _ hq=> ?_)
     ·have hi2:i<d.unique.length:=by omega
      have hcm:qW d.unique[k] d.unique[i]=(d.unique[i].store==d.unique[k].store&&d.unique[i].field==d.unique[k].field):=F5 _ _
      simp +contextual (maxSteps:=9999999) [fx,ir,hcm,hi2,hk,hx,XIndexDef.e.eq_1 d.unique[i],pT,Ox,aR huL hi2,bd hi,hD]
     ·simp(maxSteps:=9999999) [fx,aR huL hk]
    ·simp(maxSteps:=9999999) [dX,hk,hj,e3,e4,e6,hx,hy,aR huL hk,bd hk,ye]
     refine aG bm (Cl.imp bm Cl.fin rfl) [.f,.t,.f,.f,.t,.f,.f,.f,.f,.t,.f,.f,.f,.f,.f,.f,.f,.f,.f,.f,.f,.f,.f,.f,.f,.f,.f,.f,.f,.f,.f,.f,.f,.f,.f,.f,.f,.f,.f,.f,.f,.f,.f,.f,.f,.f,.f,.f,.f,.f,.f,.f,.f,.f,.f,.f,.f,.f,.f,.f,.f,.f,.f,.f,.f,.f,.f,.f,.f,.f,.f,.f,.f,.f,.f,.f,.f,.f,.f,.f,.f,.f,.f,.f,.f,.f,.f,.f,.f,.f,.f,.f,.f,.f,.f,.f,.f,.f,.f,.f,.f,.f,.f,.f,.f,.f,.f,.f,.f,.f,.f,.f,.f,.f,.f,.f,.f,.f,.f,.f,.f,.f,.f,.f] (fun j=>[(9,aa .i64 j)]) k (ir (qW d.unique[k]) d.unique) rfl (by simp) (fun i hi _=> ?_) (fun _ hq=> ?_)
     ·have hi2:i<d.unique.length:=by omega
      have hcm:qW d.unique[k] d.unique[i]=(d.unique[i].store==d.unique[k].store&&d.unique[i].field==d.unique[k].field):=F5 _ _
      simp +contextual (maxSteps:=9999999) [fx,ir,hcm,hi2,hk,hx,XIndexDef.e.eq_1 d.unique[i],pT,Ox,aR huL hi2,bd hi,hD]
     ·rw[hD]at hq;cases hq
  ·simp +contextual (maxSteps:=9999999) [dX,hp,e1,e2]
end Gi
