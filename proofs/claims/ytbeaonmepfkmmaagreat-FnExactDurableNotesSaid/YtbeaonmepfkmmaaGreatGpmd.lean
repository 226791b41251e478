/- Of this proof. -/
import Derived.Test.YtbeaonmepfkmmaaGreatGpbd
set_option linter.unusedSimpArgs false
set_option linter.unusedVariables false
namespace Gi
open Go Go.RowKit
section
variable (mT:Int→List UInt8)
mutual
def jZ :PV→Int→PV×Int
 | .int κ _,k=>(.int κ (κ.wrap k),k+1)
 | .bool _,k=>(.bool (k.tmod 3==0),k+1)
 | .str _,k=>(.str (mT k),k+1)
 | .lst rows,k=>(.lst (gi rows k).1,(gi rows k).2)
def om :List PV→Int→List PV×Int
 |[],k=>([],k)
 |p::ps,k=>((jZ p k).1::(om ps (jZ p k).2).1,(om ps (jZ p k).2).2)
def gi :List (List PV)→Int→List (List PV)×Int
 |[],k=>([],k)
 |r::rs,k=>((om r k).1::(gi rs (om r k).2).1,(gi rs (om r k).2).2)
end
mutual
theorem KX :∀(p:PV)(k:Int),k≤(jZ mT p k).2
 | .int κ _,k=>by simp only[jZ];omega
 | .bool _,k=>by simp only[jZ];omega
 | .str _,k=>by simp only[jZ];omega
 | .lst rows,k=>by simp only[jZ];exact yJ rows k
theorem yG :∀(ps:List PV)(k:Int),k≤(om mT ps k).2
 |[],k=>by simp only[om];omega
 |p::ps,k=>by
  simp only[om]
  have:=KX p k
  have:=yG ps (jZ mT p k).2
  omega
theorem yJ :∀(rs:List (List PV))(k:Int),k≤(gi mT rs k).2
 |[],k=>by simp only[gi];omega
 |r::rs,k=>by
  simp only[gi]
  have:=yG r k
  have:=yJ rs (om mT r k).2
  omega
end
theorem Mw :∀(rs:List (List PV))(k:Int),(gi mT rs k).1.length=rs.length
 |[],k=>by simp only[gi]
 |r::rs,k=>by simp only[gi,List.length_cons,Mw rs]
theorem Mv :∀(ps:List PV)(k:Int),(om mT ps k).1.length=ps.length
 |[],k=>by simp only[om]
 |p::ps,k=>by simp only[om,List.length_cons,Mv ps]
end
structure MC where
 p:List Nat
 f:Nat
def Mz (c:Nat):List AOper:=[⟨some c, .mv (.tmp 0),none⟩,⟨some (c+1), .mv (.tmp 5),none⟩]
def qh (c:Nat):List Nat→List AOper
 |[]=>[]
 |d::ds=>⟨some (c+1), .fieldA (.tmp c) d,none⟩::qh (c+1) ds
def KH (c:Nat):List AOper:=[⟨some c, .mv (.tmp 1),none⟩,⟨some (c+1), .bin .add (.tmp c) (.pv (.int .i64 1)),none⟩,⟨some 1, .mv (.tmp (c+1)),none⟩]
def tZ (mt c:Nat):PTy→List AOper
 | .int .i64=>[]
 | .int κ=>[⟨some (c+3), .conv κ (.tmp (c+2)),none⟩]
 | .str=>[⟨some (c+3), .callF mt [.tmp (c+2)],none⟩]
 | .bool=>[⟨some (c+3), .bin .rem (.tmp (c+2)) (.pv (.int .i64 3)),none⟩,⟨some (c+4), .bin .eql (.tmp (c+3)) (.pv (.int .i64 0)),none⟩]
 | .lst _=>[]
def Bf (z mt c:Nat)(t:PTy)(x:MC):List (List AOper):=
 let v:=c+2+(tZ mt c t).length
 [Mz c++(⟨some (c+2), .mv (.tmp 1),none⟩::(tZ mt c t++(⟨some (v+1), .indexZ z (.tmp c) (.tmp (c+1)),none⟩::(qh (v+1) x.p++[⟨none, .storeZ 1 (.tmp (v+1+x.p.length)) (.tmp v),none⟩])))),KH (v+2+x.p.length)]
def EI (z c:Nat)(x:MC):List (List AOper):=
 let e:=c+3+x.p.length
 [Mz c++(⟨some (c+2), .indexZ z (.tmp c) (.tmp (c+1)),none⟩::(qh (c+2) x.p++[⟨some e, .loadZ false 1 (.tmp (c+2+x.p.length)),none⟩,⟨some (e+1), .mv (.tmp 1),none⟩,⟨some (e+2), .callM x.f (.tmp e) (.tmp (e+1)),none⟩,⟨some 1, .mv (.tmp (e+2)),none⟩]))]
def LX (z mt c:Nat):PTy→MC→List (List AOper)
 | .lst _,x=>EI z c x
 |t,x=>Bf z mt c t x
def vF (mt c:Nat):PTy→MC→Nat
 | .lst _,x=>c+6+x.p.length
 |t,x=>c+6+(tZ mt c t).length+x.p.length
def OH (z mt:Nat):Nat→List PTy→List MC→List (List AOper)
 |c,t::ts,x::xs=>LX z mt c t x++OH z mt (vF mt c t x) ts xs
 |_,_,_=>[]
def kg (mt:Nat):Nat→List PTy→List MC→Nat
 |c,t::ts,x::xs=>kg mt (vF mt c t x) ts xs
 |c,_,_=>c
def Lf :List (List AOper)→ACode
 |[]=> .skip
 |[a]=> .region a
 |a::b::r=> .seq (.region a) (Lf (b::r))
def PX (i a t0:Nat):ACode:= .seq (.region [⟨some t0, .mv (.tmp i),none⟩,⟨some (t0+1), .mv (.tmp a),none⟩,⟨some (t0+2), .lenZ (.tmp (t0+1)),none⟩,⟨some (t0+3), .bin .lss (.tmp t0) (.tmp (t0+2)),none⟩]) (.cond (.tmp (t0+3)) .skip (.exit 0))
def zw (mt:Nat)(ts:List PTy)(xs:List MC):ACode:= .seq (PX 5 0 6) (.seq (.block 1 (Lf (OH ts.length mt 12 ts xs))) (Ge 5 10))
def fD (mt:Nat)(ts:List PTy)(xs:List MC):AFn:=⟨kg mt 12 ts xs+1,[.tmp 4], .seq (.region [⟨some 4, .mv (.pv (.int .i64 0)),none⟩]) (.seq (.seq (.region [⟨some 5, .mv (.pv (.int .i64 0)),none⟩]) (.block 0 (.loop (zw mt ts xs)))) (.seq (.region [⟨some (kg mt 12 ts xs), .mv (.tmp 1),none⟩,⟨some 4, .mv (.tmp (kg mt 12 ts xs)),none⟩]) .ret))⟩
theorem Jv {call:Nat→List V→Option V}{lp:(St→Option (Ex×St))→St→Option (Ex×St)}:∀{rs:List (List AOper)}{σ σ':St},ai call rs.flatten σ=some σ'→au call lp (Lf rs) σ=some (.normal,σ')
 |[],σ,σ',h=>by simp[ai]at h;subst h;rfl
 |[a],σ,σ',h=>by
  simp only[List.flatten_cons,List.flatten_nil,List.append_nil]at h
  simp only[Lf,au,h]
 |a::b::r,σ,σ',h=>by
  rw[List.flatten_cons]at h
  cases ha:ai call a σ with
  |none=>
   exfalso
   have:∀(a b:List AOper)(σ:St),ai call a σ=none→ai call (a++b) σ=none:=by
    intro a
    induction a with
    |nil=>intro b σ h;simp[ai]at h
    |cons o a ih=>
     intro b σ h
     simp only[List.cons_append,ai]at h⊢
     cases hs:aE call o σ with
     |none=>rfl
     |some σ1=>rw[hs]at h;exact ih b σ1 h
   rw[this a _ σ ha]at h
   cases h
  |some σ1=>
   rw[bL call a _ ha]at h
   have:=Jv (lp:=lp) (rs:=b::r) h
   simp only[Lf,au,ha]
   exact this
theorem xp {call:Nat→List V→Option V}{o i:Nat}:∀{p:List Nat}{c j:Nat}{t:List V}{h:List AObj},t[c]? =some (.one (.ptr o i j))→c+p.length<t.length→
 ∃t',ai call (qh c p) ⟨t,h⟩=some ⟨t',h⟩∧t'.length=t.length∧t'[c+p.length]? =some (.one (.ptr o i (j+p.sum)))∧∀n≤c,t'[n]? =t[n]?
 |[],c,j,t,h,hc,hl=>⟨t,rfl,rfl,by simpa using hc,fun _ _=>rfl⟩
 |d::ds,c,j,t,h,hc,hl=>by
  simp only[List.length_cons]at hl
  obtain⟨t',e1,e2,e3,e4⟩:=xp (call:=call) (o:=o) (i:=i) (p:=ds) (c:=c+1) (j:=j+d) (t:=t.set (c+1) (.one (.ptr o i (j+d)))) (h:=h) (List.getElem?_set_self (by omega)) (by simp;omega)
  refine⟨t',?_,by simpa using e2,?_,fun n hn=> ?_⟩
  ·simp only[qh,ai,aE,aO,a9,Opd.ev,getD_some hc,put,e1]
  ·simp only[List.length_cons,List.sum_cons]
   rw[show c+(ds.length+1)=c+1+ds.length by omega,e3,Nat.add_assoc]
  ·rw[e4 n (by omega),List.getElem?_set_ne (by omega)]
section
variable {Φ:Nat→Option AFn}{ext:Nat→List V→Option V}{mT:Int→List UInt8}{mt:Nat}
def yH :Int:=1099511627776
def ou (Φ:Nat→Option AFn)(ext:Nat→List V→Option V)(mT:Int→List UInt8)(f:Nat)(ts:List PTy):Prop:=
 (∀k:Int,ah Φ ext (f+mM) [aQ [],aa .i64 k]=some (.tup [(false,[.pv (.int .i64 k)])]))∧
 ∀rows:List (List PV),n5 (.lst ts) (.lst rows)→∀k:Int,0≤k→(gi mT rows k).2≤yH→ah Φ ext (f+mM) [.one (.down ts.length rows),aa .i64 k]=some (.tup [(false,[.pv (.int .i64 (gi mT rows k).2)]),(false,[.down ts.length (gi mT rows k).1])])
def zP (Φ:Nat→Option AFn)(ext:Nat→List V→Option V)(mT:Int→List UInt8)(mt:Nat):Prop:=∀k:Int,0≤k→k≤yH→ah Φ ext mt [aa .i64 k]=some (dv (mT k))
theorem Nb (hT:zP Φ ext mT mt){ty:PTy}{p:PV}(hp:n5 ty p)(hf:ty.flatT=true){c:Nat}{k:Int}(h0:0≤k)(hk:k<yH){t:List V}{h:List AObj}(h2:t[c+2]? =some (aa .i64 k))(hl:c+2+(tZ mt c ty).length<t.length):
 ∃t',ai (ah Φ ext) (tZ mt c ty) ⟨t,h⟩=some ⟨t',h⟩∧t'.length=t.length∧t'[c+2+(tZ mt c ty).length]? =some (.one (.pv (jZ mT p k).1))∧∀n≤c+2,t'[n]? =t[n]? :=by
 have e2:=getD_some h2
 cases ty with
 |lst us=>cases hf
 |str=>
  obtain⟨s,rfl⟩:=jG hp
  simp only[tZ,List.length_singleton]at hl⊢
  refine⟨t.set (c+3) (dv (mT k)),?_,by simp,by simp only[jZ];exact List.getElem?_set_self (by omega),fun n hn=>List.getElem?_set_ne (by omega)⟩
  simp only[ai,aE,aO,a9,List.map_cons,List.map_nil,Opd.ev,e2,av,V.view,L.view,hT k h0 (by omega),V.flat,L.flat,if_true,cX,cN,put]
 |bool=>
  obtain⟨b,rfl⟩:=j7 hp
  simp only[tZ,List.length_cons,List.length_nil]at hl⊢
  have e3:(t.set (c+3) (aa .i64 (k.tmod 3))).getD (c+3) (.tup [])=aa .i64 (k.tmod 3):=aF (by omega)
  refine⟨(t.set (c+3) (aa .i64 (k.tmod 3))).set (c+4) (aD (k.tmod 3==0)),?_,by simp,by simp only[jZ];exact List.getElem?_set_self (by simp;omega),fun n hn=>by rw[List.getElem?_set_ne (by omega),List.getElem?_set_ne (by omega)]⟩
  have h3:¬((3:Int)=0):=by decide
  simp only[ai,aE,aO,a9,Opd.ev,e2,bin,if_true,ca,if_neg h3,put,e3]
 |int κ=>
  obtain⟨n,rfl⟩:=lh hp
  by_cases hκ:κ= .i64
  ·subst hκ
   have hw:IntKind.i64.wrap k=k:=by rw[IntKind.wrap_i64];unfold yH at hk;omega
   refine⟨t,rfl,rfl,?_,fun _ _=>rfl⟩
   simp only[tZ,List.length_nil,Nat.add_zero,jZ,hw]
   exact h2
  ·have hv:tZ mt c (.int κ)=[⟨some (c+3), .conv κ (.tmp (c+2)),none⟩]:=by
    cases κ<;>first|rfl|exact absurd rfl hκ
   rw[hv]at hl⊢
   simp only[List.length_singleton]at hl⊢
   refine⟨t.set (c+3) (aa κ (κ.wrap k)),?_,by simp,by simp only[jZ];exact List.getElem?_set_self (by omega),fun n hn=>List.getElem?_set_ne (by omega)⟩
   simp only[ai,aE,aO,a9,Opd.ev,e2,isInt,put]
theorem wD {ty:PTy}{p:PV}(hp:n5 ty p)(hf:ty.flatT=true)(k:Int):p.flat=true∧(jZ mT p k).1.flat=true∧(jZ mT p k).2=k+1:=by
 cases ty with
 |lst us=>cases hf
 |str=>obtain⟨s,rfl⟩:=jG hp;simp[jZ,PV.flat]
 |bool=>obtain⟨s,rfl⟩:=j7 hp;simp[jZ,PV.flat]
 |int κ=>obtain⟨s,rfl⟩:=lh hp;simp[jZ,PV.flat]
theorem Sp {z:Nat}{E:List (List PV)}{i:Nat}(hi:i<E.length)(call:Nat→List V→Option V){t:List V}{a b:Nat}(ha:t[a]? =some (.one (.arr 0)))(hb:t[b]? =some (aa .i64 i)):a9 call ⟨t,[.zarr z E]⟩ (.indexZ z (.tmp a) (.tmp b))=some (.one (.ptr 0 i 0)):=by
 simp only[a9,Opd.ev,getD_some ha,getD_some hb,isInt]
 simp[aJ,lent,AObj.unz,hi]
structure MkSt (i:Nat) (k:Int) (t:List V):Prop where
 t0:t[0]? =some (.one (.arr 0))
 t1:t[1]? =some (aa .i64 k)
 t5:t[5]? =some (aa .i64 i)
theorem P5 {call:Nat→List V→Option V}{i c:Nat}{k:Int}{t:List V}{h:List AObj}(s:MkSt i k t)(h0:0≤k)(hk:k<yH)(hc:6≤c)(hl:c+1<t.length):
 ∃t',ai call (KH c) ⟨t,h⟩=some ⟨t',h⟩∧t'.length=t.length∧MkSt i (k+1) t':=by
 have e1:=getD_some s.t1
 have e2:(t.set c (aa .i64 k)).getD c (.tup [])=aa .i64 k:=aF (by omega)
 have hw:IntKind.i64.wrap (k+1)=k+1:=by rw[IntKind.wrap_i64];unfold yH at hk;omega
 have e3:((t.set c (aa .i64 k)).set (c+1) (aa .i64 (k+1))).getD (c+1) (.tup [])=aa .i64 (k+1):=aF (by simp;omega)
 refine⟨((t.set c (aa .i64 k)).set (c+1) (aa .i64 (k+1))).set 1 (aa .i64 (k+1)),?_,by simp,?_,?_,?_⟩
 ·simp only[KH,ai,aE,aO,a9,Opd.ev,e1,put,e2,bin,if_true,ca,hw,e3]
 ·rw[List.getElem?_set_ne (by omega),List.getElem?_set_ne (by omega),List.getElem?_set_ne (by omega)];exact s.t0
 ·exact List.getElem?_set_self (by simp;omega)
 ·rw[List.getElem?_set_ne (by omega),List.getElem?_set_ne (by omega),List.getElem?_set_ne (by omega)];exact s.t5
theorem MZ {dn rest:List PV}{p q:PV}:(dn++p::rest).set dn.length q=dn++q::rest:=by
 rw[List.set_append_right _ _ (Nat.le_refl _),Nat.sub_self,List.set_cons_zero]
theorem AS {dn rest:List PV}{p:PV}:(dn++p::rest)[dn.length]? =some p:=by
 rw[List.getElem?_append_right (Nat.le_refl _),Nat.sub_self];rfl
theorem Nx (hT:zP Φ ext mT mt){ty:PTy}{p:PV}{x:MC}{dn rest:List PV}{E:List (List PV)}{z i c:Nat}{k:Int}{t:List V}(hp:n5 ty p)(hf:ty.flatT=true)(s:MkSt i k t)(h0:0≤k)(hk:k<yH)(hc:12≤c)(hE:E[i]? =some (dn++p::rest))(hx:x.p.sum=dn.length)(hl:c+6+(tZ mt c ty).length+x.p.length≤t.length):
 ∃t',ai (ah Φ ext) (Bf z mt c ty x).flatten ⟨t,[.zarr z E]⟩=some ⟨t',[.zarr z (E.set i (dn++(jZ mT p k).1::rest))]⟩∧t'.length=t.length∧MkSt i (jZ mT p k).2 t':=by
 obtain⟨f1,f2,f3⟩:=wD (mT:=mT) hp hf k
 have hi:i<E.length:=(List.getElem?_eq_some_iff.1 hE).1
 generalize hv:c+2+(tZ mt c ty).length=v at*
 let t1:=((t.set c (.one (.arr 0))).set (c+1) (aa .i64 i)).set (c+2) (aa .i64 k)
 have a0:ai (ah Φ ext) (Mz c++[⟨some (c+2), .mv (.tmp 1),none⟩]) ⟨t,[.zarr z E]⟩=some ⟨t1,[.zarr z E]⟩:=by
  have e1:=getD_some s.t0
  have e2:(t.set c (V.one (.arr 0))).getD 5 (.tup [])=aa .i64 i:=(dj (by omega)).trans (getD_some s.t5)
  have e3:((t.set c (V.one (.arr 0))).set (c+1) (aa .i64 i)).getD 1 (.tup [])=aa .i64 k:=(dj (by omega)).trans ((dj (by omega)).trans (getD_some s.t1))
  simp only[Mz,List.cons_append,List.nil_append,ai,aE,aO,a9,Opd.ev,e1,put,e2,e3,t1]
 have l1:t1.length=t.length:=by simp[t1]
 have g1:∀n,n<c→t1[n]? =t[n]? :=fun n hn=>by simp only[t1];rw[List.getElem?_set_ne (by omega),List.getElem?_set_ne (by omega),List.getElem?_set_ne (by omega)]
 have gc:t1[c]? =some (.one (.arr 0)):=by simp only[t1];rw[List.getElem?_set_ne (by omega),List.getElem?_set_ne (by omega)];exact List.getElem?_set_self (by omega)
 have gd:t1[c+1]? =some (aa .i64 i):=by simp only[t1];rw[List.getElem?_set_ne (by omega)];exact List.getElem?_set_self (by simp;omega)
 have ge:t1[c+2]? =some (aa .i64 k):=by simp only[t1];exact List.getElem?_set_self (by simp;omega)
 clear_value t1
 obtain⟨t2,b1,b2,b3,b4⟩:=Nb (h:=[.zarr z E]) hT hp hf h0 hk ge (by omega)
 rw[hv]at b3
 let t3:=t2.set (v+1) (.one (.ptr 0 i 0))
 have c1:ai (ah Φ ext) [⟨some (v+1), .indexZ z (.tmp c) (.tmp (c+1)),none⟩] ⟨t2,[.zarr z E]⟩=some ⟨t3,[.zarr z E]⟩:=by
  simp only[ai,aE,aO,Sp hi (ah Φ ext) (t:=t2) (a:=c) (b:=c+1) ((b4 c (by omega)).trans gc) ((b4 (c+1) (by omega)).trans gd),put,t3]
 have l3:t3.length=t.length:=by simp only[t3,List.length_set];omega
 obtain⟨t4,d1,d2,d3,d4⟩:=xp (call:=ah Φ ext) (o:=0) (i:=i) (p:=x.p) (c:=v+1) (j:=0) (t:=t3) (h:=[.zarr z E]) (List.getElem?_set_self (by omega)) (by omega)
 have q3:t4[v]? =some (.one (.pv (jZ mT p k).1)):=by rw[d4 v (by omega)];simp only[t3];rw[List.getElem?_set_ne (by omega)];exact b3
 have low:∀n,n<c→t4[n]? =t[n]? :=fun n hn=>by rw[d4 n (by omega)];simp only[t3];rw[List.getElem?_set_ne (by omega),b4 n (by omega),g1 n hn]
 rw[Nat.zero_add,hx]at d3
 have e1:ai (ah Φ ext) [⟨none, .storeZ 1 (.tmp (v+1+x.p.length)) (.tmp v),none⟩] ⟨t4,[.zarr z E]⟩=some ⟨t4,[.zarr z (E.set i (dn++(jZ mT p k).1::rest))]⟩:=by
  simp only[ai,aE,aO,a9,b6,Opd.ev,getD_some d3,getD_some q3,wZ,List.getElem?_cons_zero,hE,AS,f1,f2,and_self,if_true,MZ,List.set_cons_zero,put]
 obtain⟨t5,i1,i2,i3⟩:=P5 (call:=ah Φ ext) (c:=v+2+x.p.length) (h:=[.zarr z (E.set i (dn++(jZ mT p k).1::rest))]) (⟨(low 0 (by omega)).trans s.t0,(low 1 (by omega)).trans s.t1,(low 5 (by omega)).trans s.t5⟩:MkSt i k t4) h0 hk (by omega) (by omega)
 refine⟨t5,?_,by omega,by rw[f3];exact i3⟩
 have hflat:(Bf z mt c ty x).flatten=(Mz c++[⟨some (c+2), .mv (.tmp 1),none⟩])++(tZ mt c ty++([⟨some (v+1), .indexZ z (.tmp c) (.tmp (c+1)),none⟩]++(qh (v+1) x.p++([⟨none, .storeZ 1 (.tmp (v+1+x.p.length)) (.tmp v),none⟩]++KH (v+2+x.p.length))))):=by
  simp only[Bf,hv,List.flatten_cons,List.flatten_nil,List.append_nil,List.append_assoc,List.cons_append,List.nil_append]
 rw[hflat,bL _ _ _ a0,bL _ _ _ b1,bL _ _ _ c1,bL _ _ _ d1,bL _ _ _ e1,i1]
theorem Rj {z i j:Nat}{E:List (List PV)}{e:List PV}{q:PV}(hE:E[i]? =some e)(hj:j<z)(hq:e[j]? =some q):uA z E (i*z+j)=some q:=by
 have h1:(i*z+j)/z=i:=by rw[Nat.mul_comm,Nat.mul_add_div (by omega),Nat.div_eq_of_lt hj];omega
 have h2:(i*z+j)%z=j:=by rw[Nat.mul_comm,Nat.mul_add_mod,Nat.mod_eq_of_lt hj]
 simp only[uA,h1,h2,hE,hq]
theorem Qs {z i j:Nat}{E:List (List PV)}{e:List PV}{q:PV}(hE:E[i]? =some e)(hj:j<z):eG z E (i*z+j) q=E.set i (e.set j q):=by
 have h1:(i*z+j)/z=i:=by rw[Nat.mul_comm,Nat.mul_add_div (by omega),Nat.div_eq_of_lt hj];omega
 have h2:(i*z+j)%z=j:=by rw[Nat.mul_comm,Nat.mul_add_mod,Nat.mod_eq_of_lt hj]
 simp only[eG,h1,h2,hE,Option.getD_some]
theorem Ny {us:List PTy}{rows:List (List PV)}{x:MC}{dn rest:List PV}{E:List (List PV)}{z i c:Nat}{k:Int}{t:List V}(hO:ou Φ ext mT x.f us)(hp:n5 (.lst us) (.lst rows))(s:MkSt i k t)(h0:0≤k)(hk:(gi mT rows k).2≤yH)(hc:12≤c)(hE:E[i]? =some (dn++ .lst rows::rest))(hz:dn.length<z)(hx:x.p.sum=dn.length)(hl:c+6+x.p.length≤t.length):
 ∃t',ai (ah Φ ext) (EI z c x).flatten ⟨t,[.zarr z E]⟩=some ⟨t',[.zarr z (E.set i (dn++(jZ mT (.lst rows) k).1::rest))]⟩∧t'.length=t.length∧MkSt i (jZ mT (.lst rows) k).2 t':=by
 have hi:i<E.length:=(List.getElem?_eq_some_iff.1 hE).1
 let t1:=(t.set c (.one (.arr 0))).set (c+1) (aa .i64 i)
 have a0:ai (ah Φ ext) (Mz c) ⟨t,[.zarr z E]⟩=some ⟨t1,[.zarr z E]⟩:=by
  have e1:=getD_some s.t0
  have e2:(t.set c (V.one (.arr 0))).getD 5 (.tup [])=aa .i64 i:=(dj (by omega)).trans (getD_some s.t5)
  simp only[Mz,ai,aE,aO,a9,Opd.ev,e1,put,e2,t1]
 have g1:∀n,n<c→t1[n]? =t[n]? :=fun n hn=>by simp only[t1];rw[List.getElem?_set_ne (by omega),List.getElem?_set_ne (by omega)]
 have gc:t1[c]? =some (.one (.arr 0)):=by simp only[t1];rw[List.getElem?_set_ne (by omega)];exact List.getElem?_set_self (by omega)
 have gd:t1[c+1]? =some (aa .i64 i):=by simp only[t1];exact List.getElem?_set_self (by simp;omega)
 have l1:t1.length=t.length:=by simp[t1]
 clear_value t1
 let t3:=t1.set (c+2) (.one (.ptr 0 i 0))
 have c1:ai (ah Φ ext) [⟨some (c+2), .indexZ z (.tmp c) (.tmp (c+1)),none⟩] ⟨t1,[.zarr z E]⟩=some ⟨t3,[.zarr z E]⟩:=by
  simp only[ai,aE,aO,Sp hi (ah Φ ext) (t:=t1) (a:=c) (b:=c+1) gc gd,put,t3]
 have l3:t3.length=t.length:=by simp only[t3,List.length_set];omega
 obtain⟨t4,d1,d2,d3,d4⟩:=xp (call:=ah Φ ext) (o:=0) (i:=i) (p:=x.p) (c:=c+2) (j:=0) (t:=t3) (h:=[.zarr z E]) (List.getElem?_set_self (by omega)) (by omega)
 have low:∀n,n<c→t4[n]? =t[n]? :=fun n hn=>by rw[d4 n (by omega)];simp only[t3];rw[List.getElem?_set_ne (by omega),g1 n hn]
 rw[Nat.zero_add,hx]at d3
 generalize hw:c+3+x.p.length=w at*
 have hw2:c+2+x.p.length<w:=by omega
 let E':=E.set i (dn++(jZ mT (.lst rows) k).1::rest)
 have hcall:kG (ah Φ ext) [.zarr z E] x.f (.one (.sub 0 (i*z+dn.length))) k=some (aa .i64 (gi mT rows k).2,[.zarr z E']):=by
  have hat:=Rj (z:=z) hE hz AS
  cases rows with
  |nil=>
   have hE':E'=E:=by
    simp only[E',jZ,gi]
    refine List.ext_getElem? fun n=> ?_
    by_cases hn:n=i
    ·subst hn;rw[List.getElem?_set_self hi,hE]
    ·rw[List.getElem?_set_ne (by omega)]
   rw[hE']
   simp only[kG,List.getElem?_cons_zero,hat,hO.1 k,L.flat,if_true,gi]
  |cons r rs=>
   have hwid:wid (r::rs)=us.length:=by simp only[wid];exact jp ((aS hp).2 r (by simp))
   have:=hO.2 (r::rs) hp k h0 hk
   have hpc:=Qs (q:= .lst (gi mT (r::rs) k).1) hE hz
   rw[MZ]at hpc
   simp only[kG,List.getElem?_cons_zero,hat,hwid,this,L.flat,and_self,if_true,hpc,List.set_cons_zero,E',jZ]
 have r1:((t4.set w (V.one (.sub 0 (i*z+dn.length)))).set (w+1) (aa .i64 k)).getD w (.tup [])= .one (.sub 0 (i*z+dn.length)):=(dj (by omega)).trans (aF (by omega))
 have r2:((t4.set w (V.one (.sub 0 (i*z+dn.length)))).set (w+1) (aa .i64 k)).getD (w+1) (.tup [])=aa .i64 k:=aF (by simp;omega)
 have r3:(((t4.set w (V.one (.sub 0 (i*z+dn.length)))).set (w+1) (aa .i64 k)).set (w+2) (aa .i64 (gi mT rows k).2)).getD (w+2) (.tup [])=aa .i64 (gi mT rows k).2:=aF (by simp;omega)
 have r4:(t4.set w (V.one (.sub 0 (i*z+dn.length)))).getD 1 (.tup [])=aa .i64 k:=(dj (by omega)).trans (getD_some ((low 1 (by omega)).trans s.t1))
 refine⟨(((t4.set w (V.one (.sub 0 (i*z+dn.length)))).set (w+1) (aa .i64 k)).set (w+2) (aa .i64 (gi mT rows k).2)).set 1 (aa .i64 (gi mT rows k).2),?_,by simp;omega,?_,?_,?_⟩
 ·have hflat:(EI z c x).flatten=Mz c++([⟨some (c+2), .indexZ z (.tmp c) (.tmp (c+1)),none⟩]++(qh (c+2) x.p++[⟨some w, .loadZ false 1 (.tmp (c+2+x.p.length)),none⟩,⟨some (w+1), .mv (.tmp 1),none⟩,⟨some (w+2), .callM x.f (.tmp w) (.tmp (w+1)),none⟩,⟨some 1, .mv (.tmp (w+2)),none⟩])):=by
   simp only[EI,hw,List.flatten_cons,List.flatten_nil,List.append_nil,List.append_assoc,List.cons_append,List.nil_append]
  rw[hflat,bL _ _ _ a0,bL _ _ _ c1,bL _ _ _ d1]
  simp only[ai,aE,aO,a9,b6,Opd.ev,getD_some d3,rt,List.getElem?_cons_zero,hE,AS,and_self,if_true,put,r4,r1,r2,hcall,r3,E']
 ·rw[List.getElem?_set_ne (by omega),List.getElem?_set_ne (by omega),List.getElem?_set_ne (by omega),List.getElem?_set_ne (by omega)];exact(low 0 (by omega)).trans s.t0
 ·simp only[jZ];exact List.getElem?_set_self (by simp;omega)
 ·rw[List.getElem?_set_ne (by omega),List.getElem?_set_ne (by omega),List.getElem?_set_ne (by omega),List.getElem?_set_ne (by omega)];exact(low 5 (by omega)).trans s.t5
def EB (Φ:Nat→Option AFn)(ext:Nat→List V→Option V)(mT:Int→List UInt8):Nat→List PTy→List MC→Prop
 |j, .lst us::ts,x::xs=>x.p.sum=j∧ou Φ ext mT x.f us∧EB Φ ext mT (j+1) ts xs
 |j,_::ts,x::xs=>x.p.sum=j∧EB Φ ext mT (j+1) ts xs
 |_,[],[]=>True
 |_,_,_=>False
theorem A2 :∀(ts:List PTy)(xs:List MC)(c:Nat),c≤kg mt c ts xs
 |[],_,c=>Nat.le_refl _
 |_::_,[],c=>Nat.le_refl _
 |t::ts,x::xs,c=>by
  simp only[kg]
  refine Nat.le_trans ?_ (A2 ts xs _)
  cases t<;>simp only[vF]<;>omega
theorem MX (hT:zP Φ ext mT mt){z i:Nat}:∀(ts:List PTy)(xs:List MC){c:Nat}{dn row:List PV}{E:List (List PV)}{k:Int}{t:List V},EB Φ ext mT dn.length ts xs→bp ts row→E[i]? =some (dn++row)→z=dn.length+ts.length→MkSt i k t→0≤k→(om mT row k).2≤yH→12≤c→kg mt c ts xs≤t.length→
 ∃t',ai (ah Φ ext) (OH z mt c ts xs).flatten ⟨t,[.zarr z E]⟩=some ⟨t',[.zarr z (E.set i (dn++(om mT row k).1))]⟩∧t'.length=t.length∧MkSt i (om mT row k).2 t'
 |[],xs,c,dn,row,E,k,t,hm,hr,hE,hz,s,h0,hk,hc,hl=>by
  obtain rfl:=eV hr
  have hi:i<E.length:=(List.getElem?_eq_some_iff.1 hE).1
  have hE':E.set i (dn++(om mT [] k).1)=E:=by
   simp only[om]
   refine List.ext_getElem? fun n=> ?_
   by_cases hn:n=i
   ·subst hn;rw[List.getElem?_set_self hi,hE]
   ·rw[List.getElem?_set_ne (by omega)]
  rw[hE']
  cases xs<;>exact⟨t,rfl,rfl,by simpa only[om]using s⟩
 |ty::ts,[],c,dn,row,E,k,t,hm,hr,hE,hz,s,h0,hk,hc,hl=>by cases ty<;>exact hm.elim
 |ty::ts,x::xs,c,dn,row,E,k,t,hm,hr,hE,hz,s,h0,hk,hc,hl=>by
  obtain⟨p,rest,rfl,hp,hr'⟩:=dB hr
  have hi:i<E.length:=(List.getElem?_eq_some_iff.1 hE).1
  have hle:=yG mT rest (jZ mT p k).2
  have hlp:=KX mT p k
  simp only[om]at hk
  simp only[kg]at hl
  have hN:=A2 (mt:=mt) ts xs (vF mt c ty x)
  have hnext:EB Φ ext mT (dn++[(jZ mT p k).1]).length ts xs:=by
   have:(dn++[(jZ mT p k).1]).length=dn.length+1:=by simp
   rw[this]
   cases ty<;>first|exact hm.2|exact hm.2.2
  have hx:x.p.sum=dn.length:=by cases ty<;>exact hm.1
  have cell:∃t',ai (ah Φ ext) (LX z mt c ty x).flatten ⟨t,[.zarr z E]⟩=some ⟨t',[.zarr z (E.set i (dn++(jZ mT p k).1::rest))]⟩∧t'.length=t.length∧MkSt i (jZ mT p k).2 t':=by
   by_cases hf:ty.flatT=true
   ·have hR:LX z mt c ty x=Bf z mt c ty x:=by cases ty<;>first|rfl|cases hf
    have hN':vF mt c ty x=c+6+(tZ mt c ty).length+x.p.length:=by cases ty<;>first|rfl|cases hf
    rw[hR]
    have:=(wD (mT:=mT) hp hf k).2.2
    exact Nx hT hp hf s h0 (by omega) hc hE hx (by omega)
   ·cases ty with
    |lst us=>
     obtain⟨rows,rfl⟩:=mV hp
     have hN':vF mt c (.lst us) x=c+6+x.p.length:=rfl
     simp only[jZ]at hle hk
     exact Ny hm.2.1 hp s h0 (by omega) hc hE (by rw[hz];simp) hx (by omega)
    |_=>exact absurd rfl hf
  obtain⟨t1,e1,e2,e3⟩:=cell
  have hc':c≤vF mt c ty x:=by cases ty<;>simp only[vF]<;>omega
  obtain⟨t2,f1,f2,f3⟩:=MX hT (z:=z) (i:=i) ts xs (c:=vF mt c ty x) (dn:=dn++[(jZ mT p k).1]) (row:=rest) (E:=E.set i (dn++(jZ mT p k).1::rest)) (k:=(jZ mT p k).2) (t:=t1) hnext hr' (by rw[List.getElem?_set_self hi];simp) (by rw[hz];simp;omega) e3 (by omega) hk (by omega) (by omega)
  refine⟨t2,?_,by omega,by simp only[om];exact f3⟩
  simp only[OH,List.flatten_append]
  rw[bL _ _ _ e1,f1]
  simp only[List.set_set,om,List.append_assoc,List.cons_append,List.nil_append]
theorem Ot (hT:zP Φ ext mT mt){ts:List PTy}{xs:List MC}(hm:EB Φ ext mT 0 ts xs):∀(rest done:List (List PV))(k:Int)(t:List V),MkSt done.length k t→(∀r∈rest,bp ts r)→0≤k→(gi mT rest k).2≤yH→done.length+rest.length≤maxLen→kg mt 12 ts xs≤t.length→
 ∃t',aC (au (ah Φ ext) aC (zw mt ts xs)) ⟨t,[.zarr ts.length (done++rest)]⟩=some (.exit 0,⟨t',[.zarr ts.length (done++(gi mT rest k).1)]⟩)∧t'.length=t.length∧t'[1]? =some (aa .i64 (gi mT rest k).2):=by
 intro rest
 have hN:=A2 (mt:=mt) ts xs 12
 have head:∀(done rest:List (List PV))(k:Int)(t:List V),MkSt done.length k t→kg mt 12 ts xs≤t.length→∃t',au (ah Φ ext) aC (PX 5 0 6) ⟨t,[.zarr ts.length (done++rest)]⟩=some (if 0<rest.length then .normal else .exit 0,⟨t',[.zarr ts.length (done++rest)]⟩)∧t'.length=t.length∧MkSt done.length k t':=by
  intro done rest k t s hl
  let t1:=(((t.set 6 (aa .i64 done.length)).set 7 (.one (.arr 0))).set 8 (aa .i64 (done++rest).length)).set 9 (aD (decide (0<rest.length)))
  have e0:=getD_some s.t5
  have e1:(t.set 6 (aa .i64 done.length)).getD 0 (.tup [])= .one (.arr 0):=(dj (by omega)).trans (getD_some s.t0)
  have e2:((t.set 6 (aa .i64 done.length)).set 7 (.one (.arr 0))).getD 7 (.tup [])= .one (.arr 0):=aF (by simp;omega)
  have e3:(((t.set 6 (aa .i64 done.length)).set 7 (.one (.arr 0))).set 8 (aa .i64 (done++rest).length)).getD 6 (.tup [])=aa .i64 done.length:=(dj (by omega)).trans ((dj (by omega)).trans (aF (by omega)))
  have e4:(((t.set 6 (aa .i64 done.length)).set 7 (.one (.arr 0))).set 8 (aa .i64 (done++rest).length)).getD 8 (.tup [])=aa .i64 (done++rest).length:=aF (by simp;omega)
  have e5:t1.getD 9 (.tup [])=aD (decide (0<rest.length)):=aF (by simp;omega)
  have e6:asList (lent [AObj.zarr ts.length (done++rest)]) (.one (.arr 0))=some (done++rest):=rfl
  have e7:decide ((done.length:Int)<((done++rest).length:Int))=decide (0<rest.length):=by
   simp only[List.length_append]
   by_cases h:0<rest.length
   ·rw[decide_eq_true h,decide_eq_true (by omega)]
   ·rw[decide_eq_false h,decide_eq_false (by omega)]
  refine⟨t1,?_,by simp[t1],?_,?_,?_⟩
  ·simp only[PX,au,ai,aE,aO,a9,Opd.ev,e0,put,e1,e2,e6,e3,e4,bin,if_true,ca,e7]
   have e5':=e5
   simp only[t1]at e5'
   rw[e5']
   by_cases h:0<rest.length
   ·simp only[isBool,h,decide_true,if_true,t1]
   ·simp only[isBool,h,decide_false,Bool.false_eq_true,if_false,t1]
  ·simp only[t1];rw[List.getElem?_set_ne (by omega),List.getElem?_set_ne (by omega),List.getElem?_set_ne (by omega),List.getElem?_set_ne (by omega)];exact s.t0
  ·simp only[t1];rw[List.getElem?_set_ne (by omega),List.getElem?_set_ne (by omega),List.getElem?_set_ne (by omega),List.getElem?_set_ne (by omega)];exact s.t1
  ·simp only[t1];rw[List.getElem?_set_ne (by omega),List.getElem?_set_ne (by omega),List.getElem?_set_ne (by omega),List.getElem?_set_ne (by omega)];exact s.t5
 induction rest with
 |nil=>
  intro done k t s hr h0 hk hlen hl
  obtain⟨t',a1,a2,a3⟩:=head done [] k t s hl
  refine⟨t',it ?_ (by simp),a2,by simp only[gi];exact a3.t1⟩
  simp only[zw,au,a1,List.length_nil,Nat.lt_irrefl,if_false,gi]
 |cons r rest ih=>
  intro done k t s hr h0 hk hlen hl
  obtain⟨t1,a1,a2,a3⟩:=head done (r::rest) k t s hl
  simp only[gi]at hk
  have hle:=yJ mT rest (om mT r k).2
  have hll:=yG mT r k
  obtain⟨t2,b1,b2,b3⟩:=MX hT (z:=ts.length) (i:=done.length) ts xs (c:=12) (dn:=[]) (row:=r) (E:=done++r::rest) (k:=k) (t:=t1) hm (hr r (by simp)) (by rw[List.getElem?_append_right (Nat.le_refl _),Nat.sub_self];rfl) (by simp) a3 h0 (by omega) (Nat.le_refl _) (by omega)
  have hset:(done++r::rest).set done.length ([]++(om mT r k).1)=(done++[(om mT r k).1])++rest:=by
   rw[List.set_append_right _ _ (Nat.le_refl _),Nat.sub_self,List.set_cons_zero];simp
  rw[hset]at b1
  simp only[List.length_cons]at hlen
  have hw:=jE (k:=done.length) (by unfold maxLen at hlen;omega)
  let t3:=((t2.set 10 (aa .i64 done.length)).set 11 (aa .i64 ((done.length:Int)+1))).set 5 (aa .i64 ((done.length:Int)+1))
  have f0:=getD_some b3.t5
  have f1:(t2.set 10 (aa .i64 done.length)).getD 10 (.tup [])=aa .i64 done.length:=aF (by omega)
  have f2:((t2.set 10 (aa .i64 done.length)).set 11 (aa .i64 ((done.length:Int)+1))).getD 11 (.tup [])=aa .i64 ((done.length:Int)+1):=aF (by simp;omega)
  have f3:∀h,au (ah Φ ext) aC (Ge 5 10) ⟨t2,h⟩=some (.normal,⟨t3,h⟩):=fun h=>by
   simp only[Ge,au,ai,aE,aO,a9,Opd.ev,f0,put,f1,bin,if_true,ca,hw,f2,t3]
  have s3:MkSt (done++[(om mT r k).1]).length (om mT r k).2 t3:=by
   have hlen1:(done++[(om mT r k).1]).length=done.length+1:=by simp
   rw[hlen1]
   refine⟨?_,?_,?_⟩
   ·simp only[t3];rw[List.getElem?_set_ne (by omega),List.getElem?_set_ne (by omega),List.getElem?_set_ne (by omega)];exact b3.t0
   ·simp only[t3];rw[List.getElem?_set_ne (by omega),List.getElem?_set_ne (by omega),List.getElem?_set_ne (by omega)];exact b3.t1
   ·simp only[t3];exact List.getElem?_set_self (by simp;omega)
  obtain⟨t4,g1,g2,g3⟩:=ih (done++[(om mT r k).1]) (om mT r k).2 t3 s3 (fun r m=>hr r (by simp[m])) (by omega) hk (by simp;omega) (by simp[t3];omega)
  refine⟨t4,(fG (σ':=⟨t3,[.zarr ts.length (done++[(om mT r k).1]++rest)]⟩) ?_).trans ?_,by rw[g2];simp[t3];omega,by simp only[gi];exact g3⟩
  ·have hb:=Jv (lp:=aC) b1
   simp only[zw,au,a1,List.length_cons,Nat.zero_lt_succ,if_true,hb,f3]
  ·rw[g1]
   simp only[gi,List.append_assoc,List.cons_append,List.nil_append]
end
end Gi
