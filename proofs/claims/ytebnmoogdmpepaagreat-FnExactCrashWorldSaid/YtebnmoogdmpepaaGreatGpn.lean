/- Of this proof. -/
import Derived.Test.YtebnmoogdmpepaaGreatGpb
set_option linter.unusedSimpArgs false
set_option linter.unusedVariables false
namespace Gi
open Go Go.RowKit
section
variable (mT:Int→List UInt8)
mutual
def kw :PV→Int→PV×Int
 | .int κ _,k=>(.int κ (κ.wrap k),k+1)
 | .bool _,k=>(.bool (k.tmod 3==0),k+1)
 | .str _,k=>(.str (mT k),k+1)
 | .lst rows,k=>(.lst (bJ rows k).1,(bJ rows k).2)
def pw :List PV→Int→List PV×Int
 |[],k=>([],k)
 |p::ps,k=>((kw p k).1::(pw ps (kw p k).2).1,(pw ps (kw p k).2).2)
def bJ :List (List PV)→Int→List (List PV)×Int
 |[],k=>([],k)
 |r::rs,k=>((pw r k).1::(bJ rs (pw r k).2).1,(bJ rs (pw r k).2).2)
end
mutual
theorem M2 :∀(p:PV)(k:Int),k≤(kw mT p k).2
 | .int κ _,k=>by simp only[kw];omega
 | .bool _,k=>by simp only[kw];omega
 | .str _,k=>by simp only[kw];omega
 | .lst rows,k=>by simp only[kw];exact jX rows k
theorem Bj :∀(ps:List PV)(k:Int),k≤(pw mT ps k).2
 |[],k=>by simp only[pw];omega
 |p::ps,k=>by
  simp only[pw]
  have:=M2 p k
  have:=Bj ps (kw mT p k).2
  omega
theorem jX :∀(rs:List (List PV))(k:Int),k≤(bJ mT rs k).2
 |[],k=>by simp only[bJ];omega
 |r::rs,k=>by
  simp only[bJ]
  have:=Bj r k
  have:=jX rs (pw mT r k).2
  omega
end
theorem Oj :∀(rs:List (List PV))(k:Int),(bJ mT rs k).1.length=rs.length
 |[],k=>by simp only[bJ]
 |r::rs,k=>by simp only[bJ,Zn,Oj rs]
theorem Oi :∀(ps:List PV)(k:Int),(pw mT ps k).1.length=ps.length
 |[],k=>by simp only[pw]
 |p::ps,k=>by simp only[pw,Zn,Oi ps]
end
structure MC where
 p:List Nat
 f:Nat
def On (c:Nat):List AOper:=[⟨some c, .mv (.tmp 0),none⟩,⟨some (c+1), .mv (.tmp 5),none⟩]
def rI (c:Nat):List Nat→List AOper
 |[]=>[]
 |d::ds=>⟨some (c+1), .fieldA (.tmp c) d,none⟩::rI (c+1) ds
def ML (c:Nat):List AOper:=[⟨some c, .mv (.tmp 1),none⟩,⟨some (c+1), .bin .add (.tmp c) (.pv (.int .i64 1)),none⟩,⟨some 1, .mv (.tmp (c+1)),none⟩]
def vX (mt c:Nat):PTy→List AOper
 | .int .i64=>[]
 | .int κ=>[⟨some (c+3), .conv κ (.tmp (c+2)),none⟩]
 | .str=>[⟨some (c+3), .callF mt [.tmp (c+2)],none⟩]
 | .bool=>[⟨some (c+3), .bin .rem (.tmp (c+2)) (.pv (.int .i64 3)),none⟩,⟨some (c+4), .bin .eql (.tmp (c+3)) (.pv (.int .i64 0)),none⟩]
 | .lst _=>[]
def DU (z mt c:Nat)(t:PTy)(x:MC):List (List AOper):=
 let v:=c+2+(vX mt c t).length
 [On c++(⟨some (c+2), .mv (.tmp 1),none⟩::(vX mt c t++(⟨some (v+1), .indexZ z (.tmp c) (.tmp (c+1)),none⟩::(rI (v+1) x.p++[⟨none, .storeZ 1 (.tmp (v+1+x.p.length)) (.tmp v),none⟩])))),ML (v+2+x.p.length)]
def HD (z c:Nat)(x:MC):List (List AOper):=
 let e:=c+3+x.p.length
 [On c++(⟨some (c+2), .indexZ z (.tmp c) (.tmp (c+1)),none⟩::(rI (c+2) x.p++[⟨some e, .loadZ false 1 (.tmp (c+2+x.p.length)),none⟩,⟨some (e+1), .mv (.tmp 1),none⟩,⟨some (e+2), .callM x.f (.tmp e) (.tmp (e+1)),none⟩,⟨some 1, .mv (.tmp (e+2)),none⟩]))]
def NR (z mt c:Nat):PTy→MC→List (List AOper)
 | .lst _,x=>HD z c x
 |t,x=>DU z mt c t x
def xV (mt c:Nat):PTy→MC→Nat
 | .lst _,x=>c+6+x.p.length
 |t,x=>c+6+(vX mt c t).length+x.p.length
def P9 (z mt:Nat):Nat→List PTy→List MC→List (List AOper)
 |c,t::ts,x::xs=>NR z mt c t x++P9 z mt (xV mt c t x) ts xs
 |_,_,_=>[]
def kR (mt:Nat):Nat→List PTy→List MC→Nat
 |c,t::ts,x::xs=>kR mt (xV mt c t x) ts xs
 |c,_,_=>c
def Nf :List (List AOper)→ACode
 |[]=> .skip
 |[a]=> .region a
 |a::b::r=> .seq (.region a) (Nf (b::r))
def Rp (i a t0:Nat):ACode:= .seq (.region [⟨some t0, .mv (.tmp i),none⟩,⟨some (t0+1), .mv (.tmp a),none⟩,⟨some (t0+2), .lenZ (.tmp (t0+1)),none⟩,⟨some (t0+3), .bin .lss (.tmp t0) (.tmp (t0+2)),none⟩]) (.cond (.tmp (t0+3)) .skip (.exit 0))
def BW (mt:Nat)(ts:List PTy)(xs:List MC):ACode:= .seq (Rp 5 0 6) (.seq (.block 1 (Nf (P9 ts.length mt 12 ts xs))) (IZ 5 10))
def fZ (mt:Nat)(ts:List PTy)(xs:List MC):AFn:=⟨kR mt 12 ts xs+1,[.tmp 4], .seq (.region [⟨some 4, .mv (.pv (.int .i64 0)),none⟩]) (.seq (.seq (.region [⟨some 5, .mv (.pv (.int .i64 0)),none⟩]) (.block 0 (.loop (BW mt ts xs)))) (.seq (.region [⟨some (kR mt 12 ts xs), .mv (.tmp 1),none⟩,⟨some 4, .mv (.tmp (kR mt 12 ts xs)),none⟩]) .ret))⟩
theorem Lx {call:Nat→List V→Option V}{lp:(St→Option (Ex×St))→St→Option (Ex×St)}:∀{rs:List (List AOper)}{σ σ':St},ai call rs.flatten σ=some σ'→aq call lp (Nf rs) σ=some (.normal,σ')
 |[],σ,σ',h=>by simp[ai]at h;subst h;rfl
 |[a],σ,σ',h=>by
  simp only[List.flatten_cons,List.flatten_nil,Zz]at h
  simp only[Nf,aq,h]
 |a::b::r,σ,σ',h=>by
  rw[List.flatten_cons]at h
  cases ha:ai call a σ with
  |none=>
   exfalso
   have:∀(a b:List AOper)(σ:St),ai call a σ=none→ai call (a++b) σ=none:=by
    intro a
    induction a with
    |nil=>intro b σ h;simp[ai]at h
    |cons o a ih=>
     intro b σ h
     simp only[Zf,ai]at h⊢
     cases hs:az call o σ with
     |none=>rfl
     |some σ1=>rw[hs]at h;exact ih b σ1 h
   rw[this a _ σ ha]at h
   cases h
  |some σ1=>
   rw[bU call a _ ha]at h
   have:=Lx (lp:=lp) (rs:=b::r) h
   simp only[Nf,aq,ha]
   exact this
theorem zU {call:Nat→List V→Option V}{o i:Nat}:∀{p:List Nat}{c j:Nat}{t:List V}{h:List AObj},t[c]? =some (.one (.ptr o i j))→c+p.length<t.length→
 ∃t',ai call (rI c p) ⟨t,h⟩=some ⟨t',h⟩∧t'.length=t.length∧t'[c+p.length]? =some (.one (.ptr o i (j+p.sum)))∧∀n≤c,t'[n]? =t[n]?
 |[],c,j,t,h,hc,hl=>⟨t,rfl,rfl,by simpa using hc,fun _ _=>rfl⟩
 |d::ds,c,j,t,h,hc,hl=>by
  simp only[Zn]at hl
  obtain⟨t',e1,e2,e3,e4⟩:=zU (call:=call) (o:=o) (i:=i) (p:=ds) (c:=c+1) (j:=j+d) (t:=t.set (c+1) (.one (.ptr o i (j+d)))) (h:=h) (Zd (by omega)) (by simp;omega)
  refine⟨t',?_,by simpa using e2,?_,fun n hn=> ?_⟩
  ·simp only[rI,ai,az,aK,bj,Opd.ev,getD_some hc,put,e1]
  ·simp only[Zn,List.sum_cons]
   rw[show c+(ds.length+1)=c+1+ds.length by omega,e3,Xj]
  ·rw[e4 n (by omega),Za (by omega)]
section
variable {Φ:Nat→Option AFn}{ext:Nat→List V→Option V}{mT:Int→List UInt8}{mt:Nat}
def sE :Int:=1099511627776
def pz (Φ:Nat→Option AFn)(ext:Nat→List V→Option V)(mT:Int→List UInt8)(f:Nat)(ts:List PTy):Prop:=
 (∀k:Int,ah Φ ext (f+hZ) [ba [],aa .i64 k]=some (.tup [(false,[.pv (.int .i64 k)])]))∧
 ∀rows:List (List PV),nQ (.lst ts) (.lst rows)→∀k:Int,0≤k→(bJ mT rows k).2≤sE→ah Φ ext (f+hZ) [.one (.down ts.length rows),aa .i64 k]=some (.tup [(false,[.pv (.int .i64 (bJ mT rows k).2)]),(false,[.down ts.length (bJ mT rows k).1])])
def Cj (Φ:Nat→Option AFn)(ext:Nat→List V→Option V)(mT:Int→List UInt8)(mt:Nat):Prop:=∀k:Int,0≤k→k≤sE→ah Φ ext mt [aa .i64 k]=some (f9 (mT k))
theorem OO (hT:Cj Φ ext mT mt){ty:PTy}{p:PV}(hp:nQ ty p)(hf:ty.flatT=true){c:Nat}{k:Int}(h0:0≤k)(hk:k<sE){t:List V}{h:List AObj}(h2:t[c+2]? =some (aa .i64 k))(hl:c+2+(vX mt c ty).length<t.length):
 ∃t',ai (ah Φ ext) (vX mt c ty) ⟨t,h⟩=some ⟨t',h⟩∧t'.length=t.length∧t'[c+2+(vX mt c ty).length]? =some (.one (.pv (kw mT p k).1))∧∀n≤c+2,t'[n]? =t[n]? :=by
 have e2:=getD_some h2
 cases ty with
 |lst us=>cases hf
 |str=>
  obtain⟨s,rfl⟩:=mb hp
  simp only[vX,Z6]at hl⊢
  refine⟨t.set (c+3) (f9 (mT k)),?_,by simp,by simp only[kw];exact Zd (by omega),fun n hn=>Za (by omega)⟩
  simp only[ai,az,aK,bj,Zv,Yb,Opd.ev,e2,am,V.view,L.view,hT k h0 (by omega),V.flat,L.flat,if_true,dO,di,put]
 |bool=>
  obtain⟨b,rfl⟩:=kL hp
  simp only[vX,Zn,Z8]at hl⊢
  have e3:(t.set (c+3) (aa .i64 (k.tmod 3))).getD (c+3) (.tup [])=aa .i64 (k.tmod 3):=aD (by omega)
  refine⟨(t.set (c+3) (aa .i64 (k.tmod 3))).set (c+4) (av (k.tmod 3==0)),?_,by simp,by simp only[kw];exact Zd (by simp;omega),fun n hn=>by rw[Za (by omega),Za (by omega)]⟩
  have h3:¬((3:Int)=0):=by decide
  simp only[ai,az,aK,bj,Opd.ev,e2,bin,if_true,bV,if_neg h3,put,e3]
 |int κ=>
  obtain⟨n,rfl⟩:=ma hp
  by_cases hκ:κ= .i64
  ·subst hκ
   have hw:IntKind.i64.wrap k=k:=by rw[IntKind.wrap_i64];unfold sE at hk;omega
   refine⟨t,rfl,rfl,?_,fun _ _=>rfl⟩
   simp only[vX,Z8,Y1,kw,hw]
   exact h2
  ·have hv:vX mt c (.int κ)=[⟨some (c+3), .conv κ (.tmp (c+2)),none⟩]:=by
    cases κ<;>first|rfl|exact absurd rfl hκ
   rw[hv]at hl⊢
   simp only[Z6]at hl⊢
   refine⟨t.set (c+3) (aa κ (κ.wrap k)),?_,by simp,by simp only[kw];exact Zd (by omega),fun n hn=>Za (by omega)⟩
   simp only[ai,az,aK,bj,Opd.ev,e2,isInt,put]
theorem zf {ty:PTy}{p:PV}(hp:nQ ty p)(hf:ty.flatT=true)(k:Int):p.flat=true∧(kw mT p k).1.flat=true∧(kw mT p k).2=k+1:=by
 cases ty with
 |lst us=>cases hf
 |str=>obtain⟨s,rfl⟩:=mb hp;simp[kw,PV.flat]
 |bool=>obtain⟨s,rfl⟩:=kL hp;simp[kw,PV.flat]
 |int κ=>obtain⟨s,rfl⟩:=ma hp;simp[kw,PV.flat]
theorem Tx {z:Nat}{E:List (List PV)}{i:Nat}(hi:i<E.length)(call:Nat→List V→Option V){t:List V}{a b:Nat}(ha:t[a]? =some (.one (.arr 0)))(hb:t[b]? =some (aa .i64 i)):bj call ⟨t,[.zarr z E]⟩ (.indexZ z (.tmp a) (.tmp b))=some (.one (.ptr 0 i 0)):=by
 simp only[bj,Opd.ev,getD_some ha,getD_some hb,isInt]
 simp[aG,lent,AObj.unz,hi]
structure MkSt (i:Nat) (k:Int) (t:List V):Prop where
 t0:t[0]? =some (.one (.arr 0))
 t1:t[1]? =some (aa .i64 k)
 t5:t[5]? =some (aa .i64 i)
theorem Rw {call:Nat→List V→Option V}{i c:Nat}{k:Int}{t:List V}{h:List AObj}(s:MkSt i k t)(h0:0≤k)(hk:k<sE)(hc:6≤c)(hl:c+1<t.length):
 ∃t',ai call (ML c) ⟨t,h⟩=some ⟨t',h⟩∧t'.length=t.length∧MkSt i (k+1) t':=by
 have e1:=getD_some s.t1
 have e2:(t.set c (aa .i64 k)).getD c (.tup [])=aa .i64 k:=aD (by omega)
 have hw:IntKind.i64.wrap (k+1)=k+1:=by rw[IntKind.wrap_i64];unfold sE at hk;omega
 have e3:((t.set c (aa .i64 k)).set (c+1) (aa .i64 (k+1))).getD (c+1) (.tup [])=aa .i64 (k+1):=aD (by simp;omega)
 refine⟨((t.set c (aa .i64 k)).set (c+1) (aa .i64 (k+1))).set 1 (aa .i64 (k+1)),?_,by simp,?_,?_,?_⟩
 ·simp only[ML,ai,az,aK,bj,Opd.ev,e1,put,e2,bin,if_true,bV,hw,e3]
 ·rw[Za (by omega),Za (by omega),Za (by omega)];exact s.t0
 ·exact Zd (by simp;omega)
 ·rw[Za (by omega),Za (by omega),Za (by omega)];exact s.t5
theorem OD {dn rest:List PV}{p q:PV}:(dn++p::rest).set dn.length q=dn++q::rest:=by
 rw[Y3 _ _ (Zl _),Y4,Yd]
theorem Du {dn rest:List PV}{p:PV}:(dn++p::rest)[dn.length]? =some p:=by
 rw[Zh (Zl _),Y4];rfl
theorem Pd (hT:Cj Φ ext mT mt){ty:PTy}{p:PV}{x:MC}{dn rest:List PV}{E:List (List PV)}{z i c:Nat}{k:Int}{t:List V}(hp:nQ ty p)(hf:ty.flatT=true)(s:MkSt i k t)(h0:0≤k)(hk:k<sE)(hc:12≤c)(hE:E[i]? =some (dn++p::rest))(hx:x.p.sum=dn.length)(hl:c+6+(vX mt c ty).length+x.p.length≤t.length):
 ∃t',ai (ah Φ ext) (DU z mt c ty x).flatten ⟨t,[.zarr z E]⟩=some ⟨t',[.zarr z (E.set i (dn++(kw mT p k).1::rest))]⟩∧t'.length=t.length∧MkSt i (kw mT p k).2 t':=by
 obtain⟨f1,f2,f3⟩:=zf (mT:=mT) hp hf k
 have hi:i<E.length:=(Zb.1 hE).1
 generalize hv:c+2+(vX mt c ty).length=v at*
 let t1:=((t.set c (.one (.arr 0))).set (c+1) (aa .i64 i)).set (c+2) (aa .i64 k)
 have a0:ai (ah Φ ext) (On c++[⟨some (c+2), .mv (.tmp 1),none⟩]) ⟨t,[.zarr z E]⟩=some ⟨t1,[.zarr z E]⟩:=by
  have e1:=getD_some s.t0
  have e2:(t.set c (V.one (.arr 0))).getD 5 (.tup [])=aa .i64 i:=(dD (by omega)).trans (getD_some s.t5)
  have e3:((t.set c (V.one (.arr 0))).set (c+1) (aa .i64 i)).getD 1 (.tup [])=aa .i64 k:=(dD (by omega)).trans ((dD (by omega)).trans (getD_some s.t1))
  simp only[On,Zf,Zi,ai,az,aK,bj,Opd.ev,e1,put,e2,e3,t1]
 have l1:t1.length=t.length:=by simp[t1]
 have g1:∀n,n<c→t1[n]? =t[n]? :=fun n hn=>by simp only[t1];rw[Za (by omega),Za (by omega),Za (by omega)]
 have gc:t1[c]? =some (.one (.arr 0)):=by simp only[t1];rw[Za (by omega),Za (by omega)];exact Zd (by omega)
 have gd:t1[c+1]? =some (aa .i64 i):=by simp only[t1];rw[Za (by omega)];exact Zd (by simp;omega)
 have ge:t1[c+2]? =some (aa .i64 k):=by simp only[t1];exact Zd (by simp;omega)
 clear_value t1
 obtain⟨t2,b1,b2,b3,b4⟩:=OO (h:=[.zarr z E]) hT hp hf h0 hk ge (by omega)
 rw[hv]at b3
 let t3:=t2.set (v+1) (.one (.ptr 0 i 0))
 have c1:ai (ah Φ ext) [⟨some (v+1), .indexZ z (.tmp c) (.tmp (c+1)),none⟩] ⟨t2,[.zarr z E]⟩=some ⟨t3,[.zarr z E]⟩:=by
  simp only[ai,az,aK,Tx hi (ah Φ ext) (t:=t2) (a:=c) (b:=c+1) ((b4 c (by omega)).trans gc) ((b4 (c+1) (by omega)).trans gd),put,t3]
 have l3:t3.length=t.length:=by simp only[t3,Ym];omega
 obtain⟨t4,d1,d2,d3,d4⟩:=zU (call:=ah Φ ext) (o:=0) (i:=i) (p:=x.p) (c:=v+1) (j:=0) (t:=t3) (h:=[.zarr z E]) (Zd (by omega)) (by omega)
 have q3:t4[v]? =some (.one (.pv (kw mT p k).1)):=by rw[d4 v (by omega)];simp only[t3];rw[Za (by omega)];exact b3
 have low:∀n,n<c→t4[n]? =t[n]? :=fun n hn=>by rw[d4 n (by omega)];simp only[t3];rw[Za (by omega),b4 n (by omega),g1 n hn]
 rw[Yc,hx]at d3
 have e1:ai (ah Φ ext) [⟨none, .storeZ 1 (.tmp (v+1+x.p.length)) (.tmp v),none⟩] ⟨t4,[.zarr z E]⟩=some ⟨t4,[.zarr z (E.set i (dn++(kw mT p k).1::rest))]⟩:=by
  simp only[ai,az,aK,bj,cf,Opd.ev,getD_some d3,getD_some q3,tf,Yz,hE,Du,f1,f2,and_self,if_true,OD,Yd,put]
 obtain⟨t5,i1,i2,i3⟩:=Rw (call:=ah Φ ext) (c:=v+2+x.p.length) (h:=[.zarr z (E.set i (dn++(kw mT p k).1::rest))]) (⟨(low 0 (by omega)).trans s.t0,(low 1 (by omega)).trans s.t1,(low 5 (by omega)).trans s.t5⟩:MkSt i k t4) h0 hk (by omega) (by omega)
 refine⟨t5,?_,by omega,by rw[f3];exact i3⟩
 have hflat:(DU z mt c ty x).flatten=(On c++[⟨some (c+2), .mv (.tmp 1),none⟩])++(vX mt c ty++([⟨some (v+1), .indexZ z (.tmp c) (.tmp (c+1)),none⟩]++(rI (v+1) x.p++([⟨none, .storeZ 1 (.tmp (v+1+x.p.length)) (.tmp v),none⟩]++ML (v+2+x.p.length))))):=by
  simp only[DU,hv,List.flatten_cons,List.flatten_nil,Zz,Zo,Zf,Zi]
 rw[hflat,bU _ _ _ a0,bU _ _ _ b1,bU _ _ _ c1,bU _ _ _ d1,bU _ _ _ e1,i1]
theorem Sy {z i j:Nat}{E:List (List PV)}{e:List PV}{q:PV}(hE:E[i]? =some e)(hj:j<z)(hq:e[j]? =some q):wz z E (i*z+j)=some q:=by
 have h1:(i*z+j)/z=i:=by rw[Yy,Nat.mul_add_div (by omega),Nat.div_eq_of_lt hj];omega
 have h2:(i*z+j)%z=j:=by rw[Yy,Nat.mul_add_mod,Nat.mod_eq_of_lt hj]
 simp only[wz,h1,h2,hE,hq]
theorem RS {z i j:Nat}{E:List (List PV)}{e:List PV}{q:PV}(hE:E[i]? =some e)(hj:j<z):ff z E (i*z+j) q=E.set i (e.set j q):=by
 have h1:(i*z+j)/z=i:=by rw[Yy,Nat.mul_add_div (by omega),Nat.div_eq_of_lt hj];omega
 have h2:(i*z+j)%z=j:=by rw[Yy,Nat.mul_add_mod,Nat.mod_eq_of_lt hj]
 simp only[ff,h1,h2,hE,Y2]
theorem Pe {us:List PTy}{rows:List (List PV)}{x:MC}{dn rest:List PV}{E:List (List PV)}{z i c:Nat}{k:Int}{t:List V}(hO:pz Φ ext mT x.f us)(hp:nQ (.lst us) (.lst rows))(s:MkSt i k t)(h0:0≤k)(hk:(bJ mT rows k).2≤sE)(hc:12≤c)(hE:E[i]? =some (dn++ .lst rows::rest))(hz:dn.length<z)(hx:x.p.sum=dn.length)(hl:c+6+x.p.length≤t.length):
 ∃t',ai (ah Φ ext) (HD z c x).flatten ⟨t,[.zarr z E]⟩=some ⟨t',[.zarr z (E.set i (dn++(kw mT (.lst rows) k).1::rest))]⟩∧t'.length=t.length∧MkSt i (kw mT (.lst rows) k).2 t':=by
 have hi:i<E.length:=(Zb.1 hE).1
 let t1:=(t.set c (.one (.arr 0))).set (c+1) (aa .i64 i)
 have a0:ai (ah Φ ext) (On c) ⟨t,[.zarr z E]⟩=some ⟨t1,[.zarr z E]⟩:=by
  have e1:=getD_some s.t0
  have e2:(t.set c (V.one (.arr 0))).getD 5 (.tup [])=aa .i64 i:=(dD (by omega)).trans (getD_some s.t5)
  simp only[On,ai,az,aK,bj,Opd.ev,e1,put,e2,t1]
 have g1:∀n,n<c→t1[n]? =t[n]? :=fun n hn=>by simp only[t1];rw[Za (by omega),Za (by omega)]
 have gc:t1[c]? =some (.one (.arr 0)):=by simp only[t1];rw[Za (by omega)];exact Zd (by omega)
 have gd:t1[c+1]? =some (aa .i64 i):=by simp only[t1];exact Zd (by simp;omega)
 have l1:t1.length=t.length:=by simp[t1]
 clear_value t1
 let t3:=t1.set (c+2) (.one (.ptr 0 i 0))
 have c1:ai (ah Φ ext) [⟨some (c+2), .indexZ z (.tmp c) (.tmp (c+1)),none⟩] ⟨t1,[.zarr z E]⟩=some ⟨t3,[.zarr z E]⟩:=by
  simp only[ai,az,aK,Tx hi (ah Φ ext) (t:=t1) (a:=c) (b:=c+1) gc gd,put,t3]
 have l3:t3.length=t.length:=by simp only[t3,Ym];omega
 obtain⟨t4,d1,d2,d3,d4⟩:=zU (call:=ah Φ ext) (o:=0) (i:=i) (p:=x.p) (c:=c+2) (j:=0) (t:=t3) (h:=[.zarr z E]) (Zd (by omega)) (by omega)
 have low:∀n,n<c→t4[n]? =t[n]? :=fun n hn=>by rw[d4 n (by omega)];simp only[t3];rw[Za (by omega),g1 n hn]
 rw[Yc,hx]at d3
 generalize hw:c+3+x.p.length=w at*
 have hw2:c+2+x.p.length<w:=by omega
 let E':=E.set i (dn++(kw mT (.lst rows) k).1::rest)
 have hcall:jO (ah Φ ext) [.zarr z E] x.f (.one (.sub 0 (i*z+dn.length))) k=some (aa .i64 (bJ mT rows k).2,[.zarr z E']):=by
  have hat:=Sy (z:=z) hE hz Du
  cases rows with
  |nil=>
   have hE':E'=E:=by
    simp only[E',kw,bJ]
    refine Xf fun n=> ?_
    by_cases hn:n=i
    ·subst hn;rw[Zd hi,hE]
    ·rw[Za (by omega)]
   rw[hE']
   simp only[jO,Yz,hat,hO.1 k,L.flat,if_true,bJ]
  |cons r rs=>
   have hwid:wid (r::rs)=us.length:=by simp only[wid];exact jM ((aL hp).2 r (by simp))
   have:=hO.2 (r::rs) hp k h0 hk
   have hpc:=RS (q:= .lst (bJ mT (r::rs) k).1) hE hz
   rw[OD]at hpc
   simp only[jO,Yz,hat,hwid,this,L.flat,and_self,if_true,hpc,Yd,E',kw]
 have r1:((t4.set w (V.one (.sub 0 (i*z+dn.length)))).set (w+1) (aa .i64 k)).getD w (.tup [])= .one (.sub 0 (i*z+dn.length)):=(dD (by omega)).trans (aD (by omega))
 have r2:((t4.set w (V.one (.sub 0 (i*z+dn.length)))).set (w+1) (aa .i64 k)).getD (w+1) (.tup [])=aa .i64 k:=aD (by simp;omega)
 have r3:(((t4.set w (V.one (.sub 0 (i*z+dn.length)))).set (w+1) (aa .i64 k)).set (w+2) (aa .i64 (bJ mT rows k).2)).getD (w+2) (.tup [])=aa .i64 (bJ mT rows k).2:=aD (by simp;omega)
 have r4:(t4.set w (V.one (.sub 0 (i*z+dn.length)))).getD 1 (.tup [])=aa .i64 k:=(dD (by omega)).trans (getD_some ((low 1 (by omega)).trans s.t1))
 refine⟨(((t4.set w (V.one (.sub 0 (i*z+dn.length)))).set (w+1) (aa .i64 k)).set (w+2) (aa .i64 (bJ mT rows k).2)).set 1 (aa .i64 (bJ mT rows k).2),?_,by simp;omega,?_,?_,?_⟩
 ·have hflat:(HD z c x).flatten=On c++([⟨some (c+2), .indexZ z (.tmp c) (.tmp (c+1)),none⟩]++(rI (c+2) x.p++[⟨some w, .loadZ false 1 (.tmp (c+2+x.p.length)),none⟩,⟨some (w+1), .mv (.tmp 1),none⟩,⟨some (w+2), .callM x.f (.tmp w) (.tmp (w+1)),none⟩,⟨some 1, .mv (.tmp (w+2)),none⟩])):=by
   simp only[HD,hw,List.flatten_cons,List.flatten_nil,Zz,Zo,Zf,Zi]
  rw[hflat,bU _ _ _ a0,bU _ _ _ c1,bU _ _ _ d1]
  simp only[ai,az,aK,bj,cf,Opd.ev,getD_some d3,qc,Yz,hE,Du,and_self,if_true,put,r4,r1,r2,hcall,r3,E']
 ·rw[Za (by omega),Za (by omega),Za (by omega),Za (by omega)];exact(low 0 (by omega)).trans s.t0
 ·simp only[kw];exact Zd (by simp;omega)
 ·rw[Za (by omega),Za (by omega),Za (by omega),Za (by omega)];exact(low 5 (by omega)).trans s.t5
def Hu (Φ:Nat→Option AFn)(ext:Nat→List V→Option V)(mT:Int→List UInt8):Nat→List PTy→List MC→Prop
 |j, .lst us::ts,x::xs=>x.p.sum=j∧pz Φ ext mT x.f us∧Hu Φ ext mT (j+1) ts xs
 |j,_::ts,x::xs=>x.p.sum=j∧Hu Φ ext mT (j+1) ts xs
 |_,[],[]=>True
 |_,_,_=>False
theorem DC :∀(ts:List PTy)(xs:List MC)(c:Nat),c≤kR mt c ts xs
 |[],_,c=>Zl _
 |_::_,[],c=>Zl _
 |t::ts,x::xs,c=>by
  simp only[kR]
  refine Zc ?_ (DC ts xs _)
  cases t<;>simp only[xV]<;>omega
theorem OC (hT:Cj Φ ext mT mt){z i:Nat}:∀(ts:List PTy)(xs:List MC){c:Nat}{dn row:List PV}{E:List (List PV)}{k:Int}{t:List V},Hu Φ ext mT dn.length ts xs→bi ts row→E[i]? =some (dn++row)→z=dn.length+ts.length→MkSt i k t→0≤k→(pw mT row k).2≤sE→12≤c→kR mt c ts xs≤t.length→
 ∃t',ai (ah Φ ext) (P9 z mt c ts xs).flatten ⟨t,[.zarr z E]⟩=some ⟨t',[.zarr z (E.set i (dn++(pw mT row k).1))]⟩∧t'.length=t.length∧MkSt i (pw mT row k).2 t'
 |[],xs,c,dn,row,E,k,t,hm,hr,hE,hz,s,h0,hk,hc,hl=>by
  obtain rfl:=fR hr
  have hi:i<E.length:=(Zb.1 hE).1
  have hE':E.set i (dn++(pw mT [] k).1)=E:=by
   simp only[pw]
   refine Xf fun n=> ?_
   by_cases hn:n=i
   ·subst hn;rw[Zd hi,hE]
   ·rw[Za (by omega)]
  rw[hE']
  cases xs<;>exact⟨t,rfl,rfl,by simpa only[pw]using s⟩
 |ty::ts,[],c,dn,row,E,k,t,hm,hr,hE,hz,s,h0,hk,hc,hl=>by cases ty<;>exact hm.elim
 |ty::ts,x::xs,c,dn,row,E,k,t,hm,hr,hE,hz,s,h0,hk,hc,hl=>by
  obtain⟨p,rest,rfl,hp,hr'⟩:=eA hr
  have hi:i<E.length:=(Zb.1 hE).1
  have hle:=Bj mT rest (kw mT p k).2
  have hlp:=M2 mT p k
  simp only[pw]at hk
  simp only[kR]at hl
  have hN:=DC (mt:=mt) ts xs (xV mt c ty x)
  have hnext:Hu Φ ext mT (dn++[(kw mT p k).1]).length ts xs:=by
   have:(dn++[(kw mT p k).1]).length=dn.length+1:=by simp
   rw[this]
   cases ty<;>first|exact hm.2|exact hm.2.2
  have hx:x.p.sum=dn.length:=by cases ty<;>exact hm.1
  have cell:∃t',ai (ah Φ ext) (NR z mt c ty x).flatten ⟨t,[.zarr z E]⟩=some ⟨t',[.zarr z (E.set i (dn++(kw mT p k).1::rest))]⟩∧t'.length=t.length∧MkSt i (kw mT p k).2 t':=by
   by_cases hf:ty.flatT=true
   ·have hR:NR z mt c ty x=DU z mt c ty x:=by cases ty<;>first|rfl|cases hf
    have hN':xV mt c ty x=c+6+(vX mt c ty).length+x.p.length:=by cases ty<;>first|rfl|cases hf
    rw[hR]
    have:=(zf (mT:=mT) hp hf k).2.2
    exact Pd hT hp hf s h0 (by omega) hc hE hx (by omega)
   ·cases ty with
    |lst us=>
     obtain⟨rows,rfl⟩:=nR hp
     have hN':xV mt c (.lst us) x=c+6+x.p.length:=rfl
     simp only[kw]at hle hk
     exact Pe hm.2.1 hp s h0 (by omega) hc hE (by rw[hz];simp) hx (by omega)
    |_=>exact absurd rfl hf
  obtain⟨t1,e1,e2,e3⟩:=cell
  have hc':c≤xV mt c ty x:=by cases ty<;>simp only[xV]<;>omega
  obtain⟨t2,f1,f2,f3⟩:=OC hT (z:=z) (i:=i) ts xs (c:=xV mt c ty x) (dn:=dn++[(kw mT p k).1]) (row:=rest) (E:=E.set i (dn++(kw mT p k).1::rest)) (k:=(kw mT p k).2) (t:=t1) hnext hr' (by rw[Zd hi];simp) (by rw[hz];simp;omega) e3 (by omega) hk (by omega) (by omega)
  refine⟨t2,?_,by omega,by simp only[pw];exact f3⟩
  simp only[P9,List.flatten_append]
  rw[bU _ _ _ e1,f1]
  simp only[List.set_set,pw,Zo,Zf,Zi]
theorem PZ (hT:Cj Φ ext mT mt){ts:List PTy}{xs:List MC}(hm:Hu Φ ext mT 0 ts xs):∀(rest done:List (List PV))(k:Int)(t:List V),MkSt done.length k t→(∀r∈rest,bi ts r)→0≤k→(bJ mT rest k).2≤sE→done.length+rest.length≤maxLen→kR mt 12 ts xs≤t.length→
 ∃t',aB (aq (ah Φ ext) aB (BW mt ts xs)) ⟨t,[.zarr ts.length (done++rest)]⟩=some (.exit 0,⟨t',[.zarr ts.length (done++(bJ mT rest k).1)]⟩)∧t'.length=t.length∧t'[1]? =some (aa .i64 (bJ mT rest k).2):=by
 intro rest
 have hN:=DC (mt:=mt) ts xs 12
 have head:∀(done rest:List (List PV))(k:Int)(t:List V),MkSt done.length k t→kR mt 12 ts xs≤t.length→∃t',aq (ah Φ ext) aB (Rp 5 0 6) ⟨t,[.zarr ts.length (done++rest)]⟩=some (if 0<rest.length then .normal else .exit 0,⟨t',[.zarr ts.length (done++rest)]⟩)∧t'.length=t.length∧MkSt done.length k t':=by
  intro done rest k t s hl
  let t1:=(((t.set 6 (aa .i64 done.length)).set 7 (.one (.arr 0))).set 8 (aa .i64 (done++rest).length)).set 9 (av (decide (0<rest.length)))
  have e0:=getD_some s.t5
  have e1:(t.set 6 (aa .i64 done.length)).getD 0 (.tup [])= .one (.arr 0):=(dD (by omega)).trans (getD_some s.t0)
  have e2:((t.set 6 (aa .i64 done.length)).set 7 (.one (.arr 0))).getD 7 (.tup [])= .one (.arr 0):=aD (by simp;omega)
  have e3:(((t.set 6 (aa .i64 done.length)).set 7 (.one (.arr 0))).set 8 (aa .i64 (done++rest).length)).getD 6 (.tup [])=aa .i64 done.length:=(dD (by omega)).trans ((dD (by omega)).trans (aD (by omega)))
  have e4:(((t.set 6 (aa .i64 done.length)).set 7 (.one (.arr 0))).set 8 (aa .i64 (done++rest).length)).getD 8 (.tup [])=aa .i64 (done++rest).length:=aD (by simp;omega)
  have e5:t1.getD 9 (.tup [])=av (decide (0<rest.length)):=aD (by simp;omega)
  have e6:asList (lent [AObj.zarr ts.length (done++rest)]) (.one (.arr 0))=some (done++rest):=rfl
  have e7:decide ((done.length:Int)<((done++rest).length:Int))=decide (0<rest.length):=by
   simp only[Zu]
   by_cases h:0<rest.length
   ·rw[decide_eq_true h,decide_eq_true (by omega)]
   ·rw[decide_eq_false h,decide_eq_false (by omega)]
  refine⟨t1,?_,by simp[t1],?_,?_,?_⟩
  ·simp only[Rp,aq,ai,az,aK,bj,Opd.ev,e0,put,e1,e2,e6,e3,e4,bin,if_true,bV,e7]
   have e5':=e5
   simp only[t1]at e5'
   rw[e5']
   by_cases h:0<rest.length
   ·simp only[isBool,h,decide_true,if_true,t1]
   ·simp only[isBool,h,decide_false,Z0,if_false,t1]
  ·simp only[t1];rw[Za (by omega),Za (by omega),Za (by omega),Za (by omega)];exact s.t0
  ·simp only[t1];rw[Za (by omega),Za (by omega),Za (by omega),Za (by omega)];exact s.t1
  ·simp only[t1];rw[Za (by omega),Za (by omega),Za (by omega),Za (by omega)];exact s.t5
 induction rest with
 |nil=>
  intro done k t s hr h0 hk hlen hl
  obtain⟨t',a1,a2,a3⟩:=head done [] k t s hl
  refine⟨t',iO ?_ (by simp),a2,by simp only[bJ];exact a3.t1⟩
  simp only[BW,aq,a1,Z8,Nat.lt_irrefl,if_false,bJ]
 |cons r rest ih=>
  intro done k t s hr h0 hk hlen hl
  obtain⟨t1,a1,a2,a3⟩:=head done (r::rest) k t s hl
  simp only[bJ]at hk
  have hle:=jX mT rest (pw mT r k).2
  have hll:=Bj mT r k
  obtain⟨t2,b1,b2,b3⟩:=OC hT (z:=ts.length) (i:=done.length) ts xs (c:=12) (dn:=[]) (row:=r) (E:=done++r::rest) (k:=k) (t:=t1) hm (hr r (by simp)) (by rw[Zh (Zl _),Y4];rfl) (by simp) a3 h0 (by omega) (Zl _) (by omega)
  have hset:(done++r::rest).set done.length ([]++(pw mT r k).1)=(done++[(pw mT r k).1])++rest:=by
   rw[Y3 _ _ (Zl _),Y4,Yd];simp
  rw[hset]at b1
  simp only[Zn]at hlen
  have hw:=j4 (k:=done.length) (by unfold maxLen at hlen;omega)
  let t3:=((t2.set 10 (aa .i64 done.length)).set 11 (aa .i64 ((done.length:Int)+1))).set 5 (aa .i64 ((done.length:Int)+1))
  have f0:=getD_some b3.t5
  have f1:(t2.set 10 (aa .i64 done.length)).getD 10 (.tup [])=aa .i64 done.length:=aD (by omega)
  have f2:((t2.set 10 (aa .i64 done.length)).set 11 (aa .i64 ((done.length:Int)+1))).getD 11 (.tup [])=aa .i64 ((done.length:Int)+1):=aD (by simp;omega)
  have f3:∀h,aq (ah Φ ext) aB (IZ 5 10) ⟨t2,h⟩=some (.normal,⟨t3,h⟩):=fun h=>by
   simp only[IZ,aq,ai,az,aK,bj,Opd.ev,f0,put,f1,bin,if_true,bV,hw,f2,t3]
  have s3:MkSt (done++[(pw mT r k).1]).length (pw mT r k).2 t3:=by
   have hlen1:(done++[(pw mT r k).1]).length=done.length+1:=by simp
   rw[hlen1]
   refine⟨?_,?_,?_⟩
   ·simp only[t3];rw[Za (by omega),Za (by omega),Za (by omega)];exact b3.t0
   ·simp only[t3];rw[Za (by omega),Za (by omega),Za (by omega)];exact b3.t1
   ·simp only[t3];exact Zd (by simp;omega)
  obtain⟨t4,g1,g2,g3⟩:=ih (done++[(pw mT r k).1]) (pw mT r k).2 t3 s3 (fun r m=>hr r (by simp[m])) (by omega) hk (by simp;omega) (by simp[t3];omega)
  refine⟨t4,(f7 (σ':=⟨t3,[.zarr ts.length (done++[(pw mT r k).1]++rest)]⟩) ?_).trans ?_,by rw[g2];simp[t3];omega,by simp only[bJ];exact g3⟩
  ·have hb:=Lx (lp:=aB) b1
   simp only[BW,aq,a1,Zn,Nat.zero_lt_succ,if_true,hb,f3]
  ·rw[g1]
   simp only[bJ,Zo,Zf,Zi]
end
def lV (ops:List AOper):Bool:=ops.all fun o=>o.op.noZ
theorem Oq (a b:List AOper):lV (a++b)=(lV a&&lV b):=by simp[lV]
theorem Fw (a:AOper)(b:List AOper):lV (a::b)=(a.op.noZ&&lV b):=by simp[lV]
theorem Bl :∀(p:List Nat)(c:Nat),lV (rI c p)=true
 |[],c=>rfl
 |d::ds,c=>by simp only[rI,Fw,Bl ds,AOp.noZ,Yr]
theorem Tb (mt c:Nat)(t:PTy):lV (vX mt c t)=true:=by
 cases t with
 |int κ=>cases κ<;>rfl
 |_=>rfl
theorem RP (z mt c:Nat)(t:PTy)(x:MC):∀r∈NR z mt c t x,lV r=true:=by
 have nil:lV []=true:=rfl
 have hS:∀t,∀r∈DU z mt c t x,lV r=true:=by
  intro t r hr
  simp only[DU,Yh,List.not_mem_nil,or_false]at hr
  rcases hr with rfl|rfl
  ·simp only[On,Zf,Zi,Fw,Oq,Tb,Bl,AOp.noZ,nil,Yr]
  ·rfl
 have hT:∀r∈HD z c x,lV r=true:=by
  intro r hr
  simp only[HD,Yh,List.not_mem_nil,or_false]at hr
  subst hr
  simp only[On,Zf,Zi,Fw,Oq,Bl,AOp.noZ,nil,Yr]
 cases t<;>first|exact hT|exact hS _
theorem Ot (z mt:Nat):∀(ts:List PTy)(xs:List MC)(c:Nat),∀r∈P9 z mt c ts xs,lV r=true
 |[],xs,c,r,hr=>by cases xs<;>cases hr
 |t::ts,[],c,r,hr=>by cases hr
 |t::ts,x::xs,c,r,hr=>by
  simp only[P9,Yw]at hr
  rcases hr with hr|hr
  ·exact RP z mt c t x r hr
  ·exact Ot z mt ts xs _ r hr
theorem Lc :∀(rs:List (List AOper)),(∀r∈rs,lV r=true)→(Nf rs).noZ=true
 |[],_=>rfl
 |[a],h=>h a (by simp)
 |a::b::r,h=>by
  have h1:=h a (by simp)
  have h2:=Lc (b::r) (fun x m=>h x (by simp only[Yh]at m⊢;exact .inr m))
  simp only[Nf,ACode.noZ,h2,Xi]
  exact h1
theorem Lb (mt:Nat)(ts:List PTy)(xs:List MC):(fZ mt ts xs).body.noZ=true:=by
 have:=Lc _ (Ot ts.length mt ts xs 12)
 simp only[fZ,BW,Rp,IZ,ACode.noZ,this,Xi,Bool.true_and]
 rfl
section
variable {Φ:Nat→Option AFn}{ext:Nat→List V→Option V}{mT:Int→List UInt8}{mt:Nat}
theorem fe (hT:Cj Φ ext mT mt){f:Nat}{ts:List PTy}{xs:List MC}(hk:Φ f=some (fZ mt ts xs))(hn:Φ (f+hZ)=none)(hm:Hu Φ ext mT 0 ts xs):pz Φ ext mT f ts:=by
 have hN:=DC (mt:=mt) ts xs 12
 obtain⟨m,hm'⟩:∃m,kR mt 12 ts xs+1-2=m+11:=⟨kR mt 12 ts xs-12,by omega⟩
 constructor
 ·intro k
  refine nZ hn hk (Lb mt ts xs) ?_
  have e0:asList (lent []) (ba [])=some []:=rfl
  have hrun:∃t',fL Φ ext (fZ mt ts xs).body (ij (fZ mt ts xs) [ba [],aa .i64 k])=some (.ret,⟨t',[]⟩)∧t'.getD 4 (.tup [])=aa .i64 k:=by
   have hst:ij (fZ mt ts xs) [ba [],aa .i64 k]=⟨ba []::aa .i64 k::List.replicate (m+11) (.tup []),[]⟩:=by
    simp only[ij,dE,thaw,thawL,fZ,Zn,Z8,Yb,Zf,Zi,hm']
   rw[hst]
   have hl:(ba []::aa .i64 k::List.replicate (m+11) (V.tup [])).length=kR mt 12 ts xs+1:=by simp;omega
   generalize hlp:aB (aq (ah Φ ext) aB (BW mt ts xs))=lp
   have hloop:∀u2 u3 u4 u6 u7 u8 u9(r:List V),lp ⟨ba []::aa .i64 k::u2::u3::u4::aa .i64 0::u6::u7::u8::u9::r,[]⟩=some (.exit 0,⟨ba []::aa .i64 k::u2::u3::u4::aa .i64 0::aa .i64 0::ba []::aa .i64 0::av false::r,[]⟩):=by
    intro u2 u3 u4 u6 u7 u8 u9 r
    rw[←hlp]
    refine iO ?_ (by simp)
    simp[BW,Rp,aq,ai,az,aK,bj,Opd.ev,put,e0,bin,bV,isBool]
   have hrep:List.replicate (m+11) (V.tup [])= .tup []:: .tup []:: .tup []:: .tup []:: .tup []:: .tup []:: .tup []:: .tup []::List.replicate (m+3) (.tup []):=rfl
   rw[hrep]at hl⊢
   let w:List V:=ba []::aa .i64 k:: .tup []:: .tup []::aa .i64 0::aa .i64 0::aa .i64 0::ba []::aa .i64 0::av false::List.replicate (m+3) (.tup [])
   have hwl:w.length=kR mt 12 ts xs+1:=by simp only[w,Zn,List.length_replicate]at hl⊢;omega
   have q1:w.getD 1 (.tup [])=aa .i64 k:=rfl
   have q2:(w.set (kR mt 12 ts xs) (aa .i64 k)).getD (kR mt 12 ts xs) (.tup [])=aa .i64 k:=aD (by omega)
   refine⟨(w.set (kR mt 12 ts xs) (aa .i64 k)).set 4 (aa .i64 k),?_,aD (by simp;omega)⟩
   have hend:aq (ah Φ ext) aB (.seq (.region [⟨some (kR mt 12 ts xs), .mv (.tmp 1),none⟩,⟨some 4, .mv (.tmp (kR mt 12 ts xs)),none⟩]) .ret) ⟨w,[]⟩=some (.ret,⟨(w.set (kR mt 12 ts xs) (aa .i64 k)).set 4 (aa .i64 k),[]⟩):=by
    simp only[aq,ai,az,aK,bj,Opd.ev,q1,put,q2]
   generalize hec:ACode.seq (.region [⟨some (kR mt 12 ts xs), .mv (.tmp 1),none⟩,⟨some 4, .mv (.tmp (kR mt 12 ts xs)),none⟩]) .ret=ec at hend
   simp only[fL,fZ,hec,aq,ai,az,aK,bj,Opd.ev,put,Ys,Yd,hlp,hloop,if_true]
   exact hend
  obtain⟨t',r1,r2⟩:=hrun
  rw[r1]
  simp only[ul,ET,fZ,aY,ar,bQ,r2,Yl,Xa,Zz,V.cells,bM,comp,aJ,bH,dE,thaw,thawL,Z8,Ya,gM,L.flat,if_true]
  rfl
 ·intro rows h k h0 hk2
  obtain⟨hl1,hr⟩:=aL h
  refine nZ hn hk (Lb mt ts xs) ?_
  have hst:ij (fZ mt ts xs) [.one (.down ts.length rows),aa .i64 k]=⟨.one (.arr 0)::aa .i64 k::List.replicate (m+11) (.tup []),[.zarr ts.length rows]⟩:=by
   simp only[ij,dE,thaw,thawL,fZ,Zn,Z8,Zv,Yb,Zf,Zi,AObj.zone,hm']
  let t0:List V:= .one (.arr 0)::aa .i64 k:: .tup []:: .tup []::aa .i64 0::aa .i64 0::List.replicate (m+7) (.tup [])
  have hl0:t0.length=kR mt 12 ts xs+1:=by simp[t0];omega
  obtain⟨t',a1,a2,a3⟩:=PZ hT hm rows [] k t0 ⟨rfl,rfl,rfl⟩ hr h0 hk2 (by simpa using hl1) (by omega)
  simp only[Zi]at a1
  have q1:t'.getD 1 (.tup [])=aa .i64 (bJ mT rows k).2:=getD_some a3
  have q2:(t'.set (kR mt 12 ts xs) (aa .i64 (bJ mT rows k).2)).getD (kR mt 12 ts xs) (.tup [])=aa .i64 (bJ mT rows k).2:=aD (by omega)
  have hend:aq (ah Φ ext) aB (.seq (.region [⟨some (kR mt 12 ts xs), .mv (.tmp 1),none⟩,⟨some 4, .mv (.tmp (kR mt 12 ts xs)),none⟩]) .ret) ⟨t',[.zarr ts.length (bJ mT rows k).1]⟩=some (.ret,⟨(t'.set (kR mt 12 ts xs) (aa .i64 (bJ mT rows k).2)).set 4 (aa .i64 (bJ mT rows k).2),[.zarr ts.length (bJ mT rows k).1]⟩):=by
   simp only[aq,ai,az,aK,bj,Opd.ev,q1,put,q2]
  have q3:((t'.set (kR mt 12 ts xs) (aa .i64 (bJ mT rows k).2)).set 4 (aa .i64 (bJ mT rows k).2)).getD 4 (.tup [])=aa .i64 (bJ mT rows k).2:=aD (by simp;omega)
  have hrun:fL Φ ext (fZ mt ts xs).body (ij (fZ mt ts xs) [.one (.down ts.length rows),aa .i64 k])=some (.ret,⟨(t'.set (kR mt 12 ts xs) (aa .i64 (bJ mT rows k).2)).set 4 (aa .i64 (bJ mT rows k).2),[.zarr ts.length (bJ mT rows k).1]⟩):=by
   rw[hst]
   generalize hec:ACode.seq (.region [⟨some (kR mt 12 ts xs), .mv (.tmp 1),none⟩,⟨some 4, .mv (.tmp (kR mt 12 ts xs)),none⟩]) .ret=ec at hend
   have hrep:List.replicate (m+11) (V.tup [])= .tup []:: .tup []:: .tup []:: .tup []::List.replicate (m+7) (.tup []):=rfl
   generalize hlp:aB (aq (ah Φ ext) aB (BW mt ts xs))=lp at a1
   simp only[t0]at a1
   simp only[fL,fZ,hec,hrep,aq,ai,az,aK,bj,Opd.ev,put,Ys,Yd,hlp,a1,if_true]
   exact hend
  rw[hrun]
  simp only[ul,ET,fZ,aY,ar,bQ,q3,Yl,Xa,Zz,V.cells,bM,comp,aJ,bH,dE,thaw,thawL,Zi,Zn,Z8,Yc,List.take_succ_cons,Ya,gM,L.flat,if_true]
  rfl
end
end Gi
