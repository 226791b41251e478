/- Of this proof. -/
import Derived.Test.YtbeaonmepfkmmaaGreatGpbv
set_option linter.unusedSimpArgs false
set_option linter.unusedVariables false
namespace Gi
open Go Go.RowKit
section
variable (mT:Int→List UInt8)
mutual
def ky :PV→Int→PV×Int
 | .int κ _,k=>(.int κ (κ.wrap k),k+1)
 | .bool _,k=>(.bool (k.tmod 3==0),k+1)
 | .str _,k=>(.str (mT k),k+1)
 | .lst rows,k=>(.lst (gM rows k).1,(gM rows k).2)
def o8 :List PV→Int→List PV×Int
 |[],k=>([],k)
 |p::ps,k=>((ky p k).1::(o8 ps (ky p k).2).1,(o8 ps (ky p k).2).2)
def gM :List (List PV)→Int→List (List PV)×Int
 |[],k=>([],k)
 |r::rs,k=>((o8 r k).1::(gM rs (o8 r k).2).1,(gM rs (o8 r k).2).2)
end
mutual
theorem Mp :∀(p:PV)(k:Int),k≤(ky mT p k).2
 | .int κ _,k=>by simp only[ky];omega
 | .bool _,k=>by simp only[ky];omega
 | .str _,k=>by simp only[ky];omega
 | .lst rows,k=>by simp only[ky];exact wz rows k
theorem Ad :∀(ps:List PV)(k:Int),k≤(o8 mT ps k).2
 |[],k=>by simp only[o8];omega
 |p::ps,k=>by
  simp only[o8]
  have:=Mp p k
  have:=Ad ps (ky mT p k).2
  omega
theorem wz :∀(rs:List (List PV))(k:Int),k≤(gM mT rs k).2
 |[],k=>by simp only[gM];omega
 |r::rs,k=>by
  simp only[gM]
  have:=Ad r k
  have:=wz rs (o8 mT r k).2
  omega
end
theorem NU :∀(rs:List (List PV))(k:Int),(gM mT rs k).1.length=rs.length
 |[],k=>by simp only[gM]
 |r::rs,k=>by simp only[gM,Zo,NU rs]
theorem NT :∀(ps:List PV)(k:Int),(o8 mT ps k).1.length=ps.length
 |[],k=>by simp only[o8]
 |p::ps,k=>by simp only[o8,Zo,NT ps]
end
structure MC where
 p:List Nat
 f:Nat
def NW (c:Nat):List AOper:=[⟨some c, .mv (.tmp 0),none⟩,⟨some (c+1), .mv (.tmp 5),none⟩]
def ro (c:Nat):List Nat→List AOper
 |[]=>[]
 |d::ds=>⟨some (c+1), .fieldA (.tmp c) d,none⟩::ro (c+1) ds
def Mb (c:Nat):List AOper:=[⟨some c, .mv (.tmp 1),none⟩,⟨some (c+1), .bin .add (.tmp c) (.pv (.int .i64 1)),none⟩,⟨some 1, .mv (.tmp (c+1)),none⟩]
def vm (mt c:Nat):PTy→List AOper
 | .int .i64=>[]
 | .int κ=>[⟨some (c+3), .conv κ (.tmp (c+2)),none⟩]
 | .str=>[⟨some (c+3), .callF mt [.tmp (c+2)],none⟩]
 | .bool=>[⟨some (c+3), .bin .rem (.tmp (c+2)) (.pv (.int .i64 3)),none⟩,⟨some (c+4), .bin .eql (.tmp (c+3)) (.pv (.int .i64 0)),none⟩]
 | .lst _=>[]
def CH (z mt c:Nat)(t:PTy)(x:MC):List (List AOper):=
 let v:=c+2+(vm mt c t).length
 [NW c++(⟨some (c+2), .mv (.tmp 1),none⟩::(vm mt c t++(⟨some (v+1), .indexZ z (.tmp c) (.tmp (c+1)),none⟩::(ro (v+1) x.p++[⟨none, .storeZ 1 (.tmp (v+1+x.p.length)) (.tmp v),none⟩])))),Mb (v+2+x.p.length)]
def Gt (z c:Nat)(x:MC):List (List AOper):=
 let e:=c+3+x.p.length
 [NW c++(⟨some (c+2), .indexZ z (.tmp c) (.tmp (c+1)),none⟩::(ro (c+2) x.p++[⟨some e, .loadZ false 1 (.tmp (c+2+x.p.length)),none⟩,⟨some (e+1), .mv (.tmp 1),none⟩,⟨some (e+2), .callM x.f (.tmp e) (.tmp (e+1)),none⟩,⟨some 1, .mv (.tmp (e+2)),none⟩]))]
def Nq (z mt c:Nat):PTy→MC→List (List AOper)
 | .lst _,x=>Gt z c x
 |t,x=>CH z mt c t x
def xb (mt c:Nat):PTy→MC→Nat
 | .lst _,x=>c+6+x.p.length
 |t,x=>c+6+(vm mt c t).length+x.p.length
def P0 (z mt:Nat):Nat→List PTy→List MC→List (List AOper)
 |c,t::ts,x::xs=>Nq z mt c t x++P0 z mt (xb mt c t x) ts xs
 |_,_,_=>[]
def kO (mt:Nat):Nat→List PTy→List MC→Nat
 |c,t::ts,x::xs=>kO mt (xb mt c t x) ts xs
 |c,_,_=>c
def MI :List (List AOper)→ACode
 |[]=> .skip
 |[a]=> .region a
 |a::b::r=> .seq (.region a) (MI (b::r))
def Rc (i a t0:Nat):ACode:= .seq (.region [⟨some t0, .mv (.tmp i),none⟩,⟨some (t0+1), .mv (.tmp a),none⟩,⟨some (t0+2), .lenZ (.tmp (t0+1)),none⟩,⟨some (t0+3), .bin .lss (.tmp t0) (.tmp (t0+2)),none⟩]) (.cond (.tmp (t0+3)) .skip (.exit 0))
def AP (mt:Nat)(ts:List PTy)(xs:List MC):ACode:= .seq (Rc 5 0 6) (.seq (.block 1 (MI (P0 ts.length mt 12 ts xs))) (HW 5 10))
def fH (mt:Nat)(ts:List PTy)(xs:List MC):AFn:=⟨kO mt 12 ts xs+1,[.tmp 4], .seq (.region [⟨some 4, .mv (.pv (.int .i64 0)),none⟩]) (.seq (.seq (.region [⟨some 5, .mv (.pv (.int .i64 0)),none⟩]) (.block 0 (.loop (AP mt ts xs)))) (.seq (.region [⟨some (kO mt 12 ts xs), .mv (.tmp 1),none⟩,⟨some 4, .mv (.tmp (kO mt 12 ts xs)),none⟩]) .ret))⟩
theorem KY {call:Nat→List V→Option V}{lp:(St→Option (Ex×St))→St→Option (Ex×St)}:∀{rs:List (List AOper)}{σ σ':St},am call rs.flatten σ=some σ'→aB call lp (MI rs) σ=some (.normal,σ')
 |[],σ,σ',h=>by simp[am]at h;subst h;rfl
 |[a],σ,σ',h=>by
  simp only[List.flatten_cons,List.flatten_nil,Z3]at h
  simp only[MI,aB,h]
 |a::b::r,σ,σ',h=>by
  rw[List.flatten_cons]at h
  cases ha:am call a σ with
  |none=>
   exfalso
   have:∀(a b:List AOper)(σ:St),am call a σ=none→am call (a++b) σ=none:=by
    intro a
    induction a with
    |nil=>intro b σ h;simp[am]at h
    |cons o a ih=>
     intro b σ h
     simp only[Zr,am]at h⊢
     cases hs:aK call o σ with
     |none=>rfl
     |some σ1=>rw[hs]at h;exact ih b σ1 h
   rw[this a _ σ ha]at h
   cases h
  |some σ1=>
   rw[bZ call a _ ha]at h
   have:=KY (lp:=lp) (rs:=b::r) h
   simp only[MI,aB,ha]
   exact this
theorem yL {call:Nat→List V→Option V}{o i:Nat}:∀{p:List Nat}{c j:Nat}{t:List V}{h:List AObj},t[c]? =some (.one (.ptr o i j))→c+p.length<t.length→
 ∃t',am call (ro c p) ⟨t,h⟩=some ⟨t',h⟩∧t'.length=t.length∧t'[c+p.length]? =some (.one (.ptr o i (j+p.sum)))∧∀n≤c,t'[n]? =t[n]?
 |[],c,j,t,h,hc,hl=>⟨t,rfl,rfl,by simpa using hc,fun _ _=>rfl⟩
 |d::ds,c,j,t,h,hc,hl=>by
  simp only[Zo]at hl
  obtain⟨t',e1,e2,e3,e4⟩:=yL (call:=call) (o:=o) (i:=i) (p:=ds) (c:=c+1) (j:=j+d) (t:=t.set (c+1) (.one (.ptr o i (j+d)))) (h:=h) (Zd (by omega)) (by simp;omega)
  refine⟨t',?_,by simpa using e2,?_,fun n hn=> ?_⟩
  ·simp only[ro,am,aK,aW,bo,Opd.ev,getD_some hc,put,e1]
  ·simp only[Zo,List.sum_cons]
   rw[show c+(ds.length+1)=c+1+ds.length by omega,e3,Nat.add_assoc]
  ·rw[e4 n (by omega),Za (by omega)]
section
variable {Φ:Nat→Option AFn}{ext:Nat→List V→Option V}{mT:Int→List UInt8}{mt:Nat}
def BX :Int:=1099511627776
def pE (Φ:Nat→Option AFn)(ext:Nat→List V→Option V)(mT:Int→List UInt8)(f:Nat)(ts:List PTy):Prop:=
 (∀k:Int,ah Φ ext (f+nN) [aR [],ae .i64 k]=some (.tup [(false,[.pv (.int .i64 k)])]))∧
 ∀rows:List (List PV),oI (.lst ts) (.lst rows)→∀k:Int,0≤k→(gM mT rows k).2≤BX→ah Φ ext (f+nN) [.one (.down ts.length rows),ae .i64 k]=some (.tup [(false,[.pv (.int .i64 (gM mT rows k).2)]),(false,[.down ts.length (gM mT rows k).1])])
def Bb (Φ:Nat→Option AFn)(ext:Nat→List V→Option V)(mT:Int→List UInt8)(mt:Nat):Prop:=∀k:Int,0≤k→k≤BX→ah Φ ext mt [ae .i64 k]=some (cU (mT k))
theorem Ow (hT:Bb Φ ext mT mt){ty:PTy}{p:PV}(hp:oI ty p)(hf:ty.flatT=true){c:Nat}{k:Int}(h0:0≤k)(hk:k<BX){t:List V}{h:List AObj}(h2:t[c+2]? =some (ae .i64 k))(hl:c+2+(vm mt c ty).length<t.length):
 ∃t',am (ah Φ ext) (vm mt c ty) ⟨t,h⟩=some ⟨t',h⟩∧t'.length=t.length∧t'[c+2+(vm mt c ty).length]? =some (.one (.pv (ky mT p k).1))∧∀n≤c+2,t'[n]? =t[n]? :=by
 have e2:=getD_some h2
 cases ty with
 |lst us=>cases hf
 |str=>
  obtain⟨s,rfl⟩:=jY hp
  simp only[vm,Z0]at hl⊢
  refine⟨t.set (c+3) (cU (mT k)),?_,by simp,by simp only[ky];exact Zd (by omega),fun n hn=>Za (by omega)⟩
  simp only[am,aK,aW,bo,Zu,Z4,Opd.ev,e2,az,V.view,L.view,hT k h0 (by omega),V.flat,L.flat,if_true,cT,cS,put]
 |bool=>
  obtain⟨b,rfl⟩:=kH hp
  simp only[vm,Zo,List.length_nil]at hl⊢
  have e3:(t.set (c+3) (ae .i64 (k.tmod 3))).getD (c+3) (.tup [])=ae .i64 (k.tmod 3):=aN (by omega)
  refine⟨(t.set (c+3) (ae .i64 (k.tmod 3))).set (c+4) (aF (k.tmod 3==0)),?_,by simp,by simp only[ky];exact Zd (by simp;omega),fun n hn=>by rw[Za (by omega),Za (by omega)]⟩
  have h3:¬((3:Int)=0):=by decide
  simp only[am,aK,aW,bo,Opd.ev,e2,bin,if_true,cA,if_neg h3,put,e3]
 |int κ=>
  obtain⟨n,rfl⟩:=lX hp
  by_cases hκ:κ= .i64
  ·subst hκ
   have hw:IntKind.i64.wrap k=k:=by rw[IntKind.wrap_i64];unfold BX at hk;omega
   refine⟨t,rfl,rfl,?_,fun _ _=>rfl⟩
   simp only[vm,List.length_nil,Nat.add_zero,ky,hw]
   exact h2
  ·have hv:vm mt c (.int κ)=[⟨some (c+3), .conv κ (.tmp (c+2)),none⟩]:=by
    cases κ<;>first|rfl|exact absurd rfl hκ
   rw[hv]at hl⊢
   simp only[Z0]at hl⊢
   refine⟨t.set (c+3) (ae κ (κ.wrap k)),?_,by simp,by simp only[ky];exact Zd (by omega),fun n hn=>Za (by omega)⟩
   simp only[am,aK,aW,bo,Opd.ev,e2,isInt,put]
theorem xX {ty:PTy}{p:PV}(hp:oI ty p)(hf:ty.flatT=true)(k:Int):p.flat=true∧(ky mT p k).1.flat=true∧(ky mT p k).2=k+1:=by
 cases ty with
 |lst us=>cases hf
 |str=>obtain⟨s,rfl⟩:=jY hp;simp[ky,PV.flat]
 |bool=>obtain⟨s,rfl⟩:=kH hp;simp[ky,PV.flat]
 |int κ=>obtain⟨s,rfl⟩:=lX hp;simp[ky,PV.flat]
theorem TM {z:Nat}{E:List (List PV)}{i:Nat}(hi:i<E.length)(call:Nat→List V→Option V){t:List V}{a b:Nat}(ha:t[a]? =some (.one (.arr 0)))(hb:t[b]? =some (ae .i64 i)):bo call ⟨t,[.zarr z E]⟩ (.indexZ z (.tmp a) (.tmp b))=some (.one (.ptr 0 i 0)):=by
 simp only[bo,Opd.ev,getD_some ha,getD_some hb,isInt]
 simp[aI,lent,AObj.unz,hi]
structure MkSt (i:Nat) (k:Int) (t:List V):Prop where
 t0:t[0]? =some (.one (.arr 0))
 t1:t[1]? =some (ae .i64 k)
 t5:t[5]? =some (ae .i64 i)
theorem Rk {call:Nat→List V→Option V}{i c:Nat}{k:Int}{t:List V}{h:List AObj}(s:MkSt i k t)(h0:0≤k)(hk:k<BX)(hc:6≤c)(hl:c+1<t.length):
 ∃t',am call (Mb c) ⟨t,h⟩=some ⟨t',h⟩∧t'.length=t.length∧MkSt i (k+1) t':=by
 have e1:=getD_some s.t1
 have e2:(t.set c (ae .i64 k)).getD c (.tup [])=ae .i64 k:=aN (by omega)
 have hw:IntKind.i64.wrap (k+1)=k+1:=by rw[IntKind.wrap_i64];unfold BX at hk;omega
 have e3:((t.set c (ae .i64 k)).set (c+1) (ae .i64 (k+1))).getD (c+1) (.tup [])=ae .i64 (k+1):=aN (by simp;omega)
 refine⟨((t.set c (ae .i64 k)).set (c+1) (ae .i64 (k+1))).set 1 (ae .i64 (k+1)),?_,by simp,?_,?_,?_⟩
 ·simp only[Mb,am,aK,aW,bo,Opd.ev,e1,put,e2,bin,if_true,cA,hw,e3]
 ·rw[Za (by omega),Za (by omega),Za (by omega)];exact s.t0
 ·exact Zd (by simp;omega)
 ·rw[Za (by omega),Za (by omega),Za (by omega)];exact s.t5
theorem Oi {dn rest:List PV}{p q:PV}:(dn++p::rest).set dn.length q=dn++q::rest:=by
 rw[List.set_append_right _ _ (Zk _),Nat.sub_self,List.set_cons_zero]
theorem Cd {dn rest:List PV}{p:PV}:(dn++p::rest)[dn.length]? =some p:=by
 rw[Zj (Zk _),Nat.sub_self];rfl
theorem OQ (hT:Bb Φ ext mT mt){ty:PTy}{p:PV}{x:MC}{dn rest:List PV}{E:List (List PV)}{z i c:Nat}{k:Int}{t:List V}(hp:oI ty p)(hf:ty.flatT=true)(s:MkSt i k t)(h0:0≤k)(hk:k<BX)(hc:12≤c)(hE:E[i]? =some (dn++p::rest))(hx:x.p.sum=dn.length)(hl:c+6+(vm mt c ty).length+x.p.length≤t.length):
 ∃t',am (ah Φ ext) (CH z mt c ty x).flatten ⟨t,[.zarr z E]⟩=some ⟨t',[.zarr z (E.set i (dn++(ky mT p k).1::rest))]⟩∧t'.length=t.length∧MkSt i (ky mT p k).2 t':=by
 obtain⟨f1,f2,f3⟩:=xX (mT:=mT) hp hf k
 have hi:i<E.length:=(Zb.1 hE).1
 generalize hv:c+2+(vm mt c ty).length=v at*
 let t1:=((t.set c (.one (.arr 0))).set (c+1) (ae .i64 i)).set (c+2) (ae .i64 k)
 have a0:am (ah Φ ext) (NW c++[⟨some (c+2), .mv (.tmp 1),none⟩]) ⟨t,[.zarr z E]⟩=some ⟨t1,[.zarr z E]⟩:=by
  have e1:=getD_some s.t0
  have e2:(t.set c (V.one (.arr 0))).getD 5 (.tup [])=ae .i64 i:=(dM (by omega)).trans (getD_some s.t5)
  have e3:((t.set c (V.one (.arr 0))).set (c+1) (ae .i64 i)).getD 1 (.tup [])=ae .i64 k:=(dM (by omega)).trans ((dM (by omega)).trans (getD_some s.t1))
  simp only[NW,Zr,Zt,am,aK,aW,bo,Opd.ev,e1,put,e2,e3,t1]
 have l1:t1.length=t.length:=by simp[t1]
 have g1:∀n,n<c→t1[n]? =t[n]? :=fun n hn=>by simp only[t1];rw[Za (by omega),Za (by omega),Za (by omega)]
 have gc:t1[c]? =some (.one (.arr 0)):=by simp only[t1];rw[Za (by omega),Za (by omega)];exact Zd (by omega)
 have gd:t1[c+1]? =some (ae .i64 i):=by simp only[t1];rw[Za (by omega)];exact Zd (by simp;omega)
 have ge:t1[c+2]? =some (ae .i64 k):=by simp only[t1];exact Zd (by simp;omega)
 clear_value t1
 obtain⟨t2,b1,b2,b3,b4⟩:=Ow (h:=[.zarr z E]) hT hp hf h0 hk ge (by omega)
 rw[hv]at b3
 let t3:=t2.set (v+1) (.one (.ptr 0 i 0))
 have c1:am (ah Φ ext) [⟨some (v+1), .indexZ z (.tmp c) (.tmp (c+1)),none⟩] ⟨t2,[.zarr z E]⟩=some ⟨t3,[.zarr z E]⟩:=by
  simp only[am,aK,aW,TM hi (ah Φ ext) (t:=t2) (a:=c) (b:=c+1) ((b4 c (by omega)).trans gc) ((b4 (c+1) (by omega)).trans gd),put,t3]
 have l3:t3.length=t.length:=by simp only[t3,List.length_set];omega
 obtain⟨t4,d1,d2,d3,d4⟩:=yL (call:=ah Φ ext) (o:=0) (i:=i) (p:=x.p) (c:=v+1) (j:=0) (t:=t3) (h:=[.zarr z E]) (Zd (by omega)) (by omega)
 have q3:t4[v]? =some (.one (.pv (ky mT p k).1)):=by rw[d4 v (by omega)];simp only[t3];rw[Za (by omega)];exact b3
 have low:∀n,n<c→t4[n]? =t[n]? :=fun n hn=>by rw[d4 n (by omega)];simp only[t3];rw[Za (by omega),b4 n (by omega),g1 n hn]
 rw[Nat.zero_add,hx]at d3
 have e1:am (ah Φ ext) [⟨none, .storeZ 1 (.tmp (v+1+x.p.length)) (.tmp v),none⟩] ⟨t4,[.zarr z E]⟩=some ⟨t4,[.zarr z (E.set i (dn++(ky mT p k).1::rest))]⟩:=by
  simp only[am,aK,aW,bo,cj,Opd.ev,getD_some d3,getD_some q3,yv,List.getElem?_cons_zero,hE,Cd,f1,f2,and_self,if_true,Oi,List.set_cons_zero,put]
 obtain⟨t5,i1,i2,i3⟩:=Rk (call:=ah Φ ext) (c:=v+2+x.p.length) (h:=[.zarr z (E.set i (dn++(ky mT p k).1::rest))]) (⟨(low 0 (by omega)).trans s.t0,(low 1 (by omega)).trans s.t1,(low 5 (by omega)).trans s.t5⟩:MkSt i k t4) h0 hk (by omega) (by omega)
 refine⟨t5,?_,by omega,by rw[f3];exact i3⟩
 have hflat:(CH z mt c ty x).flatten=(NW c++[⟨some (c+2), .mv (.tmp 1),none⟩])++(vm mt c ty++([⟨some (v+1), .indexZ z (.tmp c) (.tmp (c+1)),none⟩]++(ro (v+1) x.p++([⟨none, .storeZ 1 (.tmp (v+1+x.p.length)) (.tmp v),none⟩]++Mb (v+2+x.p.length))))):=by
  simp only[CH,hv,List.flatten_cons,List.flatten_nil,Z3,Zn,Zr,Zt]
 rw[hflat,bZ _ _ _ a0,bZ _ _ _ b1,bZ _ _ _ c1,bZ _ _ _ d1,bZ _ _ _ e1,i1]
theorem SG {z i j:Nat}{E:List (List PV)}{e:List PV}{q:PV}(hE:E[i]? =some e)(hj:j<z)(hq:e[j]? =some q):vO z E (i*z+j)=some q:=by
 have h1:(i*z+j)/z=i:=by rw[Nat.mul_comm,Nat.mul_add_div (by omega),Nat.div_eq_of_lt hj];omega
 have h2:(i*z+j)%z=j:=by rw[Nat.mul_comm,Nat.mul_add_mod,Nat.mod_eq_of_lt hj]
 simp only[vO,h1,h2,hE,hq]
theorem RI {z i j:Nat}{E:List (List PV)}{e:List PV}{q:PV}(hE:E[i]? =some e)(hj:j<z):eK z E (i*z+j) q=E.set i (e.set j q):=by
 have h1:(i*z+j)/z=i:=by rw[Nat.mul_comm,Nat.mul_add_div (by omega),Nat.div_eq_of_lt hj];omega
 have h2:(i*z+j)%z=j:=by rw[Nat.mul_comm,Nat.mul_add_mod,Nat.mod_eq_of_lt hj]
 simp only[eK,h1,h2,hE,Option.getD_some]
theorem OR {us:List PTy}{rows:List (List PV)}{x:MC}{dn rest:List PV}{E:List (List PV)}{z i c:Nat}{k:Int}{t:List V}(hO:pE Φ ext mT x.f us)(hp:oI (.lst us) (.lst rows))(s:MkSt i k t)(h0:0≤k)(hk:(gM mT rows k).2≤BX)(hc:12≤c)(hE:E[i]? =some (dn++ .lst rows::rest))(hz:dn.length<z)(hx:x.p.sum=dn.length)(hl:c+6+x.p.length≤t.length):
 ∃t',am (ah Φ ext) (Gt z c x).flatten ⟨t,[.zarr z E]⟩=some ⟨t',[.zarr z (E.set i (dn++(ky mT (.lst rows) k).1::rest))]⟩∧t'.length=t.length∧MkSt i (ky mT (.lst rows) k).2 t':=by
 have hi:i<E.length:=(Zb.1 hE).1
 let t1:=(t.set c (.one (.arr 0))).set (c+1) (ae .i64 i)
 have a0:am (ah Φ ext) (NW c) ⟨t,[.zarr z E]⟩=some ⟨t1,[.zarr z E]⟩:=by
  have e1:=getD_some s.t0
  have e2:(t.set c (V.one (.arr 0))).getD 5 (.tup [])=ae .i64 i:=(dM (by omega)).trans (getD_some s.t5)
  simp only[NW,am,aK,aW,bo,Opd.ev,e1,put,e2,t1]
 have g1:∀n,n<c→t1[n]? =t[n]? :=fun n hn=>by simp only[t1];rw[Za (by omega),Za (by omega)]
 have gc:t1[c]? =some (.one (.arr 0)):=by simp only[t1];rw[Za (by omega)];exact Zd (by omega)
 have gd:t1[c+1]? =some (ae .i64 i):=by simp only[t1];exact Zd (by simp;omega)
 have l1:t1.length=t.length:=by simp[t1]
 clear_value t1
 let t3:=t1.set (c+2) (.one (.ptr 0 i 0))
 have c1:am (ah Φ ext) [⟨some (c+2), .indexZ z (.tmp c) (.tmp (c+1)),none⟩] ⟨t1,[.zarr z E]⟩=some ⟨t3,[.zarr z E]⟩:=by
  simp only[am,aK,aW,TM hi (ah Φ ext) (t:=t1) (a:=c) (b:=c+1) gc gd,put,t3]
 have l3:t3.length=t.length:=by simp only[t3,List.length_set];omega
 obtain⟨t4,d1,d2,d3,d4⟩:=yL (call:=ah Φ ext) (o:=0) (i:=i) (p:=x.p) (c:=c+2) (j:=0) (t:=t3) (h:=[.zarr z E]) (Zd (by omega)) (by omega)
 have low:∀n,n<c→t4[n]? =t[n]? :=fun n hn=>by rw[d4 n (by omega)];simp only[t3];rw[Za (by omega),g1 n hn]
 rw[Nat.zero_add,hx]at d3
 generalize hw:c+3+x.p.length=w at*
 have hw2:c+2+x.p.length<w:=by omega
 let E':=E.set i (dn++(ky mT (.lst rows) k).1::rest)
 have hcall:la (ah Φ ext) [.zarr z E] x.f (.one (.sub 0 (i*z+dn.length))) k=some (ae .i64 (gM mT rows k).2,[.zarr z E']):=by
  have hat:=SG (z:=z) hE hz Cd
  cases rows with
  |nil=>
   have hE':E'=E:=by
    simp only[E',ky,gM]
    refine List.ext_getElem? fun n=> ?_
    by_cases hn:n=i
    ·subst hn;rw[Zd hi,hE]
    ·rw[Za (by omega)]
   rw[hE']
   simp only[la,List.getElem?_cons_zero,hat,hO.1 k,L.flat,if_true,gM]
  |cons r rs=>
   have hwid:wid (r::rs)=us.length:=by simp only[wid];exact kG ((aX hp).2 r (by simp))
   have:=hO.2 (r::rs) hp k h0 hk
   have hpc:=RI (q:= .lst (gM mT (r::rs) k).1) hE hz
   rw[Oi]at hpc
   simp only[la,List.getElem?_cons_zero,hat,hwid,this,L.flat,and_self,if_true,hpc,List.set_cons_zero,E',ky]
 have r1:((t4.set w (V.one (.sub 0 (i*z+dn.length)))).set (w+1) (ae .i64 k)).getD w (.tup [])= .one (.sub 0 (i*z+dn.length)):=(dM (by omega)).trans (aN (by omega))
 have r2:((t4.set w (V.one (.sub 0 (i*z+dn.length)))).set (w+1) (ae .i64 k)).getD (w+1) (.tup [])=ae .i64 k:=aN (by simp;omega)
 have r3:(((t4.set w (V.one (.sub 0 (i*z+dn.length)))).set (w+1) (ae .i64 k)).set (w+2) (ae .i64 (gM mT rows k).2)).getD (w+2) (.tup [])=ae .i64 (gM mT rows k).2:=aN (by simp;omega)
 have r4:(t4.set w (V.one (.sub 0 (i*z+dn.length)))).getD 1 (.tup [])=ae .i64 k:=(dM (by omega)).trans (getD_some ((low 1 (by omega)).trans s.t1))
 refine⟨(((t4.set w (V.one (.sub 0 (i*z+dn.length)))).set (w+1) (ae .i64 k)).set (w+2) (ae .i64 (gM mT rows k).2)).set 1 (ae .i64 (gM mT rows k).2),?_,by simp;omega,?_,?_,?_⟩
 ·have hflat:(Gt z c x).flatten=NW c++([⟨some (c+2), .indexZ z (.tmp c) (.tmp (c+1)),none⟩]++(ro (c+2) x.p++[⟨some w, .loadZ false 1 (.tmp (c+2+x.p.length)),none⟩,⟨some (w+1), .mv (.tmp 1),none⟩,⟨some (w+2), .callM x.f (.tmp w) (.tmp (w+1)),none⟩,⟨some 1, .mv (.tmp (w+2)),none⟩])):=by
   simp only[Gt,hw,List.flatten_cons,List.flatten_nil,Z3,Zn,Zr,Zt]
  rw[hflat,bZ _ _ _ a0,bZ _ _ _ c1,bZ _ _ _ d1]
  simp only[am,aK,aW,bo,cj,Opd.ev,getD_some d3,sQ,List.getElem?_cons_zero,hE,Cd,and_self,if_true,put,r4,r1,r2,hcall,r3,E']
 ·rw[Za (by omega),Za (by omega),Za (by omega),Za (by omega)];exact(low 0 (by omega)).trans s.t0
 ·simp only[ky];exact Zd (by simp;omega)
 ·rw[Za (by omega),Za (by omega),Za (by omega),Za (by omega)];exact(low 5 (by omega)).trans s.t5
def Gk (Φ:Nat→Option AFn)(ext:Nat→List V→Option V)(mT:Int→List UInt8):Nat→List PTy→List MC→Prop
 |j, .lst us::ts,x::xs=>x.p.sum=j∧pE Φ ext mT x.f us∧Gk Φ ext mT (j+1) ts xs
 |j,_::ts,x::xs=>x.p.sum=j∧Gk Φ ext mT (j+1) ts xs
 |_,[],[]=>True
 |_,_,_=>False
theorem Cq :∀(ts:List PTy)(xs:List MC)(c:Nat),c≤kO mt c ts xs
 |[],_,c=>Zk _
 |_::_,[],c=>Zk _
 |t::ts,x::xs,c=>by
  simp only[kO]
  refine Zc ?_ (Cq ts xs _)
  cases t<;>simp only[xb]<;>omega
theorem Og (hT:Bb Φ ext mT mt){z i:Nat}:∀(ts:List PTy)(xs:List MC){c:Nat}{dn row:List PV}{E:List (List PV)}{k:Int}{t:List V},Gk Φ ext mT dn.length ts xs→bF ts row→E[i]? =some (dn++row)→z=dn.length+ts.length→MkSt i k t→0≤k→(o8 mT row k).2≤BX→12≤c→kO mt c ts xs≤t.length→
 ∃t',am (ah Φ ext) (P0 z mt c ts xs).flatten ⟨t,[.zarr z E]⟩=some ⟨t',[.zarr z (E.set i (dn++(o8 mT row k).1))]⟩∧t'.length=t.length∧MkSt i (o8 mT row k).2 t'
 |[],xs,c,dn,row,E,k,t,hm,hr,hE,hz,s,h0,hk,hc,hl=>by
  obtain rfl:=fL hr
  have hi:i<E.length:=(Zb.1 hE).1
  have hE':E.set i (dn++(o8 mT [] k).1)=E:=by
   simp only[o8]
   refine List.ext_getElem? fun n=> ?_
   by_cases hn:n=i
   ·subst hn;rw[Zd hi,hE]
   ·rw[Za (by omega)]
  rw[hE']
  cases xs<;>exact⟨t,rfl,rfl,by simpa only[o8]using s⟩
 |ty::ts,[],c,dn,row,E,k,t,hm,hr,hE,hz,s,h0,hk,hc,hl=>by cases ty<;>exact hm.elim
 |ty::ts,x::xs,c,dn,row,E,k,t,hm,hr,hE,hz,s,h0,hk,hc,hl=>by
  obtain⟨p,rest,rfl,hp,hr'⟩:=dO hr
  have hi:i<E.length:=(Zb.1 hE).1
  have hle:=Ad mT rest (ky mT p k).2
  have hlp:=Mp mT p k
  simp only[o8]at hk
  simp only[kO]at hl
  have hN:=Cq (mt:=mt) ts xs (xb mt c ty x)
  have hnext:Gk Φ ext mT (dn++[(ky mT p k).1]).length ts xs:=by
   have:(dn++[(ky mT p k).1]).length=dn.length+1:=by simp
   rw[this]
   cases ty<;>first|exact hm.2|exact hm.2.2
  have hx:x.p.sum=dn.length:=by cases ty<;>exact hm.1
  have cell:∃t',am (ah Φ ext) (Nq z mt c ty x).flatten ⟨t,[.zarr z E]⟩=some ⟨t',[.zarr z (E.set i (dn++(ky mT p k).1::rest))]⟩∧t'.length=t.length∧MkSt i (ky mT p k).2 t':=by
   by_cases hf:ty.flatT=true
   ·have hR:Nq z mt c ty x=CH z mt c ty x:=by cases ty<;>first|rfl|cases hf
    have hN':xb mt c ty x=c+6+(vm mt c ty).length+x.p.length:=by cases ty<;>first|rfl|cases hf
    rw[hR]
    have:=(xX (mT:=mT) hp hf k).2.2
    exact OQ hT hp hf s h0 (by omega) hc hE hx (by omega)
   ·cases ty with
    |lst us=>
     obtain⟨rows,rfl⟩:=oJ hp
     have hN':xb mt c (.lst us) x=c+6+x.p.length:=rfl
     simp only[ky]at hle hk
     exact OR hm.2.1 hp s h0 (by omega) hc hE (by rw[hz];simp) hx (by omega)
    |_=>exact absurd rfl hf
  obtain⟨t1,e1,e2,e3⟩:=cell
  have hc':c≤xb mt c ty x:=by cases ty<;>simp only[xb]<;>omega
  obtain⟨t2,f1,f2,f3⟩:=Og hT (z:=z) (i:=i) ts xs (c:=xb mt c ty x) (dn:=dn++[(ky mT p k).1]) (row:=rest) (E:=E.set i (dn++(ky mT p k).1::rest)) (k:=(ky mT p k).2) (t:=t1) hnext hr' (by rw[Zd hi];simp) (by rw[hz];simp;omega) e3 (by omega) hk (by omega) (by omega)
  refine⟨t2,?_,by omega,by simp only[o8];exact f3⟩
  simp only[P0,List.flatten_append]
  rw[bZ _ _ _ e1,f1]
  simp only[List.set_set,o8,Zn,Zr,Zt]
theorem PN (hT:Bb Φ ext mT mt){ts:List PTy}{xs:List MC}(hm:Gk Φ ext mT 0 ts xs):∀(rest done:List (List PV))(k:Int)(t:List V),MkSt done.length k t→(∀r∈rest,bF ts r)→0≤k→(gM mT rest k).2≤BX→done.length+rest.length≤maxLen→kO mt 12 ts xs≤t.length→
 ∃t',aG (aB (ah Φ ext) aG (AP mt ts xs)) ⟨t,[.zarr ts.length (done++rest)]⟩=some (.exit 0,⟨t',[.zarr ts.length (done++(gM mT rest k).1)]⟩)∧t'.length=t.length∧t'[1]? =some (ae .i64 (gM mT rest k).2):=by
 intro rest
 have hN:=Cq (mt:=mt) ts xs 12
 have head:∀(done rest:List (List PV))(k:Int)(t:List V),MkSt done.length k t→kO mt 12 ts xs≤t.length→∃t',aB (ah Φ ext) aG (Rc 5 0 6) ⟨t,[.zarr ts.length (done++rest)]⟩=some (if 0<rest.length then .normal else .exit 0,⟨t',[.zarr ts.length (done++rest)]⟩)∧t'.length=t.length∧MkSt done.length k t':=by
  intro done rest k t s hl
  let t1:=(((t.set 6 (ae .i64 done.length)).set 7 (.one (.arr 0))).set 8 (ae .i64 (done++rest).length)).set 9 (aF (decide (0<rest.length)))
  have e0:=getD_some s.t5
  have e1:(t.set 6 (ae .i64 done.length)).getD 0 (.tup [])= .one (.arr 0):=(dM (by omega)).trans (getD_some s.t0)
  have e2:((t.set 6 (ae .i64 done.length)).set 7 (.one (.arr 0))).getD 7 (.tup [])= .one (.arr 0):=aN (by simp;omega)
  have e3:(((t.set 6 (ae .i64 done.length)).set 7 (.one (.arr 0))).set 8 (ae .i64 (done++rest).length)).getD 6 (.tup [])=ae .i64 done.length:=(dM (by omega)).trans ((dM (by omega)).trans (aN (by omega)))
  have e4:(((t.set 6 (ae .i64 done.length)).set 7 (.one (.arr 0))).set 8 (ae .i64 (done++rest).length)).getD 8 (.tup [])=ae .i64 (done++rest).length:=aN (by simp;omega)
  have e5:t1.getD 9 (.tup [])=aF (decide (0<rest.length)):=aN (by simp;omega)
  have e6:asList (lent [AObj.zarr ts.length (done++rest)]) (.one (.arr 0))=some (done++rest):=rfl
  have e7:decide ((done.length:Int)<((done++rest).length:Int))=decide (0<rest.length):=by
   simp only[Zp]
   by_cases h:0<rest.length
   ·rw[decide_eq_true h,decide_eq_true (by omega)]
   ·rw[decide_eq_false h,decide_eq_false (by omega)]
  refine⟨t1,?_,by simp[t1],?_,?_,?_⟩
  ·simp only[Rc,aB,am,aK,aW,bo,Opd.ev,e0,put,e1,e2,e6,e3,e4,bin,if_true,cA,e7]
   have e5':=e5
   simp only[t1]at e5'
   rw[e5']
   by_cases h:0<rest.length
   ·simp only[isBool,h,decide_true,if_true,t1]
   ·simp only[isBool,h,decide_false,Z8,if_false,t1]
  ·simp only[t1];rw[Za (by omega),Za (by omega),Za (by omega),Za (by omega)];exact s.t0
  ·simp only[t1];rw[Za (by omega),Za (by omega),Za (by omega),Za (by omega)];exact s.t1
  ·simp only[t1];rw[Za (by omega),Za (by omega),Za (by omega),Za (by omega)];exact s.t5
 induction rest with
 |nil=>
  intro done k t s hr h0 hk hlen hl
  obtain⟨t',a1,a2,a3⟩:=head done [] k t s hl
  refine⟨t',iG ?_ (by simp),a2,by simp only[gM];exact a3.t1⟩
  simp only[AP,aB,a1,List.length_nil,Nat.lt_irrefl,if_false,gM]
 |cons r rest ih=>
  intro done k t s hr h0 hk hlen hl
  obtain⟨t1,a1,a2,a3⟩:=head done (r::rest) k t s hl
  simp only[gM]at hk
  have hle:=wz mT rest (o8 mT r k).2
  have hll:=Ad mT r k
  obtain⟨t2,b1,b2,b3⟩:=Og hT (z:=ts.length) (i:=done.length) ts xs (c:=12) (dn:=[]) (row:=r) (E:=done++r::rest) (k:=k) (t:=t1) hm (hr r (by simp)) (by rw[Zj (Zk _),Nat.sub_self];rfl) (by simp) a3 h0 (by omega) (Zk _) (by omega)
  have hset:(done++r::rest).set done.length ([]++(o8 mT r k).1)=(done++[(o8 mT r k).1])++rest:=by
   rw[List.set_append_right _ _ (Zk _),Nat.sub_self,List.set_cons_zero];simp
  rw[hset]at b1
  simp only[Zo]at hlen
  have hw:=jW (k:=done.length) (by unfold maxLen at hlen;omega)
  let t3:=((t2.set 10 (ae .i64 done.length)).set 11 (ae .i64 ((done.length:Int)+1))).set 5 (ae .i64 ((done.length:Int)+1))
  have f0:=getD_some b3.t5
  have f1:(t2.set 10 (ae .i64 done.length)).getD 10 (.tup [])=ae .i64 done.length:=aN (by omega)
  have f2:((t2.set 10 (ae .i64 done.length)).set 11 (ae .i64 ((done.length:Int)+1))).getD 11 (.tup [])=ae .i64 ((done.length:Int)+1):=aN (by simp;omega)
  have f3:∀h,aB (ah Φ ext) aG (HW 5 10) ⟨t2,h⟩=some (.normal,⟨t3,h⟩):=fun h=>by
   simp only[HW,aB,am,aK,aW,bo,Opd.ev,f0,put,f1,bin,if_true,cA,hw,f2,t3]
  have s3:MkSt (done++[(o8 mT r k).1]).length (o8 mT r k).2 t3:=by
   have hlen1:(done++[(o8 mT r k).1]).length=done.length+1:=by simp
   rw[hlen1]
   refine⟨?_,?_,?_⟩
   ·simp only[t3];rw[Za (by omega),Za (by omega),Za (by omega)];exact b3.t0
   ·simp only[t3];rw[Za (by omega),Za (by omega),Za (by omega)];exact b3.t1
   ·simp only[t3];exact Zd (by simp;omega)
  obtain⟨t4,g1,g2,g3⟩:=ih (done++[(o8 mT r k).1]) (o8 mT r k).2 t3 s3 (fun r m=>hr r (by simp[m])) (by omega) hk (by simp;omega) (by simp[t3];omega)
  refine⟨t4,(fJ (σ':=⟨t3,[.zarr ts.length (done++[(o8 mT r k).1]++rest)]⟩) ?_).trans ?_,by rw[g2];simp[t3];omega,by simp only[gM];exact g3⟩
  ·have hb:=KY (lp:=aG) b1
   simp only[AP,aB,a1,Zo,Nat.zero_lt_succ,if_true,hb,f3]
  ·rw[g1]
   simp only[gM,Zn,Zr,Zt]
end
def lK (ops:List AOper):Bool:=ops.all fun o=>o.op.noZ
theorem NX (a b:List AOper):lK (a++b)=(lK a&&lK b):=by simp[lK]
theorem Ej (a:AOper)(b:List AOper):lK (a::b)=(a.op.noZ&&lK b):=by simp[lK]
theorem Af :∀(p:List Nat)(c:Nat),lK (ro c p)=true
 |[],c=>rfl
 |d::ds,c=>by simp only[ro,Ej,Af ds,AOp.noZ,Bool.and_self]
theorem Ti (mt c:Nat)(t:PTy):lK (vm mt c t)=true:=by
 cases t with
 |int κ=>cases κ<;>rfl
 |_=>rfl
theorem RA (z mt c:Nat)(t:PTy)(x:MC):∀r∈Nq z mt c t x,lK r=true:=by
 have nil:lK []=true:=rfl
 have hS:∀t,∀r∈CH z mt c t x,lK r=true:=by
  intro t r hr
  simp only[CH,Z6,List.not_mem_nil,or_false]at hr
  rcases hr with rfl|rfl
  ·simp only[NW,Zr,Zt,Ej,NX,Ti,Af,AOp.noZ,nil,Bool.and_self]
  ·rfl
 have hT:∀r∈Gt z c x,lK r=true:=by
  intro r hr
  simp only[Gt,Z6,List.not_mem_nil,or_false]at hr
  subst hr
  simp only[NW,Zr,Zt,Ej,NX,Af,AOp.noZ,nil,Bool.and_self]
 cases t<;>first|exact hT|exact hS _
theorem NY (z mt:Nat):∀(ts:List PTy)(xs:List MC)(c:Nat),∀r∈P0 z mt c ts xs,lK r=true
 |[],xs,c,r,hr=>by cases xs<;>cases hr
 |t::ts,[],c,r,hr=>by cases hr
 |t::ts,x::xs,c,r,hr=>by
  simp only[P0,List.mem_append]at hr
  rcases hr with hr|hr
  ·exact RA z mt c t x r hr
  ·exact NY z mt ts xs _ r hr
theorem Kt :∀(rs:List (List AOper)),(∀r∈rs,lK r=true)→(MI rs).noZ=true
 |[],_=>rfl
 |[a],h=>h a (by simp)
 |a::b::r,h=>by
  have h1:=h a (by simp)
  have h2:=Kt (b::r) (fun x m=>h x (by simp only[Z6]at m⊢;exact .inr m))
  simp only[MI,ACode.noZ,h2,Bool.and_true]
  exact h1
theorem Kr (mt:Nat)(ts:List PTy)(xs:List MC):(fH mt ts xs).body.noZ=true:=by
 have:=Kt _ (NY ts.length mt ts xs 12)
 simp only[fH,AP,Rc,HW,ACode.noZ,this,Bool.and_true,Bool.true_and]
 rfl
section
variable {Φ:Nat→Option AFn}{ext:Nat→List V→Option V}{mT:Int→List UInt8}{mt:Nat}
theorem eJ (hT:Bb Φ ext mT mt){f:Nat}{ts:List PTy}{xs:List MC}(hk:Φ f=some (fH mt ts xs))(hn:Φ (f+nN)=none)(hm:Gk Φ ext mT 0 ts xs):pE Φ ext mT f ts:=by
 have hN:=Cq (mt:=mt) ts xs 12
 obtain⟨m,hm'⟩:∃m,kO mt 12 ts xs+1-2=m+11:=⟨kO mt 12 ts xs-12,by omega⟩
 constructor
 ·intro k
  refine CE hn hk (Kr mt ts xs) ?_
  have e0:asList (lent []) (aR [])=some []:=rfl
  have hrun:∃t',f8 Φ ext (fH mt ts xs).body (iJ (fH mt ts xs) [aR [],ae .i64 k])=some (.ret,⟨t',[]⟩)∧t'.getD 4 (.tup [])=ae .i64 k:=by
   have hst:iJ (fH mt ts xs) [aR [],ae .i64 k]=⟨aR []::ae .i64 k::List.replicate (m+11) (.tup []),[]⟩:=by
    simp only[iJ,dw,thaw,thawL,fH,Zo,List.length_nil,Z4,Zr,Zt,hm']
   rw[hst]
   have hl:(aR []::ae .i64 k::List.replicate (m+11) (V.tup [])).length=kO mt 12 ts xs+1:=by simp;omega
   generalize hlp:aG (aB (ah Φ ext) aG (AP mt ts xs))=lp
   have hloop:∀u2 u3 u4 u6 u7 u8 u9(r:List V),lp ⟨aR []::ae .i64 k::u2::u3::u4::ae .i64 0::u6::u7::u8::u9::r,[]⟩=some (.exit 0,⟨aR []::ae .i64 k::u2::u3::u4::ae .i64 0::ae .i64 0::aR []::ae .i64 0::aF false::r,[]⟩):=by
    intro u2 u3 u4 u6 u7 u8 u9 r
    rw[←hlp]
    refine iG ?_ (by simp)
    simp[AP,Rc,aB,am,aK,aW,bo,Opd.ev,put,e0,bin,cA,isBool]
   have hrep:List.replicate (m+11) (V.tup [])= .tup []:: .tup []:: .tup []:: .tup []:: .tup []:: .tup []:: .tup []:: .tup []::List.replicate (m+3) (.tup []):=rfl
   rw[hrep]at hl⊢
   let w:List V:=aR []::ae .i64 k:: .tup []:: .tup []::ae .i64 0::ae .i64 0::ae .i64 0::aR []::ae .i64 0::aF false::List.replicate (m+3) (.tup [])
   have hwl:w.length=kO mt 12 ts xs+1:=by simp only[w,Zo,List.length_replicate]at hl⊢;omega
   have q1:w.getD 1 (.tup [])=ae .i64 k:=rfl
   have q2:(w.set (kO mt 12 ts xs) (ae .i64 k)).getD (kO mt 12 ts xs) (.tup [])=ae .i64 k:=aN (by omega)
   refine⟨(w.set (kO mt 12 ts xs) (ae .i64 k)).set 4 (ae .i64 k),?_,aN (by simp;omega)⟩
   have hend:aB (ah Φ ext) aG (.seq (.region [⟨some (kO mt 12 ts xs), .mv (.tmp 1),none⟩,⟨some 4, .mv (.tmp (kO mt 12 ts xs)),none⟩]) .ret) ⟨w,[]⟩=some (.ret,⟨(w.set (kO mt 12 ts xs) (ae .i64 k)).set 4 (ae .i64 k),[]⟩):=by
    simp only[aB,am,aK,aW,bo,Opd.ev,q1,put,q2]
   generalize hec:ACode.seq (.region [⟨some (kO mt 12 ts xs), .mv (.tmp 1),none⟩,⟨some 4, .mv (.tmp (kO mt 12 ts xs)),none⟩]) .ret=ec at hend
   simp only[f8,fH,hec,aB,am,aK,aW,bo,Opd.ev,put,List.set_cons_succ,List.set_cons_zero,hlp,hloop,if_true]
   exact hend
  obtain⟨t',r1,r2⟩:=hrun
  rw[r1]
  simp only[vt,FS,fH,aS,aA,cN,r2,List.flatMap_cons,List.flatMap_nil,Z3,V.cells,bJ,comp,aM,bA,dw,thaw,thawL,List.length_nil,List.take_zero,gJ,L.flat,if_true]
  rfl
 ·intro rows h k h0 hk2
  obtain⟨hl1,hr⟩:=aX h
  refine CE hn hk (Kr mt ts xs) ?_
  have hst:iJ (fH mt ts xs) [.one (.down ts.length rows),ae .i64 k]=⟨.one (.arr 0)::ae .i64 k::List.replicate (m+11) (.tup []),[.zarr ts.length rows]⟩:=by
   simp only[iJ,dw,thaw,thawL,fH,Zo,List.length_nil,Zu,Z4,Zr,Zt,AObj.zone,hm']
  let t0:List V:= .one (.arr 0)::ae .i64 k:: .tup []:: .tup []::ae .i64 0::ae .i64 0::List.replicate (m+7) (.tup [])
  have hl0:t0.length=kO mt 12 ts xs+1:=by simp[t0];omega
  obtain⟨t',a1,a2,a3⟩:=PN hT hm rows [] k t0 ⟨rfl,rfl,rfl⟩ hr h0 hk2 (by simpa using hl1) (by omega)
  simp only[Zt]at a1
  have q1:t'.getD 1 (.tup [])=ae .i64 (gM mT rows k).2:=getD_some a3
  have q2:(t'.set (kO mt 12 ts xs) (ae .i64 (gM mT rows k).2)).getD (kO mt 12 ts xs) (.tup [])=ae .i64 (gM mT rows k).2:=aN (by omega)
  have hend:aB (ah Φ ext) aG (.seq (.region [⟨some (kO mt 12 ts xs), .mv (.tmp 1),none⟩,⟨some 4, .mv (.tmp (kO mt 12 ts xs)),none⟩]) .ret) ⟨t',[.zarr ts.length (gM mT rows k).1]⟩=some (.ret,⟨(t'.set (kO mt 12 ts xs) (ae .i64 (gM mT rows k).2)).set 4 (ae .i64 (gM mT rows k).2),[.zarr ts.length (gM mT rows k).1]⟩):=by
   simp only[aB,am,aK,aW,bo,Opd.ev,q1,put,q2]
  have q3:((t'.set (kO mt 12 ts xs) (ae .i64 (gM mT rows k).2)).set 4 (ae .i64 (gM mT rows k).2)).getD 4 (.tup [])=ae .i64 (gM mT rows k).2:=aN (by simp;omega)
  have hrun:f8 Φ ext (fH mt ts xs).body (iJ (fH mt ts xs) [.one (.down ts.length rows),ae .i64 k])=some (.ret,⟨(t'.set (kO mt 12 ts xs) (ae .i64 (gM mT rows k).2)).set 4 (ae .i64 (gM mT rows k).2),[.zarr ts.length (gM mT rows k).1]⟩):=by
   rw[hst]
   generalize hec:ACode.seq (.region [⟨some (kO mt 12 ts xs), .mv (.tmp 1),none⟩,⟨some 4, .mv (.tmp (kO mt 12 ts xs)),none⟩]) .ret=ec at hend
   have hrep:List.replicate (m+11) (V.tup [])= .tup []:: .tup []:: .tup []:: .tup []::List.replicate (m+7) (.tup []):=rfl
   generalize hlp:aG (aB (ah Φ ext) aG (AP mt ts xs))=lp at a1
   simp only[t0]at a1
   simp only[f8,fH,hec,hrep,aB,am,aK,aW,bo,Opd.ev,put,List.set_cons_succ,List.set_cons_zero,hlp,a1,if_true]
   exact hend
  rw[hrun]
  simp only[vt,FS,fH,aS,aA,cN,q3,List.flatMap_cons,List.flatMap_nil,Z3,V.cells,bJ,comp,aM,bA,dw,thaw,thawL,Zt,Zo,List.length_nil,Nat.zero_add,List.take_succ_cons,List.take_zero,gJ,L.flat,if_true]
  rfl
end
end Gi
