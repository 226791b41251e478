/- Of this proof. -/
import Derived.Test.YtebnmoogdmpepaaGreatGpb
set_option linter.unusedSimpArgs false
set_option linter.unusedVariables false
namespace Gi
open Go Go.RowKit
section
variable (mT:Int→List UInt8)
mutual
def k7 :PV→Int→PV×Int
 | .int κ _,k=>(.int κ (κ.wrap k),k+1)
 | .bool _,k=>(.bool (k.tmod 3==0),k+1)
 | .str _,k=>(.str (mT k),k+1)
 | .lst rows,k=>(.lst (cN rows k).1,(cN rows k).2)
def p9 :List PV→Int→List PV×Int
 |[],k=>([],k)
 |p::ps,k=>((k7 p k).1::(p9 ps (k7 p k).2).1,(p9 ps (k7 p k).2).2)
def cN :List (List PV)→Int→List (List PV)×Int
 |[],k=>([],k)
 |r::rs,k=>((p9 r k).1::(cN rs (p9 r k).2).1,(cN rs (p9 r k).2).2)
end
mutual
theorem Ny :∀(p:PV)(k:Int),k≤(k7 mT p k).2
 | .int κ _,k=>by simp only[k7];omega
 | .bool _,k=>by simp only[k7];omega
 | .str _,k=>by simp only[k7];omega
 | .lst rows,k=>by simp only[k7];exact pq rows k
theorem BI :∀(ps:List PV)(k:Int),k≤(p9 mT ps k).2
 |[],k=>by simp only[p9];omega
 |p::ps,k=>by
  simp only[p9]
  have:=Ny p k
  have:=BI ps (k7 mT p k).2
  omega
theorem pq :∀(rs:List (List PV))(k:Int),k≤(cN mT rs k).2
 |[],k=>by simp only[cN];omega
 |r::rs,k=>by
  simp only[cN]
  have:=BI r k
  have:=pq rs (p9 mT r k).2
  omega
end
theorem OU :∀(rs:List (List PV))(k:Int),(cN mT rs k).1.length=rs.length
 |[],k=>by simp only[cN]
 |r::rs,k=>by simp only[cN,Zo,OU rs]
theorem OT :∀(ps:List PV)(k:Int),(p9 mT ps k).1.length=ps.length
 |[],k=>by simp only[p9]
 |p::ps,k=>by simp only[p9,Zo,OT ps]
end
structure MC where
 p:List Nat
 f:Nat
def OY (c:Nat):List AOper:=[⟨some c, .mv (.tmp 0),none⟩,⟨some (c+1), .mv (.tmp 5),none⟩]
def sS (c:Nat):List Nat→List AOper
 |[]=>[]
 |d::ds=>⟨some (c+1), .fieldA (.tmp c) d,none⟩::sS (c+1) ds
def No (c:Nat):List AOper:=[⟨some c, .mv (.tmp 1),none⟩,⟨some (c+1), .bin .add (.tmp c) (.pv (.int .i64 1)),none⟩,⟨some 1, .mv (.tmp (c+1)),none⟩]
def wX (mt c:Nat):PTy→List AOper
 | .int .i64=>[]
 | .int κ=>[⟨some (c+3), .conv κ (.tmp (c+2)),none⟩]
 | .str=>[⟨some (c+3), .callF mt [.tmp (c+2)],none⟩]
 | .bool=>[⟨some (c+3), .bin .rem (.tmp (c+2)) (.pv (.int .i64 3)),none⟩,⟨some (c+4), .bin .eql (.tmp (c+3)) (.pv (.int .i64 0)),none⟩]
 | .lst _=>[]
def D8 (z mt c:Nat)(t:PTy)(x:MC):List (List AOper):=
 let v:=c+2+(wX mt c t).length
 [OY c++(⟨some (c+2), .mv (.tmp 1),none⟩::(wX mt c t++(⟨some (v+1), .indexZ z (.tmp c) (.tmp (c+1)),none⟩::(sS (v+1) x.p++[⟨none, .storeZ 1 (.tmp (v+1+x.p.length)) (.tmp v),none⟩])))),No (v+2+x.p.length)]
def HZ (z c:Nat)(x:MC):List (List AOper):=
 let e:=c+3+x.p.length
 [OY c++(⟨some (c+2), .indexZ z (.tmp c) (.tmp (c+1)),none⟩::(sS (c+2) x.p++[⟨some e, .loadZ false 1 (.tmp (c+2+x.p.length)),none⟩,⟨some (e+1), .mv (.tmp 1),none⟩,⟨some (e+2), .callM x.f (.tmp e) (.tmp (e+1)),none⟩,⟨some 1, .mv (.tmp (e+2)),none⟩]))]
def Oq (z mt c:Nat):PTy→MC→List (List AOper)
 | .lst _,x=>HZ z c x
 |t,x=>D8 z mt c t x
def yH (mt c:Nat):PTy→MC→Nat
 | .lst _,x=>c+6+x.p.length
 |t,x=>c+6+(wX mt c t).length+x.p.length
def QK (z mt:Nat):Nat→List PTy→List MC→List (List AOper)
 |c,t::ts,x::xs=>Oq z mt c t x++QK z mt (yH mt c t x) ts xs
 |_,_,_=>[]
def lE (mt:Nat):Nat→List PTy→List MC→Nat
 |c,t::ts,x::xs=>lE mt (yH mt c t x) ts xs
 |c,_,_=>c
def NK :List (List AOper)→ACode
 |[]=> .skip
 |[a]=> .region a
 |a::b::r=> .seq (.region a) (NK (b::r))
def R2 (i a t0:Nat):ACode:= .seq (.region [⟨some t0, .mv (.tmp i),none⟩,⟨some (t0+1), .mv (.tmp a),none⟩,⟨some (t0+2), .lenZ (.tmp (t0+1)),none⟩,⟨some (t0+3), .bin .lss (.tmp t0) (.tmp (t0+2)),none⟩]) (.cond (.tmp (t0+3)) .skip (.exit 0))
def Cf (mt:Nat)(ts:List PTy)(xs:List MC):ACode:= .seq (R2 5 0 6) (.seq (.block 1 (NK (QK ts.length mt 12 ts xs))) (Ji 5 10))
def gx (mt:Nat)(ts:List PTy)(xs:List MC):AFn:=⟨lE mt 12 ts xs+1,[.tmp 4], .seq (.region [⟨some 4, .mv (.pv (.int .i64 0)),none⟩]) (.seq (.seq (.region [⟨some 5, .mv (.pv (.int .i64 0)),none⟩]) (.block 0 (.loop (Cf mt ts xs)))) (.seq (.region [⟨some (lE mt 12 ts xs), .mv (.tmp 1),none⟩,⟨some 4, .mv (.tmp (lE mt 12 ts xs)),none⟩]) .ret))⟩
theorem L3 {call:Nat→List V→Option V}{lp:(St→Option (Ex×St))→St→Option (Ex×St)}:∀{rs:List (List AOper)}{σ σ':St},ah call rs.flatten σ=some σ'→aw call lp (NK rs) σ=some (.normal,σ')
 |[],σ,σ',h=>by simp[ah]at h;subst h;rfl
 |[a],σ,σ',h=>by
  simp only[List.flatten_cons,List.flatten_nil,Zx]at h
  simp only[NK,aw,h]
 |a::b::r,σ,σ',h=>by
  rw[List.flatten_cons]at h
  cases ha:ah call a σ with
  |none=>
   exfalso
   have:∀(a b:List AOper)(σ:St),ah call a σ=none→ah call (a++b) σ=none:=by
    intro a
    induction a with
    |nil=>intro b σ h;simp[ah]at h
    |cons o a ih=>
     intro b σ h
     simp only[Zg,ah]at h⊢
     cases hs:aJ call o σ with
     |none=>rfl
     |some σ1=>rw[hs]at h;exact ih b σ1 h
   rw[this a _ σ ha]at h
   cases h
  |some σ1=>
   rw[cG call a _ ha]at h
   have:=L3 (lp:=lp) (rs:=b::r) h
   simp only[NK,aw,ha]
   exact this
theorem Ax {call:Nat→List V→Option V}{o i:Nat}:∀{p:List Nat}{c j:Nat}{t:List V}{h:List AObj},t[c]? =some (.one (.ptr o i j))→c+p.length<t.length→
 ∃t',ah call (sS c p) ⟨t,h⟩=some ⟨t',h⟩∧t'.length=t.length∧t'[c+p.length]? =some (.one (.ptr o i (j+p.sum)))∧∀n≤c,t'[n]? =t[n]?
 |[],c,j,t,h,hc,hl=>⟨t,rfl,rfl,by simpa using hc,fun _ _=>rfl⟩
 |d::ds,c,j,t,h,hc,hl=>by
  simp only[Zo]at hl
  obtain⟨t',e1,e2,e3,e4⟩:=Ax (call:=call) (o:=o) (i:=i) (p:=ds) (c:=c+1) (j:=j+d) (t:=t.set (c+1) (.one (.ptr o i (j+d)))) (h:=h) (Zd (by omega)) (by simp;omega)
  refine⟨t',?_,by simpa using e2,?_,fun n hn=> ?_⟩
  ·simp only[sS,ah,aJ,bf,bJ,Opd.ev,getD_some hc,put,e1]
  ·simp only[Zo,List.sum_cons]
   rw[show c+(ds.length+1)=c+1+ds.length by omega,e3,Xn]
  ·rw[e4 n (by omega),Za (by omega)]
section
variable {Φ:Nat→Option AFn}{ext:Nat→List V→Option V}{mT:Int→List UInt8}{mt:Nat}
def xk :Int:=1099511627776
def qd (Φ:Nat→Option AFn)(ext:Nat→List V→Option V)(mT:Int→List UInt8)(f:Nat)(ts:List PTy):Prop:=
 (∀k:Int,ag Φ ext (f+jX) [cA [],aa .i64 k]=some (.tup [(false,[.pv (.int .i64 k)])]))∧
 ∀rows:List (List PV),oQ (.lst ts) (.lst rows)→∀k:Int,0≤k→(cN mT rows k).2≤xk→ag Φ ext (f+jX) [.one (.down ts.length rows),aa .i64 k]=some (.tup [(false,[.pv (.int .i64 (cN mT rows k).2)]),(false,[.down ts.length (cN mT rows k).1])])
def CB (Φ:Nat→Option AFn)(ext:Nat→List V→Option V)(mT:Int→List UInt8)(mt:Nat):Prop:=∀k:Int,0≤k→k≤xk→ag Φ ext mt [aa .i64 k]=some (eB (mT k))
theorem Po (hT:CB Φ ext mT mt){ty:PTy}{p:PV}(hp:oQ ty p)(hf:ty.flatT=true){c:Nat}{k:Int}(h0:0≤k)(hk:k<xk){t:List V}{h:List AObj}(h2:t[c+2]? =some (aa .i64 k))(hl:c+2+(wX mt c ty).length<t.length):
 ∃t',ah (ag Φ ext) (wX mt c ty) ⟨t,h⟩=some ⟨t',h⟩∧t'.length=t.length∧t'[c+2+(wX mt c ty).length]? =some (.one (.pv (k7 mT p k).1))∧∀n≤c+2,t'[n]? =t[n]? :=by
 have e2:=getD_some h2
 cases ty with
 |lst us=>cases hf
 |str=>
  obtain⟨s,rfl⟩:=kM hp
  simp only[wX,Z7]at hl⊢
  refine⟨t.set (c+3) (eB (mT k)),?_,by simp,by simp only[k7];exact Zd (by omega),fun n hn=>Za (by omega)⟩
  simp only[ah,aJ,bf,bJ,Zv,Z5,Opd.ev,e2,aj,V.view,L.view,hT k h0 (by omega),V.flat,L.flat,if_true,db,da,put]
 |bool=>
  obtain⟨b,rfl⟩:=lB hp
  simp only[wX,Zo,Z4]at hl⊢
  have e3:(t.set (c+3) (aa .i64 (k.tmod 3))).getD (c+3) (.tup [])=aa .i64 (k.tmod 3):=aO (by omega)
  refine⟨(t.set (c+3) (aa .i64 (k.tmod 3))).set (c+4) (aA (k.tmod 3==0)),?_,by simp,by simp only[k7];exact Zd (by simp;omega),fun n hn=>by rw[Za (by omega),Za (by omega)]⟩
  have h3:¬((3:Int)=0):=by decide
  simp only[ah,aJ,bf,bJ,Opd.ev,e2,bin,if_true,cK,if_neg h3,put,e3]
 |int κ=>
  obtain⟨n,rfl⟩:=mP hp
  by_cases hκ:κ= .i64
  ·subst hκ
   have hw:IntKind.i64.wrap k=k:=by rw[IntKind.wrap_i64];unfold xk at hk;omega
   refine⟨t,rfl,rfl,?_,fun _ _=>rfl⟩
   simp only[wX,Z4,Xb,k7,hw]
   exact h2
  ·have hv:wX mt c (.int κ)=[⟨some (c+3), .conv κ (.tmp (c+2)),none⟩]:=by
    cases κ<;>first|rfl|exact absurd rfl hκ
   rw[hv]at hl⊢
   simp only[Z7]at hl⊢
   refine⟨t.set (c+3) (aa κ (κ.wrap k)),?_,by simp,by simp only[k7];exact Zd (by omega),fun n hn=>Za (by omega)⟩
   simp only[ah,aJ,bf,bJ,Opd.ev,e2,isInt,put]
theorem zS {ty:PTy}{p:PV}(hp:oQ ty p)(hf:ty.flatT=true)(k:Int):p.flat=true∧(k7 mT p k).1.flat=true∧(k7 mT p k).2=k+1:=by
 cases ty with
 |lst us=>cases hf
 |str=>obtain⟨s,rfl⟩:=kM hp;simp[k7,PV.flat]
 |bool=>obtain⟨s,rfl⟩:=lB hp;simp[k7,PV.flat]
 |int κ=>obtain⟨s,rfl⟩:=mP hp;simp[k7,PV.flat]
theorem T9 {z:Nat}{E:List (List PV)}{i:Nat}(hi:i<E.length)(call:Nat→List V→Option V){t:List V}{a b:Nat}(ha:t[a]? =some (.one (.arr 0)))(hb:t[b]? =some (aa .i64 i)):bJ call ⟨t,[.zarr z E]⟩ (.indexZ z (.tmp a) (.tmp b))=some (.one (.ptr 0 i 0)):=by
 simp only[bJ,Opd.ev,getD_some ha,getD_some hb,isInt]
 simp[aH,lent,AObj.unz,hi]
structure MkSt (i:Nat) (k:Int) (t:List V):Prop where
 t0:t[0]? =some (.one (.arr 0))
 t1:t[1]? =some (aa .i64 k)
 t5:t[5]? =some (aa .i64 i)
theorem R9 {call:Nat→List V→Option V}{i c:Nat}{k:Int}{t:List V}{h:List AObj}(s:MkSt i k t)(h0:0≤k)(hk:k<xk)(hc:6≤c)(hl:c+1<t.length):
 ∃t',ah call (No c) ⟨t,h⟩=some ⟨t',h⟩∧t'.length=t.length∧MkSt i (k+1) t':=by
 have e1:=getD_some s.t1
 have e2:(t.set c (aa .i64 k)).getD c (.tup [])=aa .i64 k:=aO (by omega)
 have hw:IntKind.i64.wrap (k+1)=k+1:=by rw[IntKind.wrap_i64];unfold xk at hk;omega
 have e3:((t.set c (aa .i64 k)).set (c+1) (aa .i64 (k+1))).getD (c+1) (.tup [])=aa .i64 (k+1):=aO (by simp;omega)
 refine⟨((t.set c (aa .i64 k)).set (c+1) (aa .i64 (k+1))).set 1 (aa .i64 (k+1)),?_,by simp,?_,?_,?_⟩
 ·simp only[No,ah,aJ,bf,bJ,Opd.ev,e1,put,e2,bin,if_true,cK,hw,e3]
 ·rw[Za (by omega),Za (by omega),Za (by omega)];exact s.t0
 ·exact Zd (by simp;omega)
 ·rw[Za (by omega),Za (by omega),Za (by omega)];exact s.t5
theorem Pd {dn rest:List PV}{p q:PV}:(dn++p::rest).set dn.length q=dn++q::rest:=by
 rw[List.set_append_right _ _ (Zm _),Xi,Ye]
theorem DN {dn rest:List PV}{p:PV}:(dn++p::rest)[dn.length]? =some p:=by
 rw[Zk (Zm _),Xi];rfl
theorem PO (hT:CB Φ ext mT mt){ty:PTy}{p:PV}{x:MC}{dn rest:List PV}{E:List (List PV)}{z i c:Nat}{k:Int}{t:List V}(hp:oQ ty p)(hf:ty.flatT=true)(s:MkSt i k t)(h0:0≤k)(hk:k<xk)(hc:12≤c)(hE:E[i]? =some (dn++p::rest))(hx:x.p.sum=dn.length)(hl:c+6+(wX mt c ty).length+x.p.length≤t.length):
 ∃t',ah (ag Φ ext) (D8 z mt c ty x).flatten ⟨t,[.zarr z E]⟩=some ⟨t',[.zarr z (E.set i (dn++(k7 mT p k).1::rest))]⟩∧t'.length=t.length∧MkSt i (k7 mT p k).2 t':=by
 obtain⟨f1,f2,f3⟩:=zS (mT:=mT) hp hf k
 have hi:i<E.length:=(Zb.1 hE).1
 generalize hv:c+2+(wX mt c ty).length=v at*
 let t1:=((t.set c (.one (.arr 0))).set (c+1) (aa .i64 i)).set (c+2) (aa .i64 k)
 have a0:ah (ag Φ ext) (OY c++[⟨some (c+2), .mv (.tmp 1),none⟩]) ⟨t,[.zarr z E]⟩=some ⟨t1,[.zarr z E]⟩:=by
  have e1:=getD_some s.t0
  have e2:(t.set c (V.one (.arr 0))).getD 5 (.tup [])=aa .i64 i:=(dQ (by omega)).trans (getD_some s.t5)
  have e3:((t.set c (V.one (.arr 0))).set (c+1) (aa .i64 i)).getD 1 (.tup [])=aa .i64 k:=(dQ (by omega)).trans ((dQ (by omega)).trans (getD_some s.t1))
  simp only[OY,Zg,Zi,ah,aJ,bf,bJ,Opd.ev,e1,put,e2,e3,t1]
 have l1:t1.length=t.length:=by simp[t1]
 have g1:∀n,n<c→t1[n]? =t[n]? :=fun n hn=>by simp only[t1];rw[Za (by omega),Za (by omega),Za (by omega)]
 have gc:t1[c]? =some (.one (.arr 0)):=by simp only[t1];rw[Za (by omega),Za (by omega)];exact Zd (by omega)
 have gd:t1[c+1]? =some (aa .i64 i):=by simp only[t1];rw[Za (by omega)];exact Zd (by simp;omega)
 have ge:t1[c+2]? =some (aa .i64 k):=by simp only[t1];exact Zd (by simp;omega)
 clear_value t1
 obtain⟨t2,b1,b2,b3,b4⟩:=Po (h:=[.zarr z E]) hT hp hf h0 hk ge (by omega)
 rw[hv]at b3
 let t3:=t2.set (v+1) (.one (.ptr 0 i 0))
 have c1:ah (ag Φ ext) [⟨some (v+1), .indexZ z (.tmp c) (.tmp (c+1)),none⟩] ⟨t2,[.zarr z E]⟩=some ⟨t3,[.zarr z E]⟩:=by
  simp only[ah,aJ,bf,T9 hi (ag Φ ext) (t:=t2) (a:=c) (b:=c+1) ((b4 c (by omega)).trans gc) ((b4 (c+1) (by omega)).trans gd),put,t3]
 have l3:t3.length=t.length:=by simp only[t3,Yj];omega
 obtain⟨t4,d1,d2,d3,d4⟩:=Ax (call:=ag Φ ext) (o:=0) (i:=i) (p:=x.p) (c:=v+1) (j:=0) (t:=t3) (h:=[.zarr z E]) (Zd (by omega)) (by omega)
 have q3:t4[v]? =some (.one (.pv (k7 mT p k).1)):=by rw[d4 v (by omega)];simp only[t3];rw[Za (by omega)];exact b3
 have low:∀n,n<c→t4[n]? =t[n]? :=fun n hn=>by rw[d4 n (by omega)];simp only[t3];rw[Za (by omega),b4 n (by omega),g1 n hn]
 rw[Yc,hx]at d3
 have e1:ah (ag Φ ext) [⟨none, .storeZ 1 (.tmp (v+1+x.p.length)) (.tmp v),none⟩] ⟨t4,[.zarr z E]⟩=some ⟨t4,[.zarr z (E.set i (dn++(k7 mT p k).1::rest))]⟩:=by
  simp only[ah,aJ,bf,bJ,cI,Opd.ev,getD_some d3,getD_some q3,wu,Yu,hE,DN,f1,f2,and_self,if_true,Pd,Ye,put]
 obtain⟨t5,i1,i2,i3⟩:=R9 (call:=ag Φ ext) (c:=v+2+x.p.length) (h:=[.zarr z (E.set i (dn++(k7 mT p k).1::rest))]) (⟨(low 0 (by omega)).trans s.t0,(low 1 (by omega)).trans s.t1,(low 5 (by omega)).trans s.t5⟩:MkSt i k t4) h0 hk (by omega) (by omega)
 refine⟨t5,?_,by omega,by rw[f3];exact i3⟩
 have hflat:(D8 z mt c ty x).flatten=(OY c++[⟨some (c+2), .mv (.tmp 1),none⟩])++(wX mt c ty++([⟨some (v+1), .indexZ z (.tmp c) (.tmp (c+1)),none⟩]++(sS (v+1) x.p++([⟨none, .storeZ 1 (.tmp (v+1+x.p.length)) (.tmp v),none⟩]++No (v+2+x.p.length))))):=by
  simp only[D8,hv,List.flatten_cons,List.flatten_nil,Zx,Zp,Zg,Zi]
 rw[hflat,cG _ _ _ a0,cG _ _ _ b1,cG _ _ _ c1,cG _ _ _ d1,cG _ _ _ e1,i1]
theorem Ti {z i j:Nat}{E:List (List PV)}{e:List PV}{q:PV}(hE:E[i]? =some e)(hj:j<z)(hq:e[j]? =some q):xw z E (i*z+j)=some q:=by
 have h1:(i*z+j)/z=i:=by rw[Xh,Nat.mul_add_div (by omega),Nat.div_eq_of_lt hj];omega
 have h2:(i*z+j)%z=j:=by rw[Xh,Nat.mul_add_mod,Nat.mod_eq_of_lt hj]
 simp only[xw,h1,h2,hE,hq]
theorem Sq {z i j:Nat}{E:List (List PV)}{e:List PV}{q:PV}(hE:E[i]? =some e)(hj:j<z):fv z E (i*z+j) q=E.set i (e.set j q):=by
 have h1:(i*z+j)/z=i:=by rw[Xh,Nat.mul_add_div (by omega),Nat.div_eq_of_lt hj];omega
 have h2:(i*z+j)%z=j:=by rw[Xh,Nat.mul_add_mod,Nat.mod_eq_of_lt hj]
 simp only[fv,h1,h2,hE,Y8]
theorem PP {us:List PTy}{rows:List (List PV)}{x:MC}{dn rest:List PV}{E:List (List PV)}{z i c:Nat}{k:Int}{t:List V}(hO:qd Φ ext mT x.f us)(hp:oQ (.lst us) (.lst rows))(s:MkSt i k t)(h0:0≤k)(hk:(cN mT rows k).2≤xk)(hc:12≤c)(hE:E[i]? =some (dn++ .lst rows::rest))(hz:dn.length<z)(hx:x.p.sum=dn.length)(hl:c+6+x.p.length≤t.length):
 ∃t',ah (ag Φ ext) (HZ z c x).flatten ⟨t,[.zarr z E]⟩=some ⟨t',[.zarr z (E.set i (dn++(k7 mT (.lst rows) k).1::rest))]⟩∧t'.length=t.length∧MkSt i (k7 mT (.lst rows) k).2 t':=by
 have hi:i<E.length:=(Zb.1 hE).1
 let t1:=(t.set c (.one (.arr 0))).set (c+1) (aa .i64 i)
 have a0:ah (ag Φ ext) (OY c) ⟨t,[.zarr z E]⟩=some ⟨t1,[.zarr z E]⟩:=by
  have e1:=getD_some s.t0
  have e2:(t.set c (V.one (.arr 0))).getD 5 (.tup [])=aa .i64 i:=(dQ (by omega)).trans (getD_some s.t5)
  simp only[OY,ah,aJ,bf,bJ,Opd.ev,e1,put,e2,t1]
 have g1:∀n,n<c→t1[n]? =t[n]? :=fun n hn=>by simp only[t1];rw[Za (by omega),Za (by omega)]
 have gc:t1[c]? =some (.one (.arr 0)):=by simp only[t1];rw[Za (by omega)];exact Zd (by omega)
 have gd:t1[c+1]? =some (aa .i64 i):=by simp only[t1];exact Zd (by simp;omega)
 have l1:t1.length=t.length:=by simp[t1]
 clear_value t1
 let t3:=t1.set (c+2) (.one (.ptr 0 i 0))
 have c1:ah (ag Φ ext) [⟨some (c+2), .indexZ z (.tmp c) (.tmp (c+1)),none⟩] ⟨t1,[.zarr z E]⟩=some ⟨t3,[.zarr z E]⟩:=by
  simp only[ah,aJ,bf,T9 hi (ag Φ ext) (t:=t1) (a:=c) (b:=c+1) gc gd,put,t3]
 have l3:t3.length=t.length:=by simp only[t3,Yj];omega
 obtain⟨t4,d1,d2,d3,d4⟩:=Ax (call:=ag Φ ext) (o:=0) (i:=i) (p:=x.p) (c:=c+2) (j:=0) (t:=t3) (h:=[.zarr z E]) (Zd (by omega)) (by omega)
 have low:∀n,n<c→t4[n]? =t[n]? :=fun n hn=>by rw[d4 n (by omega)];simp only[t3];rw[Za (by omega),g1 n hn]
 rw[Yc,hx]at d3
 generalize hw:c+3+x.p.length=w at*
 have hw2:c+2+x.p.length<w:=by omega
 let E':=E.set i (dn++(k7 mT (.lst rows) k).1::rest)
 have hcall:k9 (ag Φ ext) [.zarr z E] x.f (.one (.sub 0 (i*z+dn.length))) k=some (aa .i64 (cN mT rows k).2,[.zarr z E']):=by
  have hat:=Ti (z:=z) hE hz DN
  cases rows with
  |nil=>
   have hE':E'=E:=by
    simp only[E',k7,cN]
    refine Xl fun n=> ?_
    by_cases hn:n=i
    ·subst hn;rw[Zd hi,hE]
    ·rw[Za (by omega)]
   rw[hE']
   simp only[k9,Yu,hat,hO.1 k,L.flat,if_true,cN]
  |cons r rs=>
   have hwid:wid (r::rs)=us.length:=by simp only[wid];exact km ((bw hp).2 r (by simp))
   have:=hO.2 (r::rs) hp k h0 hk
   have hpc:=Sq (q:= .lst (cN mT (r::rs) k).1) hE hz
   rw[Pd]at hpc
   simp only[k9,Yu,hat,hwid,this,L.flat,and_self,if_true,hpc,Ye,E',k7]
 have r1:((t4.set w (V.one (.sub 0 (i*z+dn.length)))).set (w+1) (aa .i64 k)).getD w (.tup [])= .one (.sub 0 (i*z+dn.length)):=(dQ (by omega)).trans (aO (by omega))
 have r2:((t4.set w (V.one (.sub 0 (i*z+dn.length)))).set (w+1) (aa .i64 k)).getD (w+1) (.tup [])=aa .i64 k:=aO (by simp;omega)
 have r3:(((t4.set w (V.one (.sub 0 (i*z+dn.length)))).set (w+1) (aa .i64 k)).set (w+2) (aa .i64 (cN mT rows k).2)).getD (w+2) (.tup [])=aa .i64 (cN mT rows k).2:=aO (by simp;omega)
 have r4:(t4.set w (V.one (.sub 0 (i*z+dn.length)))).getD 1 (.tup [])=aa .i64 k:=(dQ (by omega)).trans (getD_some ((low 1 (by omega)).trans s.t1))
 refine⟨(((t4.set w (V.one (.sub 0 (i*z+dn.length)))).set (w+1) (aa .i64 k)).set (w+2) (aa .i64 (cN mT rows k).2)).set 1 (aa .i64 (cN mT rows k).2),?_,by simp;omega,?_,?_,?_⟩
 ·have hflat:(HZ z c x).flatten=OY c++([⟨some (c+2), .indexZ z (.tmp c) (.tmp (c+1)),none⟩]++(sS (c+2) x.p++[⟨some w, .loadZ false 1 (.tmp (c+2+x.p.length)),none⟩,⟨some (w+1), .mv (.tmp 1),none⟩,⟨some (w+2), .callM x.f (.tmp w) (.tmp (w+1)),none⟩,⟨some 1, .mv (.tmp (w+2)),none⟩])):=by
   simp only[HZ,hw,List.flatten_cons,List.flatten_nil,Zx,Zp,Zg,Zi]
  rw[hflat,cG _ _ _ a0,cG _ _ _ c1,cG _ _ _ d1]
  simp only[ah,aJ,bf,bJ,cI,Opd.ev,getD_some d3,sN,Yu,hE,DN,and_self,if_true,put,r4,r1,r2,hcall,r3,E']
 ·rw[Za (by omega),Za (by omega),Za (by omega),Za (by omega)];exact(low 0 (by omega)).trans s.t0
 ·simp only[k7];exact Zd (by simp;omega)
 ·rw[Za (by omega),Za (by omega),Za (by omega),Za (by omega)];exact(low 5 (by omega)).trans s.t5
def HS (Φ:Nat→Option AFn)(ext:Nat→List V→Option V)(mT:Int→List UInt8):Nat→List PTy→List MC→Prop
 |j, .lst us::ts,x::xs=>x.p.sum=j∧qd Φ ext mT x.f us∧HS Φ ext mT (j+1) ts xs
 |j,_::ts,x::xs=>x.p.sum=j∧HS Φ ext mT (j+1) ts xs
 |_,[],[]=>True
 |_,_,_=>False
theorem DU :∀(ts:List PTy)(xs:List MC)(c:Nat),c≤lE mt c ts xs
 |[],_,c=>Zm _
 |_::_,[],c=>Zm _
 |t::ts,x::xs,c=>by
  simp only[lE]
  refine Zc ?_ (DU ts xs _)
  cases t<;>simp only[yH]<;>omega
theorem Pa (hT:CB Φ ext mT mt){z i:Nat}:∀(ts:List PTy)(xs:List MC){c:Nat}{dn row:List PV}{E:List (List PV)}{k:Int}{t:List V},HS Φ ext mT dn.length ts xs→bM ts row→E[i]? =some (dn++row)→z=dn.length+ts.length→MkSt i k t→0≤k→(p9 mT row k).2≤xk→12≤c→lE mt c ts xs≤t.length→
 ∃t',ah (ag Φ ext) (QK z mt c ts xs).flatten ⟨t,[.zarr z E]⟩=some ⟨t',[.zarr z (E.set i (dn++(p9 mT row k).1))]⟩∧t'.length=t.length∧MkSt i (p9 mT row k).2 t'
 |[],xs,c,dn,row,E,k,t,hm,hr,hE,hz,s,h0,hk,hc,hl=>by
  obtain rfl:=fF hr
  have hi:i<E.length:=(Zb.1 hE).1
  have hE':E.set i (dn++(p9 mT [] k).1)=E:=by
   simp only[p9]
   refine Xl fun n=> ?_
   by_cases hn:n=i
   ·subst hn;rw[Zd hi,hE]
   ·rw[Za (by omega)]
  rw[hE']
  cases xs<;>exact⟨t,rfl,rfl,by simpa only[p9]using s⟩
 |ty::ts,[],c,dn,row,E,k,t,hm,hr,hE,hz,s,h0,hk,hc,hl=>by cases ty<;>exact hm.elim
 |ty::ts,x::xs,c,dn,row,E,k,t,hm,hr,hE,hz,s,h0,hk,hc,hl=>by
  obtain⟨p,rest,rfl,hp,hr'⟩:=eD hr
  have hi:i<E.length:=(Zb.1 hE).1
  have hle:=BI mT rest (k7 mT p k).2
  have hlp:=Ny mT p k
  simp only[p9]at hk
  simp only[lE]at hl
  have hN:=DU (mt:=mt) ts xs (yH mt c ty x)
  have hnext:HS Φ ext mT (dn++[(k7 mT p k).1]).length ts xs:=by
   have:(dn++[(k7 mT p k).1]).length=dn.length+1:=by simp
   rw[this]
   cases ty<;>first|exact hm.2|exact hm.2.2
  have hx:x.p.sum=dn.length:=by cases ty<;>exact hm.1
  have cell:∃t',ah (ag Φ ext) (Oq z mt c ty x).flatten ⟨t,[.zarr z E]⟩=some ⟨t',[.zarr z (E.set i (dn++(k7 mT p k).1::rest))]⟩∧t'.length=t.length∧MkSt i (k7 mT p k).2 t':=by
   by_cases hf:ty.flatT=true
   ·have hR:Oq z mt c ty x=D8 z mt c ty x:=by cases ty<;>first|rfl|cases hf
    have hN':yH mt c ty x=c+6+(wX mt c ty).length+x.p.length:=by cases ty<;>first|rfl|cases hf
    rw[hR]
    have:=(zS (mT:=mT) hp hf k).2.2
    exact PO hT hp hf s h0 (by omega) hc hE hx (by omega)
   ·cases ty with
    |lst us=>
     obtain⟨rows,rfl⟩:=oE hp
     have hN':yH mt c (.lst us) x=c+6+x.p.length:=rfl
     simp only[k7]at hle hk
     exact PP hm.2.1 hp s h0 (by omega) hc hE (by rw[hz];simp) hx (by omega)
    |_=>exact absurd rfl hf
  obtain⟨t1,e1,e2,e3⟩:=cell
  have hc':c≤yH mt c ty x:=by cases ty<;>simp only[yH]<;>omega
  obtain⟨t2,f1,f2,f3⟩:=Pa hT (z:=z) (i:=i) ts xs (c:=yH mt c ty x) (dn:=dn++[(k7 mT p k).1]) (row:=rest) (E:=E.set i (dn++(k7 mT p k).1::rest)) (k:=(k7 mT p k).2) (t:=t1) hnext hr' (by rw[Zd hi];simp) (by rw[hz];simp;omega) e3 (by omega) hk (by omega) (by omega)
  refine⟨t2,?_,by omega,by simp only[p9];exact f3⟩
  simp only[QK,List.flatten_append]
  rw[cG _ _ _ e1,f1]
  simp only[List.set_set,p9,Zp,Zg,Zi]
theorem QB (hT:CB Φ ext mT mt){ts:List PTy}{xs:List MC}(hm:HS Φ ext mT 0 ts xs):∀(rest done:List (List PV))(k:Int)(t:List V),MkSt done.length k t→(∀r∈rest,bM ts r)→0≤k→(cN mT rest k).2≤xk→done.length+rest.length≤maxLen→lE mt 12 ts xs≤t.length→
 ∃t',aL (aw (ag Φ ext) aL (Cf mt ts xs)) ⟨t,[.zarr ts.length (done++rest)]⟩=some (.exit 0,⟨t',[.zarr ts.length (done++(cN mT rest k).1)]⟩)∧t'.length=t.length∧t'[1]? =some (aa .i64 (cN mT rest k).2):=by
 intro rest
 have hN:=DU (mt:=mt) ts xs 12
 have head:∀(done rest:List (List PV))(k:Int)(t:List V),MkSt done.length k t→lE mt 12 ts xs≤t.length→∃t',aw (ag Φ ext) aL (R2 5 0 6) ⟨t,[.zarr ts.length (done++rest)]⟩=some (if 0<rest.length then .normal else .exit 0,⟨t',[.zarr ts.length (done++rest)]⟩)∧t'.length=t.length∧MkSt done.length k t':=by
  intro done rest k t s hl
  let t1:=(((t.set 6 (aa .i64 done.length)).set 7 (.one (.arr 0))).set 8 (aa .i64 (done++rest).length)).set 9 (aA (decide (0<rest.length)))
  have e0:=getD_some s.t5
  have e1:(t.set 6 (aa .i64 done.length)).getD 0 (.tup [])= .one (.arr 0):=(dQ (by omega)).trans (getD_some s.t0)
  have e2:((t.set 6 (aa .i64 done.length)).set 7 (.one (.arr 0))).getD 7 (.tup [])= .one (.arr 0):=aO (by simp;omega)
  have e3:(((t.set 6 (aa .i64 done.length)).set 7 (.one (.arr 0))).set 8 (aa .i64 (done++rest).length)).getD 6 (.tup [])=aa .i64 done.length:=(dQ (by omega)).trans ((dQ (by omega)).trans (aO (by omega)))
  have e4:(((t.set 6 (aa .i64 done.length)).set 7 (.one (.arr 0))).set 8 (aa .i64 (done++rest).length)).getD 8 (.tup [])=aa .i64 (done++rest).length:=aO (by simp;omega)
  have e5:t1.getD 9 (.tup [])=aA (decide (0<rest.length)):=aO (by simp;omega)
  have e6:asList (lent [AObj.zarr ts.length (done++rest)]) (.one (.arr 0))=some (done++rest):=rfl
  have e7:decide ((done.length:Int)<((done++rest).length:Int))=decide (0<rest.length):=by
   simp only[Zw]
   by_cases h:0<rest.length
   ·rw[decide_eq_true h,decide_eq_true (by omega)]
   ·rw[decide_eq_false h,decide_eq_false (by omega)]
  refine⟨t1,?_,by simp[t1],?_,?_,?_⟩
  ·simp only[R2,aw,ah,aJ,bf,bJ,Opd.ev,e0,put,e1,e2,e6,e3,e4,bin,if_true,cK,e7]
   have e5':=e5
   simp only[t1]at e5'
   rw[e5']
   by_cases h:0<rest.length
   ·simp only[isBool,h,decide_true,if_true,t1]
   ·simp only[isBool,h,decide_false,Zy,if_false,t1]
  ·simp only[t1];rw[Za (by omega),Za (by omega),Za (by omega),Za (by omega)];exact s.t0
  ·simp only[t1];rw[Za (by omega),Za (by omega),Za (by omega),Za (by omega)];exact s.t1
  ·simp only[t1];rw[Za (by omega),Za (by omega),Za (by omega),Za (by omega)];exact s.t5
 induction rest with
 |nil=>
  intro done k t s hr h0 hk hlen hl
  obtain⟨t',a1,a2,a3⟩:=head done [] k t s hl
  refine⟨t',je ?_ (by simp),a2,by simp only[cN];exact a3.t1⟩
  simp only[Cf,aw,a1,Z4,Nat.lt_irrefl,if_false,cN]
 |cons r rest ih=>
  intro done k t s hr h0 hk hlen hl
  obtain⟨t1,a1,a2,a3⟩:=head done (r::rest) k t s hl
  simp only[cN]at hk
  have hle:=pq mT rest (p9 mT r k).2
  have hll:=BI mT r k
  obtain⟨t2,b1,b2,b3⟩:=Pa hT (z:=ts.length) (i:=done.length) ts xs (c:=12) (dn:=[]) (row:=r) (E:=done++r::rest) (k:=k) (t:=t1) hm (hr r (by simp)) (by rw[Zk (Zm _),Xi];rfl) (by simp) a3 h0 (by omega) (Zm _) (by omega)
  have hset:(done++r::rest).set done.length ([]++(p9 mT r k).1)=(done++[(p9 mT r k).1])++rest:=by
   rw[List.set_append_right _ _ (Zm _),Xi,Ye];simp
  rw[hset]at b1
  simp only[Zo]at hlen
  have hw:=kK (k:=done.length) (by unfold maxLen at hlen;omega)
  let t3:=((t2.set 10 (aa .i64 done.length)).set 11 (aa .i64 ((done.length:Int)+1))).set 5 (aa .i64 ((done.length:Int)+1))
  have f0:=getD_some b3.t5
  have f1:(t2.set 10 (aa .i64 done.length)).getD 10 (.tup [])=aa .i64 done.length:=aO (by omega)
  have f2:((t2.set 10 (aa .i64 done.length)).set 11 (aa .i64 ((done.length:Int)+1))).getD 11 (.tup [])=aa .i64 ((done.length:Int)+1):=aO (by simp;omega)
  have f3:∀h,aw (ag Φ ext) aL (Ji 5 10) ⟨t2,h⟩=some (.normal,⟨t3,h⟩):=fun h=>by
   simp only[Ji,aw,ah,aJ,bf,bJ,Opd.ev,f0,put,f1,bin,if_true,cK,hw,f2,t3]
  have s3:MkSt (done++[(p9 mT r k).1]).length (p9 mT r k).2 t3:=by
   have hlen1:(done++[(p9 mT r k).1]).length=done.length+1:=by simp
   rw[hlen1]
   refine⟨?_,?_,?_⟩
   ·simp only[t3];rw[Za (by omega),Za (by omega),Za (by omega)];exact b3.t0
   ·simp only[t3];rw[Za (by omega),Za (by omega),Za (by omega)];exact b3.t1
   ·simp only[t3];exact Zd (by simp;omega)
  obtain⟨t4,g1,g2,g3⟩:=ih (done++[(p9 mT r k).1]) (p9 mT r k).2 t3 s3 (fun r m=>hr r (by simp[m])) (by omega) hk (by simp;omega) (by simp[t3];omega)
  refine⟨t4,(gB (σ':=⟨t3,[.zarr ts.length (done++[(p9 mT r k).1]++rest)]⟩) ?_).trans ?_,by rw[g2];simp[t3];omega,by simp only[cN];exact g3⟩
  ·have hb:=L3 (lp:=aL) b1
   simp only[Cf,aw,a1,Zo,Nat.zero_lt_succ,if_true,hb,f3]
  ·rw[g1]
   simp only[cN,Zp,Zg,Zi]
end
def mI (ops:List AOper):Bool:=ops.all fun o=>o.op.noZ
theorem O4 (a b:List AOper):mI (a++b)=(mI a&&mI b):=by simp[mI]
theorem FQ (a:AOper)(b:List AOper):mI (a::b)=(a.op.noZ&&mI b):=by simp[mI]
theorem BK :∀(p:List Nat)(c:Nat),mI (sS c p)=true
 |[],c=>rfl
 |d::ds,c=>by simp only[sS,FQ,BK ds,AOp.noZ,Yk]
theorem TK (mt c:Nat)(t:PTy):mI (wX mt c t)=true:=by
 cases t with
 |int κ=>cases κ<;>rfl
 |_=>rfl
theorem Sm (z mt c:Nat)(t:PTy)(x:MC):∀r∈Oq z mt c t x,mI r=true:=by
 have nil:mI []=true:=rfl
 have hS:∀t,∀r∈D8 z mt c t x,mI r=true:=by
  intro t r hr
  simp only[D8,Z8,List.not_mem_nil,or_false]at hr
  rcases hr with rfl|rfl
  ·simp only[OY,Zg,Zi,FQ,O4,TK,BK,AOp.noZ,nil,Yk]
  ·rfl
 have hT:∀r∈HZ z c x,mI r=true:=by
  intro r hr
  simp only[HZ,Z8,List.not_mem_nil,or_false]at hr
  subst hr
  simp only[OY,Zg,Zi,FQ,O4,BK,AOp.noZ,nil,Yk]
 cases t<;>first|exact hT|exact hS _
theorem O5 (z mt:Nat):∀(ts:List PTy)(xs:List MC)(c:Nat),∀r∈QK z mt c ts xs,mI r=true
 |[],xs,c,r,hr=>by cases xs<;>cases hr
 |t::ts,[],c,r,hr=>by cases hr
 |t::ts,x::xs,c,r,hr=>by
  simp only[QK,Yy]at hr
  rcases hr with hr|hr
  ·exact Sm z mt c t x r hr
  ·exact O5 z mt ts xs _ r hr
theorem LH :∀(rs:List (List AOper)),(∀r∈rs,mI r=true)→(NK rs).noZ=true
 |[],_=>rfl
 |[a],h=>h a (by simp)
 |a::b::r,h=>by
  have h1:=h a (by simp)
  have h2:=LH (b::r) (fun x m=>h x (by simp only[Z8]at m⊢;exact .inr m))
  simp only[NK,ACode.noZ,h2,Y7]
  exact h1
theorem LG (mt:Nat)(ts:List PTy)(xs:List MC):(gx mt ts xs).body.noZ=true:=by
 have:=LH _ (O5 ts.length mt ts xs 12)
 simp only[gx,Cf,R2,Ji,ACode.noZ,this,Y7,Y0]
 rfl
section
variable {Φ:Nat→Option AFn}{ext:Nat→List V→Option V}{mT:Int→List UInt8}{mt:Nat}
theorem fu (hT:CB Φ ext mT mt){f:Nat}{ts:List PTy}{xs:List MC}(hk:Φ f=some (gx mt ts xs))(hn:Φ (f+jX)=none)(hm:HS Φ ext mT 0 ts xs):qd Φ ext mT f ts:=by
 have hN:=DU (mt:=mt) ts xs 12
 obtain⟨m,hm'⟩:∃m,lE mt 12 ts xs+1-2=m+11:=⟨lE mt 12 ts xs-12,by omega⟩
 constructor
 ·intro k
  refine uU hn hk (LG mt ts xs) ?_
  have e0:asList (lent []) (cA [])=some []:=rfl
  have hrun:∃t',f9 Φ ext (gx mt ts xs).body (ji (gx mt ts xs) [cA [],aa .i64 k])=some (.ret,⟨t',[]⟩)∧t'.getD 4 (.tup [])=aa .i64 k:=by
   have hst:ji (gx mt ts xs) [cA [],aa .i64 k]=⟨cA []::aa .i64 k::List.replicate (m+11) (.tup []),[]⟩:=by
    simp only[ji,dV,thaw,thawL,gx,Zo,Z4,Z5,Zg,Zi,hm']
   rw[hst]
   have hl:(cA []::aa .i64 k::List.replicate (m+11) (V.tup [])).length=lE mt 12 ts xs+1:=by simp;omega
   generalize hlp:aL (aw (ag Φ ext) aL (Cf mt ts xs))=lp
   have hloop:∀u2 u3 u4 u6 u7 u8 u9(r:List V),lp ⟨cA []::aa .i64 k::u2::u3::u4::aa .i64 0::u6::u7::u8::u9::r,[]⟩=some (.exit 0,⟨cA []::aa .i64 k::u2::u3::u4::aa .i64 0::aa .i64 0::cA []::aa .i64 0::aA false::r,[]⟩):=by
    intro u2 u3 u4 u6 u7 u8 u9 r
    rw[←hlp]
    refine je ?_ (by simp)
    simp[Cf,R2,aw,ah,aJ,bf,bJ,Opd.ev,put,e0,bin,cK,isBool]
   have hrep:List.replicate (m+11) (V.tup [])= .tup []:: .tup []:: .tup []:: .tup []:: .tup []:: .tup []:: .tup []:: .tup []::List.replicate (m+3) (.tup []):=rfl
   rw[hrep]at hl⊢
   let w:List V:=cA []::aa .i64 k:: .tup []:: .tup []::aa .i64 0::aa .i64 0::aa .i64 0::cA []::aa .i64 0::aA false::List.replicate (m+3) (.tup [])
   have hwl:w.length=lE mt 12 ts xs+1:=by simp only[w,Zo,List.length_replicate]at hl⊢;omega
   have q1:w.getD 1 (.tup [])=aa .i64 k:=rfl
   have q2:(w.set (lE mt 12 ts xs) (aa .i64 k)).getD (lE mt 12 ts xs) (.tup [])=aa .i64 k:=aO (by omega)
   refine⟨(w.set (lE mt 12 ts xs) (aa .i64 k)).set 4 (aa .i64 k),?_,aO (by simp;omega)⟩
   have hend:aw (ag Φ ext) aL (.seq (.region [⟨some (lE mt 12 ts xs), .mv (.tmp 1),none⟩,⟨some 4, .mv (.tmp (lE mt 12 ts xs)),none⟩]) .ret) ⟨w,[]⟩=some (.ret,⟨(w.set (lE mt 12 ts xs) (aa .i64 k)).set 4 (aa .i64 k),[]⟩):=by
    simp only[aw,ah,aJ,bf,bJ,Opd.ev,q1,put,q2]
   generalize hec:ACode.seq (.region [⟨some (lE mt 12 ts xs), .mv (.tmp 1),none⟩,⟨some 4, .mv (.tmp (lE mt 12 ts xs)),none⟩]) .ret=ec at hend
   simp only[f9,gx,hec,aw,ah,aJ,bf,bJ,Opd.ev,put,Ys,Ye,hlp,hloop,if_true]
   exact hend
  obtain⟨t',r1,r2⟩:=hrun
  rw[r1]
  simp only[xb,Hm,gx,aW,am,cF,r2,Yn,Xf,Zx,V.cells,bS,comp,aQ,bI,dV,thaw,thawL,Z4,Ya,ic,L.flat,if_true]
  rfl
 ·intro rows h k h0 hk2
  obtain⟨hl1,hr⟩:=bw h
  refine uU hn hk (LG mt ts xs) ?_
  have hst:ji (gx mt ts xs) [.one (.down ts.length rows),aa .i64 k]=⟨.one (.arr 0)::aa .i64 k::List.replicate (m+11) (.tup []),[.zarr ts.length rows]⟩:=by
   simp only[ji,dV,thaw,thawL,gx,Zo,Z4,Zv,Z5,Zg,Zi,AObj.zone,hm']
  let t0:List V:= .one (.arr 0)::aa .i64 k:: .tup []:: .tup []::aa .i64 0::aa .i64 0::List.replicate (m+7) (.tup [])
  have hl0:t0.length=lE mt 12 ts xs+1:=by simp[t0];omega
  obtain⟨t',a1,a2,a3⟩:=QB hT hm rows [] k t0 ⟨rfl,rfl,rfl⟩ hr h0 hk2 (by simpa using hl1) (by omega)
  simp only[Zi]at a1
  have q1:t'.getD 1 (.tup [])=aa .i64 (cN mT rows k).2:=getD_some a3
  have q2:(t'.set (lE mt 12 ts xs) (aa .i64 (cN mT rows k).2)).getD (lE mt 12 ts xs) (.tup [])=aa .i64 (cN mT rows k).2:=aO (by omega)
  have hend:aw (ag Φ ext) aL (.seq (.region [⟨some (lE mt 12 ts xs), .mv (.tmp 1),none⟩,⟨some 4, .mv (.tmp (lE mt 12 ts xs)),none⟩]) .ret) ⟨t',[.zarr ts.length (cN mT rows k).1]⟩=some (.ret,⟨(t'.set (lE mt 12 ts xs) (aa .i64 (cN mT rows k).2)).set 4 (aa .i64 (cN mT rows k).2),[.zarr ts.length (cN mT rows k).1]⟩):=by
   simp only[aw,ah,aJ,bf,bJ,Opd.ev,q1,put,q2]
  have q3:((t'.set (lE mt 12 ts xs) (aa .i64 (cN mT rows k).2)).set 4 (aa .i64 (cN mT rows k).2)).getD 4 (.tup [])=aa .i64 (cN mT rows k).2:=aO (by simp;omega)
  have hrun:f9 Φ ext (gx mt ts xs).body (ji (gx mt ts xs) [.one (.down ts.length rows),aa .i64 k])=some (.ret,⟨(t'.set (lE mt 12 ts xs) (aa .i64 (cN mT rows k).2)).set 4 (aa .i64 (cN mT rows k).2),[.zarr ts.length (cN mT rows k).1]⟩):=by
   rw[hst]
   generalize hec:ACode.seq (.region [⟨some (lE mt 12 ts xs), .mv (.tmp 1),none⟩,⟨some 4, .mv (.tmp (lE mt 12 ts xs)),none⟩]) .ret=ec at hend
   have hrep:List.replicate (m+11) (V.tup [])= .tup []:: .tup []:: .tup []:: .tup []::List.replicate (m+7) (.tup []):=rfl
   generalize hlp:aL (aw (ag Φ ext) aL (Cf mt ts xs))=lp at a1
   simp only[t0]at a1
   simp only[f9,gx,hec,hrep,aw,ah,aJ,bf,bJ,Opd.ev,put,Ys,Ye,hlp,a1,if_true]
   exact hend
  rw[hrun]
  simp only[xb,Hm,gx,aW,am,cF,q3,Yn,Xf,Zx,V.cells,bS,comp,aQ,bI,dV,thaw,thawL,Zi,Zo,Z4,Yc,List.take_succ_cons,Ya,ic,L.flat,if_true]
  rfl
end
end Gi
