/- Of this proof. -/
import Derived.Test.YtebnmoogdmpepaaGreatGpq
set_option linter.unusedSimpArgs false
set_option linter.unusedVariables false
namespace Gi
open Go Go.RowKit
def Tf :List ACode→ACode
 |[]=> .skip
 |[a]=>a
 |a::b::r=> .seq a (Tf (b::r))
def vR (call:Nat→List V→Option V)(lp:(St→Option (Ex×St))→St→Option (Ex×St)):List ACode→St→Option St
 |[],σ=>some σ
 |a::r,σ=>match aq call lp a σ with
  |some (.normal,σ')=>vR call lp r σ'
  |_=>none
theorem Lw {call:Nat→List V→Option V}{lp:(St→Option (Ex×St))→St→Option (Ex×St)}:∀{xz:List ACode}{σ σ':St},vR call lp xz σ=some σ'→aq call lp (Tf xz) σ=some (.normal,σ')
 |[],σ,σ',h=>by simp only[vR]at h;cases h;rfl
 |[a],σ,σ',h=>by
  simp only[vR]at h
  split at h
  ·rename_i σ1 h1;cases h;exact h1
  ·cases h
 |a::b::r,σ,σ',h=>by
  rw[vR]at h
  split at h
  ·rename_i σ1 h1
   have:=Lw (xz:=b::r) h
   simp only[Tf,aq,h1,this]
  ·cases h
theorem Lr {call:Nat→List V→Option V}{lp:(St→Option (Ex×St))→St→Option (Ex×St)}:∀{xz bs:List ACode}{σ σ':St},vR call lp xz σ=some σ'→vR call lp (xz++bs) σ=vR call lp bs σ'
 |[],bs,σ,σ',h=>by simp only[vR]at h;cases h;rfl
 |a::xz,bs,σ,σ',h=>by
  simp only[vR,Zf]at h⊢
  split at h
  ·rename_i σ1 h1
   exact Lr h
  ·cases h
def Ds (mt c:Nat):PTy→List AOper
 | .int .i64=>[]
 | .int κ=>[⟨some (c+3), .conv κ (.tmp (c+2)),none⟩]
 | .str=>[⟨some (c+3), .call mt [.tmp (c+2)] true true,none⟩]
 | .bool=>[⟨some (c+3), .bin .rem (.tmp (c+2)) (.pv (.int .i64 3)),none⟩,⟨some (c+4), .bin .eql (.tmp (c+3)) (.pv (.int .i64 0)),none⟩]
 | .lst _=>[]
def Vu :ACode:= .seq (.region [⟨some 4, .mv (.pv (.int .i64 (-1))),none⟩]) .ret
def T9 (z c:Nat)(x:MC):List AOper:=On c++(⟨some (c+2), .indexA z (.tmp c) (.tmp (c+1)),none⟩::(rI (c+2) x.p++[⟨some (c+3+x.p.length), .load false 1 (.tmp (c+2+x.p.length)),none⟩,⟨some (c+4+x.p.length), .mv (.tmp 1),none⟩]))
def SS (z mt c:Nat)(t:PTy)(x:MC):List ACode:=
 let d:=c+2+x.p.length
 let v:=d+2+(Ds mt d t).length
 [.seq (.region (T9 z c x++(Ds mt d t++[⟨some (v+1),Hf t (.tmp (d+1)) (.tmp v),none⟩]))) (.cond (.tmp (v+1)) Vu .skip), .region (ML (v+2))]
def T8 (z c:Nat)(x:MC):List ACode:=
 let d:=c+2+x.p.length
 [.region (T9 z c x++[⟨some (d+3), .call x.f [.tmp (d+1), .tmp (d+2)] true false,none⟩,⟨some 1, .mv (.tmp (d+3)),none⟩]),pe (d+4)]
def T7 (z mt c:Nat):PTy→MC→List ACode
 | .lst _,x=>T8 z c x
 |t,x=>SS z mt c t x
def I0 (mt c:Nat):PTy→MC→Nat
 | .lst _,x=>c+8+x.p.length
 |t,x=>c+8+(Ds mt (c+2+x.p.length) t).length+x.p.length
def SU (z mt:Nat):Nat→List PTy→List MC→List ACode
 |c,t::ts,x::xs=>T7 z mt c t x++SU z mt (I0 mt c t x) ts xs
 |_,_,_=>[]
def qy (mt:Nat):Nat→List PTy→List MC→Nat
 |c,t::ts,x::xs=>qy mt (I0 mt c t x) ts xs
 |c,_,_=>c
def KW (mt:Nat)(ts:List PTy)(xs:List MC):ACode:= .seq (BS 5 0 6) (.seq (.block 1 (Tf (SU ts.length mt 12 ts xs))) (IZ 5 10))
def iW (mt:Nat)(ts:List PTy)(xs:List MC):AFn:=⟨qy mt 12 ts xs+1,[.tmp 4], .seq (.region [⟨some 4, .mv (.pv (.int .i64 0)),none⟩]) (.seq (.seq (.region [⟨some 5, .mv (.pv (.int .i64 0)),none⟩]) (.block 0 (.loop (KW mt ts xs)))) (.seq (.region [⟨some (qy mt 12 ts xs), .mv (.tmp 1),none⟩,⟨some 4, .mv (.tmp (qy mt 12 ts xs)),none⟩]) .ret))⟩
theorem Kg {call:Nat→List V→Option V}{e:List PV}:∀{p:List Nat}{c j:Nat}{t:List V}{h:List AObj},t[c]? =some (.one (.ip e j))→c+p.length<t.length→
 ∃t',ai call (rI c p) ⟨t,h⟩=some ⟨t',h⟩∧t'.length=t.length∧t'[c+p.length]? =some (.one (.ip e (j+p.sum)))∧∀n≤c,t'[n]? =t[n]?
 |[],c,j,t,h,hc,hl=>⟨t,rfl,rfl,by simpa using hc,fun _ _=>rfl⟩
 |d::ds,c,j,t,h,hc,hl=>by
  simp only[Zn]at hl
  obtain⟨t',e1,e2,e3,e4⟩:=Kg (call:=call) (e:=e) (p:=ds) (c:=c+1) (j:=j+d) (t:=t.set (c+1) (.one (.ip e (j+d)))) (h:=h) (Zd (by omega)) (by simp;omega)
  refine⟨t',?_,by simpa using e2,?_,fun n hn=> ?_⟩
  ·simp only[rI,ai,az,aK,bj,Opd.ev,getD_some hc,put,e1]
  ·simp only[Zn,List.sum_cons]
   rw[show c+(ds.length+1)=c+1+ds.length by omega,e3,Xj]
  ·rw[e4 n (by omega),Za (by omega)]
section
variable {Φ:Nat→Option AFn}{ext:Nat→List V→Option V}{mT:Int→List UInt8}{mt:Nat}
theorem Sj (hT:Cj Φ ext mT mt){ty:PTy}{p:PV}(hp:nQ ty p)(hf:ty.flatT=true){c:Nat}{k:Int}(h0:0≤k)(hk:k<sE){t:List V}{h:List AObj}(h2:t[c+2]? =some (aa .i64 k))(hl:c+2+(Ds mt c ty).length<t.length):
 ∃t',ai (ah Φ ext) (Ds mt c ty) ⟨t,h⟩=some ⟨t',h⟩∧t'.length=t.length∧t'[c+2+(Ds mt c ty).length]? =some (.one (.pv (kw mT p k).1))∧∀n≤c+2,t'[n]? =t[n]? :=by
 have e2:=getD_some h2
 by_cases hs:ty= .str
 ·subst hs
  obtain⟨s,rfl⟩:=mb hp
  simp only[Ds,Z6]at hl⊢
  refine⟨t.set (c+3) (f9 (mT k)),?_,by simp,by simp only[kw];exact Zd (by omega),fun n hn=>Za (by omega)⟩
  simp only[ai,az,aK,bj,Bool.or_self,Bool.true_or,if_true,Zv,Yb,Opd.ev,e2,am,V.view,L.view,hT k h0 (by omega),V.flat,L.flat,Xo,Bool.and_false,Z0,if_false,dO,di,put]
 ·have:Ds mt c ty=vX mt c ty:=by
   cases ty with
   |int κ=>cases κ<;>rfl
   |str=>exact absurd rfl hs
   |_=>rfl
  rw[this]at hl⊢
  exact OO hT hp hf h0 hk h2 hl
theorem P2 {ty:PTy}{p:PV}(hp:nQ ty p)(hf:ty.flatT=true){k:Int}{t:List V}{a b:Nat}(ha:t[a]? =some (.one (.pv (kw mT p k).1)))(hb:t[b]? =some (.one (.pv (kw mT p k).1)))(call:Nat→List V→Option V)(h:List AObj):bj call ⟨t,h⟩ (Hf ty (.tmp a) (.tmp b))=some (av false):=by
 have e1:=getD_some ha
 have e2:=getD_some hb
 cases ty with
 |lst us=>cases hf
 |str=>
  obtain⟨s,rfl⟩:=mb hp
  simp only[Hf,bj,Opd.ev,e1,e2]
  exact Fv rfl
 |int κ=>
  obtain⟨s,rfl⟩:=ma hp
  simp only[Hf,bj,Opd.ev,e1,e2]
  exact Fv rfl
 |bool=>
  obtain⟨s,rfl⟩:=kL hp
  simp only[Hf,bj,Opd.ev,e1,e2,kw,isBool]
  cases k.tmod 3==0<;>rfl
structure HdSt (rows:List (List PV)) (i:Nat) (k:Int) (t:List V):Prop where
 t0:t[0]? =some (ba rows)
 t1:t[1]? =some (aa .i64 k)
 t5:t[5]? =some (aa .i64 i)
theorem Ob {rows:List (List PV)}{e:List PV}{q:PV}{x:MC}{z i c:Nat}{k:Int}{t:List V}(s:HdSt rows i k t)(he:rows[i]? =some e)(hz:e.length=z)(hq:e[x.p.sum]? =some q)(hc:12≤c)(hl:c+4+x.p.length<t.length)(call:Nat→List V→Option V):
 ∃t',ai call (T9 z c x) ⟨t,[]⟩=some ⟨t',[]⟩∧t'.length=t.length∧t'[c+3+x.p.length]? =some (.one (.pv q))∧t'[c+4+x.p.length]? =some (aa .i64 k)∧∀n<c,t'[n]? =t[n]? :=by
 let t1:=((t.set c (ba rows)).set (c+1) (aa .i64 i)).set (c+2) (.one (.ip e 0))
 have a0:ai call (On c++[⟨some (c+2), .indexA z (.tmp c) (.tmp (c+1)),none⟩]) ⟨t,[]⟩=some ⟨t1,[]⟩:=by
  have e1:=getD_some s.t0
  have e2:(t.set c (ba rows)).getD 5 (.tup [])=aa .i64 i:=(dD (by omega)).trans (getD_some s.t5)
  have e3:((t.set c (ba rows)).set (c+1) (aa .i64 i)).getD c (.tup [])=ba rows:=(dD (by omega)).trans (aD (by omega))
  have e4:((t.set c (ba rows)).set (c+1) (aa .i64 i)).getD (c+1) (.tup [])=aa .i64 i:=aD (by simp;omega)
  simp only[On,Zf,Zi,ai,az,aK,bj,Opd.ev,e1,put,e2,e3,e4,isInt,Int.natCast_nonneg,if_true,Int.toNat_natCast,aG,he,hz,t1]
 have l1:t1.length=t.length:=by simp[t1]
 have g1:∀n,n<c→t1[n]? =t[n]? :=fun n hn=>by simp only[t1];rw[Za (by omega),Za (by omega),Za (by omega)]
 have ge:t1[c+2]? =some (.one (.ip e 0)):=by simp only[t1];exact Zd (by simp;omega)
 clear_value t1
 obtain⟨t4,d1,d2,d3,d4⟩:=Kg (call:=call) (e:=e) (p:=x.p) (c:=c+2) (j:=0) (t:=t1) (h:=[]) ge (by omega)
 rw[Yc]at d3
 have hcut:gn false 1 x.p.sum (e.map L.pv)=some (.one (.pv q)):=by
  have hlt:=(Zb.1 hq).1
  unfold gn
  rw[if_pos (by simp;omega)]
  simp[hq]
 have q1:(t4.set (c+3+x.p.length) (V.one (.pv q))).getD 1 (.tup [])=aa .i64 k:=(dD (by omega)).trans (getD_some ((d4 1 (by omega)).trans ((g1 1 (by omega)).trans s.t1)))
 refine⟨(t4.set (c+3+x.p.length) (.one (.pv q))).set (c+4+x.p.length) (aa .i64 k),?_,by simp;omega,by rw[Za (by omega)];exact Zd (by omega),Zd (by simp;omega),fun n hn=>by rw[Za (by omega),Za (by omega),d4 n (by omega),g1 n hn]⟩
 have hflat:T9 z c x=(On c++[⟨some (c+2), .indexA z (.tmp c) (.tmp (c+1)),none⟩])++(rI (c+2) x.p++[⟨some (c+3+x.p.length), .load false 1 (.tmp (c+2+x.p.length)),none⟩,⟨some (c+4+x.p.length), .mv (.tmp 1),none⟩]):=by
  simp only[T9,Zo,Zf,Zi]
 rw[hflat,bU _ _ _ a0,bU _ _ _ d1]
 simp only[ai,az,aK,bj,Opd.ev,getD_some d3,bo,hcut,put,q1]
theorem SV {call:Nat→List V→Option V}{rows:List (List PV)}{i c:Nat}{k:Int}{t:List V}{h:List AObj}(s:HdSt rows i k t)(h0:0≤k)(hk:k<sE)(hc:6≤c)(hl:c+1<t.length):
 ∃t',ai call (ML c) ⟨t,h⟩=some ⟨t',h⟩∧t'.length=t.length∧HdSt rows i (k+1) t':=by
 have e1:=getD_some s.t1
 have e2:(t.set c (aa .i64 k)).getD c (.tup [])=aa .i64 k:=aD (by omega)
 have hw:IntKind.i64.wrap (k+1)=k+1:=by rw[IntKind.wrap_i64];unfold sE at hk;omega
 have e3:((t.set c (aa .i64 k)).set (c+1) (aa .i64 (k+1))).getD (c+1) (.tup [])=aa .i64 (k+1):=aD (by simp;omega)
 refine⟨((t.set c (aa .i64 k)).set (c+1) (aa .i64 (k+1))).set 1 (aa .i64 (k+1)),?_,by simp,?_,?_,?_⟩
 ·simp only[ML,ai,az,aK,bj,Opd.ev,e1,put,e2,bin,if_true,bV,hw,e3]
 ·rw[Za (by omega),Za (by omega),Za (by omega)];exact s.t0
 ·exact Zd (by simp;omega)
 ·rw[Za (by omega),Za (by omega),Za (by omega)];exact s.t5
theorem Rq (hT:Cj Φ ext mT mt){rows:List (List PV)}{ty:PTy}{p:PV}{x:MC}{e:List PV}{z i c:Nat}{k:Int}{t:List V}(hp:nQ ty p)(hf:ty.flatT=true)(s:HdSt rows i k t)(h0:0≤k)(hk:k<sE)(hc:12≤c)(he:rows[i]? =some e)(hz:e.length=z)(hq:e[x.p.sum]? =some (kw mT p k).1)(hl:c+8+(Ds mt (c+2+x.p.length) ty).length+x.p.length≤t.length):
 ∃t',vR (ah Φ ext) aB (SS z mt c ty x) ⟨t,[]⟩=some ⟨t',[]⟩∧t'.length=t.length∧HdSt rows i (kw mT p k).2 t':=by
 obtain⟨t1,a1,a2,a3,a4,a5⟩:=Ob s he hz hq hc (by omega) (ah Φ ext)
 generalize hd:c+2+x.p.length=d at*
 rw[show c+3+x.p.length=d+1 by omega]at a3
 rw[show c+4+x.p.length=d+2 by omega]at a4
 obtain⟨t2,b1,b2,b3,b4⟩:=Sj (h:=[]) hT hp hf h0 hk a4 (by omega)
 generalize hv:d+2+(Ds mt d ty).length=v at*
 have b5:t2[d+1]? =some (.one (.pv (kw mT p k).1)):=(b4 (d+1) (by omega)).trans a3
 have c1:=P2 hp hf b5 b3 (ah Φ ext) []
 have q1:(t2.set (v+1) (av false)).getD (v+1) (.tup [])=av false:=aD (by omega)
 have low:∀n,n<c→(t2.set (v+1) (av false))[n]? =t[n]? :=fun n hn=>by rw[Za (by omega),b4 n (by omega),a5 n hn]
 obtain⟨t5,i1,i2,i3⟩:=SV (call:=ah Φ ext) (c:=v+2) (h:=[]) (⟨(low 0 (by omega)).trans s.t0,(low 1 (by omega)).trans s.t1,(low 5 (by omega)).trans s.t5⟩:HdSt rows i k (t2.set (v+1) (av false))) h0 hk (by omega) (by simp;omega)
 have f3:=(zf (mT:=mT) hp hf k).2.2
 refine⟨t5,?_,by rw[i2];simp;omega,by rw[f3];exact i3⟩
 have hops:ai (ah Φ ext) (T9 z c x++(Ds mt d ty++[⟨some (v+1),Hf ty (.tmp (d+1)) (.tmp v),none⟩])) ⟨t,[]⟩=some ⟨t2.set (v+1) (av false),[]⟩:=by
  rw[bU _ _ _ a1,bU _ _ _ b1]
  simp only[ai,az,aK,c1,put]
 simp only[SS,hd,hv,vR,aq,hops,Opd.ev,q1,isBool,Z0,if_false,i1]
def gG (Φ:Nat→Option AFn)(ext:Nat→List V→Option V)(mT:Int→List UInt8)(f:Nat)(ts:List PTy):Prop:=
 ∀rows:List (List PV),nQ (.lst ts) (.lst rows)→∀k:Int,0≤k→(bJ mT rows k).2≤sE→ah Φ ext f [ba (bJ mT rows k).1,aa .i64 k]=some (aa .i64 (bJ mT rows k).2)
theorem Rr {rows:List (List PV)}{us:List PTy}{ys:List (List PV)}{x:MC}{e:List PV}{z i c:Nat}{k:Int}{t:List V}(hO:gG Φ ext mT x.f us)(hp:nQ (.lst us) (.lst ys))(s:HdSt rows i k t)(h0:0≤k)(hk:(bJ mT ys k).2≤sE)(hc:12≤c)(he:rows[i]? =some e)(hz:e.length=z)(hq:e[x.p.sum]? =some (kw mT (.lst ys) k).1)(hl:c+8+x.p.length≤t.length):
 ∃t',vR (ah Φ ext) aB (T8 z c x) ⟨t,[]⟩=some ⟨t',[]⟩∧t'.length=t.length∧HdSt rows i (kw mT (.lst ys) k).2 t':=by
 obtain⟨t1,a1,a2,a3,a4,a5⟩:=Ob s he hz hq hc (by omega) (ah Φ ext)
 have hle:=jX mT ys k
 generalize hd:c+2+x.p.length=d at*
 rw[show c+3+x.p.length=d+1 by omega]at a3
 rw[show c+4+x.p.length=d+2 by omega]at a4
 simp only[kw]at a3⊢
 generalize hk2:(bJ mT ys k).2=k2 at*
 have hcall:=hO ys hp k h0 (by omega)
 rw[hk2]at hcall
 generalize (bJ mT ys k).1=ys' at*
 have e1:=getD_some a3
 have e2:=getD_some a4
 have q1:(t1.set (d+3) (aa .i64 k2)).getD (d+3) (.tup [])=aa .i64 k2:=aD (by omega)
 have hview:am [] [ba ys',aa .i64 k]=some [ba ys',aa .i64 k]:=rfl
 let t2:=(t1.set (d+3) (aa .i64 k2)).set 1 (aa .i64 k2)
 have hops:ai (ah Φ ext) (T9 z c x++[⟨some (d+3), .call x.f [.tmp (d+1), .tmp (d+2)] true false,none⟩,⟨some 1, .mv (.tmp (d+3)),none⟩]) ⟨t,[]⟩=some ⟨t2,[]⟩:=by
  rw[bU _ _ _ a1]
  have hvl:am [] [V.one (L.pv (PV.lst ys')),aa .i64 k]=some [ba ys',aa .i64 k]:=rfl
  simp only[ai,az,aK,bj,Bool.or_false,Bool.true_or,if_true,Zv,Yb,Opd.ev,e1,e2,hvl,hcall,V.flat,L.flat,Xo,Bool.and_false,Z0,if_false,dO,di,put,q1,t2]
 have l2:t2.length=t.length:=by simp[t2];omega
 have q2:t2.getD 1 (.tup [])=aa .i64 k2:=aD (by simp;omega)
 have q3:(t2.set (d+4) (aa .i64 k2)).getD (d+4) (.tup [])=aa .i64 k2:=aD (by omega)
 have q4:((t2.set (d+4) (aa .i64 k2)).set (d+5) (av false)).getD (d+5) (.tup [])=av false:=aD (by simp;omega)
 have hlt:decide (k2<0)=false:=decide_eq_false (by omega)
 refine⟨(t2.set (d+4) (aa .i64 k2)).set (d+5) (av false),?_,by simp;omega,?_,?_,?_⟩
 ·have h5:d+4+1=d+5:=by omega
  simp only[T8,hd,vR,aq,hops,pe,ai,az,aK,bj,Opd.ev,q2,put,q3,bin,if_true,bV,hlt,h5,q4,isBool,Z0,if_false]
 ·simp only[t2];rw[Za (by omega),Za (by omega),Za (by omega),Za (by omega)];exact(a5 0 (by omega)).trans s.t0
 ·rw[Za (by omega),Za (by omega)];exact Zd (by simp;omega)
 ·simp only[t2];rw[Za (by omega),Za (by omega),Za (by omega),Za (by omega)];exact(a5 5 (by omega)).trans s.t5
def Hs (Φ:Nat→Option AFn)(ext:Nat→List V→Option V)(mT:Int→List UInt8):Nat→List PTy→List MC→Prop
 |j, .lst us::ts,x::xs=>x.p.sum=j∧gG Φ ext mT x.f us∧Hs Φ ext mT (j+1) ts xs
 |j,_::ts,x::xs=>x.p.sum=j∧Hs Φ ext mT (j+1) ts xs
 |_,[],[]=>True
 |_,_,_=>False
theorem Dw :∀(ts:List PTy)(xs:List MC)(c:Nat),c≤qy mt c ts xs
 |[],_,c=>Zl _
 |_::_,[],c=>Zl _
 |t::ts,x::xs,c=>by
  simp only[qy]
  refine Zc ?_ (Dw ts xs _)
  cases t<;>simp only[I0]<;>omega
theorem N8 (hT:Cj Φ ext mT mt){rows:List (List PV)}{z i:Nat}:∀(ts:List PTy)(xs:List MC){c:Nat}{dn row:List PV}{k:Int}{t:List V},Hs Φ ext mT dn.length ts xs→bi ts row→rows[i]? =some (dn++(pw mT row k).1)→z=dn.length+ts.length→HdSt rows i k t→0≤k→(pw mT row k).2≤sE→12≤c→qy mt c ts xs≤t.length→
 ∃t',vR (ah Φ ext) aB (SU z mt c ts xs) ⟨t,[]⟩=some ⟨t',[]⟩∧t'.length=t.length∧HdSt rows i (pw mT row k).2 t'
 |[],xs,c,dn,row,k,t,hm,hr,hE,hz,s,h0,hk,hc,hl=>by
  obtain rfl:=fR hr
  cases xs<;>exact⟨t,rfl,rfl,by simpa only[pw]using s⟩
 |ty::ts,[],c,dn,row,k,t,hm,hr,hE,hz,s,h0,hk,hc,hl=>by cases ty<;>exact hm.elim
 |ty::ts,x::xs,c,dn,row,k,t,hm,hr,hE,hz,s,h0,hk,hc,hl=>by
  obtain⟨p,rest,rfl,hp,hr'⟩:=eA hr
  have hle:=Bj mT rest (kw mT p k).2
  have hlp:=M2 mT p k
  simp only[pw]at hk hE
  simp only[qy]at hl
  have hN:=Dw (mt:=mt) ts xs (I0 mt c ty x)
  have hnext:Hs Φ ext mT (dn++[(kw mT p k).1]).length ts xs:=by
   have:(dn++[(kw mT p k).1]).length=dn.length+1:=by simp
   rw[this]
   cases ty<;>first|exact hm.2|exact hm.2.2
  have hx:x.p.sum=dn.length:=by cases ty<;>exact hm.1
  have hel:(dn++(kw mT p k).1::(pw mT rest (kw mT p k).2).1).length=z:=by
   rw[hz,Zu,Zn,Oi,jM hr'];rfl
  have hq:(dn++(kw mT p k).1::(pw mT rest (kw mT p k).2).1)[x.p.sum]? =some (kw mT p k).1:=by rw[hx];exact Du
  have cell:∃t',vR (ah Φ ext) aB (T7 z mt c ty x) ⟨t,[]⟩=some ⟨t',[]⟩∧t'.length=t.length∧HdSt rows i (kw mT p k).2 t':=by
   by_cases hf:ty.flatT=true
   ·have hR:T7 z mt c ty x=SS z mt c ty x:=by cases ty<;>first|rfl|cases hf
    have hN':I0 mt c ty x=c+8+(Ds mt (c+2+x.p.length) ty).length+x.p.length:=by cases ty<;>first|rfl|cases hf
    rw[hR]
    have:=(zf (mT:=mT) hp hf k).2.2
    exact Rq hT hp hf s h0 (by omega) hc hE hel hq (by omega)
   ·cases ty with
    |lst us=>
     obtain⟨ys,rfl⟩:=nR hp
     have hN':I0 mt c (.lst us) x=c+8+x.p.length:=rfl
     have hk':(bJ mT ys k).2≤sE:=by simp only[kw]at hle hk;omega
     exact Rr hm.2.1 hp s h0 hk' hc hE hel hq (by omega)
    |_=>exact absurd rfl hf
  obtain⟨t1,e1,e2,e3⟩:=cell
  have hc':c≤I0 mt c ty x:=by cases ty<;>simp only[I0]<;>omega
  obtain⟨t2,f1,f2,f3⟩:=N8 hT (rows:=rows) (z:=z) (i:=i) ts xs (c:=I0 mt c ty x) (dn:=dn++[(kw mT p k).1]) (row:=rest) (k:=(kw mT p k).2) (t:=t1) hnext hr' (by rw[hE];simp) (by rw[hz];simp;omega) e3 (by omega) hk (by omega) (by omega)
  refine⟨t2,?_,by omega,by simp only[pw];exact f3⟩
  simp only[SU]
  rw[Lr e1,f1]
theorem PN (hT:Cj Φ ext mT mt){ts:List PTy}{xs:List MC}(hm:Hs Φ ext mT 0 ts xs){R:List (List PV)}(hR:R.length≤maxLen):∀(rest done:List (List PV))(k:Int)(t:List V),R=done++(bJ mT rest k).1→HdSt R done.length k t→(∀r∈rest,bi ts r)→0≤k→(bJ mT rest k).2≤sE→qy mt 12 ts xs≤t.length→
 ∃t',aB (aq (ah Φ ext) aB (KW mt ts xs)) ⟨t,[]⟩=some (.exit 0,⟨t',[]⟩)∧t'.length=t.length∧t'[1]? =some (aa .i64 (bJ mT rest k).2):=by
 intro rest
 have hN:=Dw (mt:=mt) ts xs 12
 have head:∀(n:Nat)(k:Int)(t:List V),HdSt R n k t→qy mt 12 ts xs≤t.length→∃t',aq (ah Φ ext) aB (BS 5 0 6) ⟨t,[]⟩=some (if n<R.length then .normal else .exit 0,⟨t',[]⟩)∧t'.length=t.length∧HdSt R n k t':=by
  intro n k t s hl
  let t1:=(((t.set 6 (aa .i64 n)).set 7 (ba R)).set 8 (aa .i64 R.length)).set 9 (av (decide (n<R.length)))
  have e0:=getD_some s.t5
  have e1:(t.set 6 (aa .i64 n)).getD 0 (.tup [])=ba R:=(dD (by omega)).trans (getD_some s.t0)
  have e2:((t.set 6 (aa .i64 n)).set 7 (ba R)).getD 7 (.tup [])=ba R:=aD (by simp;omega)
  have e3:(((t.set 6 (aa .i64 n)).set 7 (ba R)).set 8 (aa .i64 R.length)).getD 6 (.tup [])=aa .i64 n:=(dD (by omega)).trans ((dD (by omega)).trans (aD (by omega)))
  have e4:(((t.set 6 (aa .i64 n)).set 7 (ba R)).set 8 (aa .i64 R.length)).getD 8 (.tup [])=aa .i64 R.length:=aD (by simp;omega)
  have e5:t1.getD 9 (.tup [])=av (decide (n<R.length)):=aD (by simp;omega)
  have e6:asList [] (ba R)=some R:=rfl
  have e7:decide ((n:Int)<(R.length:Int))=decide (n<R.length):=by
   by_cases h:n<R.length
   ·rw[decide_eq_true h,decide_eq_true (by omega)]
   ·rw[decide_eq_false h,decide_eq_false (by omega)]
  refine⟨t1,?_,by simp[t1],?_,?_,?_⟩
  ·simp only[BS,aq,ai,az,aK,bj,Opd.ev,e0,put,e1,e2,e6,e3,e4,bin,if_true,bV,e7]
   have e5':=e5
   simp only[t1]at e5'
   rw[e5']
   by_cases h:n<R.length
   ·simp only[isBool,h,decide_true,if_true,t1]
   ·simp only[isBool,h,decide_false,Z0,if_false,t1]
  ·simp only[t1];rw[Za (by omega),Za (by omega),Za (by omega),Za (by omega)];exact s.t0
  ·simp only[t1];rw[Za (by omega),Za (by omega),Za (by omega),Za (by omega)];exact s.t1
  ·simp only[t1];rw[Za (by omega),Za (by omega),Za (by omega),Za (by omega)];exact s.t5
 induction rest with
 |nil=>
  intro done k t hRe s hr h0 hk hl
  simp only[bJ,Zz]at hRe
  obtain⟨t',a1,a2,a3⟩:=head done.length k t s hl
  refine⟨t',iO ?_ (by simp),a2,by simp only[bJ];exact a3.t1⟩
  have:¬done.length<R.length:=by rw[hRe];omega
  simp only[KW,aq,a1,this,if_false]
 |cons r rest ih=>
  intro done k t hRe s hr h0 hk hl
  obtain⟨t1,a1,a2,a3⟩:=head done.length k t s hl
  simp only[bJ]at hk hRe
  have hle:=jX mT rest (pw mT r k).2
  have hll:=Bj mT r k
  have hlt:done.length<R.length:=by rw[hRe];simp
  obtain⟨t2,b1,b2,b3⟩:=N8 hT (rows:=R) (z:=ts.length) (i:=done.length) ts xs (c:=12) (dn:=[]) (row:=r) (k:=k) (t:=t1) hm (hr r (by simp)) (by rw[hRe,Zh (Zl _),Y4];rfl) (by simp) a3 h0 (by omega) (Zl _) (by omega)
  have hw:=j4 (k:=done.length) (by unfold maxLen at hR;omega)
  let t3:=((t2.set 10 (aa .i64 done.length)).set 11 (aa .i64 ((done.length:Int)+1))).set 5 (aa .i64 ((done.length:Int)+1))
  have f0:=getD_some b3.t5
  have f1:(t2.set 10 (aa .i64 done.length)).getD 10 (.tup [])=aa .i64 done.length:=aD (by omega)
  have f2:((t2.set 10 (aa .i64 done.length)).set 11 (aa .i64 ((done.length:Int)+1))).getD 11 (.tup [])=aa .i64 ((done.length:Int)+1):=aD (by simp;omega)
  have f3:aq (ah Φ ext) aB (IZ 5 10) ⟨t2,[]⟩=some (.normal,⟨t3,[]⟩):=by
   simp only[IZ,aq,ai,az,aK,bj,Opd.ev,f0,put,f1,bin,if_true,bV,hw,f2,t3]
  have s3:HdSt R (done++[(pw mT r k).1]).length (pw mT r k).2 t3:=by
   have hlen1:(done++[(pw mT r k).1]).length=done.length+1:=by simp
   rw[hlen1]
   refine⟨?_,?_,?_⟩
   ·simp only[t3];rw[Za (by omega),Za (by omega),Za (by omega)];exact b3.t0
   ·simp only[t3];rw[Za (by omega),Za (by omega),Za (by omega)];exact b3.t1
   ·simp only[t3];exact Zd (by simp;omega)
  obtain⟨t4,g1,g2,g3⟩:=ih (done++[(pw mT r k).1]) (pw mT r k).2 t3 (by rw[hRe];simp) s3 (fun r m=>hr r (by simp[m])) (by omega) hk (by simp[t3];omega)
  refine⟨t4,(f7 (σ':=⟨t3,[]⟩) ?_).trans g1,by rw[g2];simp[t3];omega,by simp only[bJ];exact g3⟩
  have hb:=Lw b1
  simp only[KW,aq,a1,hlt,if_true,hb,f3]
theorem fb (hT:Cj Φ ext mT mt){f:Nat}{ts:List PTy}{xs:List MC}(hk:Φ f=some (iW mt ts xs))(hm:Hs Φ ext mT 0 ts xs):gG Φ ext mT f ts:=by
 have hN:=Dw (mt:=mt) ts xs 12
 obtain⟨m,hm'⟩:∃m,qy mt 12 ts xs+1-2=m+11:=⟨qy mt 12 ts xs-12,by omega⟩
 intro rows h k h0 hk2
 obtain⟨hl1,hr⟩:=aL h
 refine fC hk ?_
 have hst:start (iW mt ts xs) [ba (bJ mT rows k).1,aa .i64 k]=⟨ba (bJ mT rows k).1::aa .i64 k::List.replicate (m+11) (.tup []),[]⟩:=by
  simp only[start,iW,Zn,Z8,Zf,Zi,hm']
 let t0:List V:=ba (bJ mT rows k).1::aa .i64 k:: .tup []:: .tup []::aa .i64 0::aa .i64 0::List.replicate (m+7) (.tup [])
 have hl0:t0.length=qy mt 12 ts xs+1:=by simp[t0];omega
 obtain⟨t',a1,a2,a3⟩:=PN hT hm (R:=(bJ mT rows k).1) (by rw[Oj];exact hl1) rows [] k t0 (by simp) ⟨rfl,rfl,rfl⟩ hr h0 hk2 (by omega)
 have q1:t'.getD 1 (.tup [])=aa .i64 (bJ mT rows k).2:=getD_some a3
 have q2:(t'.set (qy mt 12 ts xs) (aa .i64 (bJ mT rows k).2)).getD (qy mt 12 ts xs) (.tup [])=aa .i64 (bJ mT rows k).2:=aD (by omega)
 have hend:aq (ah Φ ext) aB (.seq (.region [⟨some (qy mt 12 ts xs), .mv (.tmp 1),none⟩,⟨some 4, .mv (.tmp (qy mt 12 ts xs)),none⟩]) .ret) ⟨t',[]⟩=some (.ret,⟨(t'.set (qy mt 12 ts xs) (aa .i64 (bJ mT rows k).2)).set 4 (aa .i64 (bJ mT rows k).2),[]⟩):=by
  simp only[aq,ai,az,aK,bj,Opd.ev,q1,put,q2]
 have q3:((t'.set (qy mt 12 ts xs) (aa .i64 (bJ mT rows k).2)).set 4 (aa .i64 (bJ mT rows k).2)).getD 4 (.tup [])=aa .i64 (bJ mT rows k).2:=aD (by simp;omega)
 have hrun:fL Φ ext (iW mt ts xs).body (start (iW mt ts xs) [ba (bJ mT rows k).1,aa .i64 k])=some (.ret,⟨(t'.set (qy mt 12 ts xs) (aa .i64 (bJ mT rows k).2)).set 4 (aa .i64 (bJ mT rows k).2),[]⟩):=by
  rw[hst]
  generalize hec:ACode.seq (.region [⟨some (qy mt 12 ts xs), .mv (.tmp 1),none⟩,⟨some 4, .mv (.tmp (qy mt 12 ts xs)),none⟩]) .ret=ec at hend
  have hrep:List.replicate (m+11) (V.tup [])= .tup []:: .tup []:: .tup []:: .tup []::List.replicate (m+7) (.tup []):=rfl
  generalize hlp:aB (aq (ah Φ ext) aB (KW mt ts xs))=lp at a1
  simp only[t0]at a1
  simp only[fL,iW,hec,hrep,aq,ai,az,aK,bj,Opd.ev,put,Ys,Yd,hlp,a1,if_true]
  exact hend
 rw[hrun]
 simp only[done,iW,aY,ar,bQ,q3,Yl,Xa,Zz,V.cells,bM,comp,aJ,bH]
 rfl
end
def UM (c off:Nat)(g:Bool)(n f:Nat):List AOper:=[⟨some c, .fieldA (.tmp 2) off,none⟩,⟨some (c+1), .load g n (.tmp c),none⟩,⟨some (c+2), .mv (.tmp 1),none⟩,⟨some (c+3), .call f [.tmp (c+1), .tmp (c+2)] true false,none⟩,⟨some 1, .mv (.tmp (c+3)),none⟩]
def TC :Nat→Nat→List MS→ACode
 |c,_,[]=> .seq (.region [⟨some c, .mv (.tmp 1),none⟩,⟨some 4, .mv (.tmp c),none⟩]) .ret
 |c,off, .k ts::ss=>TC c (off+ts.length) ss
 |c,off, .s ts f::ss=> .seq (.region (UM c off true ts.length f)) (.seq (pe (c+4)) (TC (c+6) (off+ts.length) ss))
 |c,off, .l _ f::ss=> .seq (.region (UM c off false 1 f)) (.seq (pe (c+4)) (TC (c+6) (off+1) ss))
def Rs :Nat→List MS→Nat
 |c,[]=>c
 |c, .k _::ss=>Rs c ss
 |c,_::ss=>Rs (c+6) ss
def yE (ss:List MS):AFn:=⟨Rs 5 ss+1,[.tmp 4], .seq (.region [⟨some 2, .box (.tmp 0),none⟩,⟨some 4, .mv (.pv (.int .i64 0)),none⟩]) (TC 5 0 ss)⟩
theorem A3 :∀(ss:List MS)(c:Nat),c≤Rs c ss
 |[],c=>Zl _
 | .k ts::ss,c=>A3 ss c
 | .s ts f::ss,c=>Zc (by omega) (A3 ss (c+6))
 | .l us f::ss,c=>Zc (by omega) (A3 ss (c+6))
theorem Ol (mT:Int→List UInt8){ts:List PTy}{ps:List PV}(h:bi ts ps):∀k,(ft mT ps k).1.length=ts.length:=by
 refine f4 (P:=fun ts ps=>∀k,(ft mT ps k).1.length=ts.length) (fun _=>rfl) ?_ ?_ ts ps h
 ·intro us rows ts ps _ _ ih k
  simp only[ft,Zn,ih]
 ·intro t p ts ps _ ht hp _ ih k
  rw[qf mT hp]
  simp only[Zn,ih]
section
variable {Φ:Nat→Option AFn}{ext:Nat→List V→Option V}{mT:Int→List UInt8}
def OT (Φ:Nat→Option AFn)(ext:Nat→List V→Option V)(mT:Int→List UInt8)(f:Nat)(ts:List PTy):Prop:=
 ∀row:List PV,bi ts row→∀k:Int,0≤k→(ft mT row k).2≤sE→ah Φ ext f [.agg ((ft mT row k).1.map .pv),aa .i64 k]=some (aa .i64 (ft mT row k).2)
def J0 (Φ:Nat→Option AFn)(ext:Nat→List V→Option V)(mT:Int→List UInt8):List MS→Prop
 |[]=>True
 | .k ts::ss=>ts.all PTy.flatT=true∧J0 Φ ext mT ss
 | .s ts f::ss=>OT Φ ext mT f ts∧J0 Φ ext mT ss
 | .l us f::ss=>gG Φ ext mT f us∧J0 Φ ext mT ss
theorem N7 {g:Bool}{n f c:Nat}{A:List L}{off:Nat}{v:V}{k k2:Int}{t:List V}(h1:t[1]? =some (aa .i64 k))(h2:t[2]? =some (.one (.ptr 0 0 0)))(hc:5≤c)(hl:c+5<t.length)(hk2:0≤k2)
 (hcut:gn g n off A=some v) (hv:am [.box A] [v,aa .i64 k]=some [v,aa .i64 k]) (hcall:ah Φ ext f [v,aa .i64 k]=some (aa .i64 k2)) {lp}:
 ∃t',aq (ah Φ ext) lp (.seq (.region (UM c off g n f)) (pe (c+4))) ⟨t,[.box A]⟩=some (.normal,⟨t',[.box A]⟩)∧t'.length=t.length∧t'[1]? =some (aa .i64 k2)∧t'[2]? =some (.one (.ptr 0 0 0)):=by
 have e1:=getD_some h1
 have e2:=getD_some h2
 have q1:(t.set c (V.one (.ptr 0 0 off))).getD c (.tup [])= .one (.ptr 0 0 off):=aD (by omega)
 have q2:((t.set c (V.one (.ptr 0 0 off))).set (c+1) v).getD 1 (.tup [])=aa .i64 k:=(dD (by omega)).trans ((dD (by omega)).trans e1)
 have q3:(((t.set c (V.one (.ptr 0 0 off))).set (c+1) v).set (c+2) (aa .i64 k)).getD (c+1) (.tup [])=v:=(dD (by omega)).trans (aD (by simp;omega))
 have q4:(((t.set c (V.one (.ptr 0 0 off))).set (c+1) v).set (c+2) (aa .i64 k)).getD (c+2) (.tup [])=aa .i64 k:=aD (by simp;omega)
 have q5:((((t.set c (V.one (.ptr 0 0 off))).set (c+1) v).set (c+2) (aa .i64 k)).set (c+3) (aa .i64 k2)).getD (c+3) (.tup [])=aa .i64 k2:=aD (by simp;omega)
 let t1:=((((t.set c (V.one (.ptr 0 0 off))).set (c+1) v).set (c+2) (aa .i64 k)).set (c+3) (aa .i64 k2)).set 1 (aa .i64 k2)
 have r1:ai (ah Φ ext) (UM c off g n f) ⟨t,[.box A]⟩=some ⟨t1,[.box A]⟩:=by
  simp only[UM,ai,az,aK,bj,Opd.ev,e2,put,Yc,q1,bo,Yz,if_true,hcut,q2,Bool.or_false,Zv,Yb,q3,q4,hv,hcall,Bool.true_or,V.flat,L.flat,Xo,Bool.and_false,Z0,if_false,dO,di,q5,t1]
 have l1:t1.length=t.length:=by simp[t1]
 have g1:t1[1]? =some (aa .i64 k2):=Zd (by simp;omega)
 have g2:t1[2]? =some (.one (.ptr 0 0 0)):=by simp only[t1];rw[Za (by omega),Za (by omega),Za (by omega),Za (by omega),Za (by omega)];exact h2
 have r2:=Oo (call:=ah Φ ext) (lp:=lp) (h:=[.box A]) (c:=c+4) g1 (by omega) (by omega)
 refine⟨_,by simp only[aq,r1,r2];rfl,by simp;omega,?_,?_⟩
 ·rw[Za (by omega),Za (by omega)];exact g1
 ·rw[Za (by omega),Za (by omega)];exact g2
theorem Dv :∀(ss:List MS),J0 Φ ext mT ss→∀{c:Nat}{dn b:List PV}{k:Int}{t:List V},bi (gS ss) b→0≤k→(ft mT b k).2≤sE→t[1]? =some (aa .i64 k)→t[2]? =some (.one (.ptr 0 0 0))→5≤c→Rs c ss<t.length→
 ∃t' h',aq (ah Φ ext) aB (TC c dn.length ss) ⟨t,[.box ((dn++(ft mT b k).1).map .pv)]⟩=some (.ret,⟨t',h'⟩)∧t'.getD 4 (.tup [])=aa .i64 (ft mT b k).2
 |[],_,c,dn,b,k,t,hb,h0,hk,h1,h2,hc,hl=>by
  obtain rfl:=fR hb
  simp only[Rs]at hl
  have q2:(t.set c (aa .i64 k)).getD c (.tup [])=aa .i64 k:=aD hl
  refine⟨(t.set c (aa .i64 k)).set 4 (aa .i64 k),[.box ((dn++(ft mT [] k).1).map .pv)],?_,by simp only[ft];exact aD (by simp;omega)⟩
  simp only[TC,aq,ai,az,aK,bj,Opd.ev,getD_some h1,put,q2]
 | .k ts::ss,hss,c,dn,b,k,t,hb,h0,hk,h1,h2,hc,hl=>by
  simp only[gS,MS.ts]at hb
  obtain⟨x,y,rfl,hx,hy⟩:=kK (ts:=ts) hb
  have flat:∀{ts:List PTy}{x:List PV},bi ts x→ts.all PTy.flatT=true→∀k,ft mT x k=(x,k):=by
   intro ts x h
   refine f4 (P:=fun ts x=>ts.all PTy.flatT=true→∀k,ft mT x k=(x,k)) (fun _ _=>rfl) ?_ ?_ ts x h
   ·intro us rows ts ps _ _ _ ha
    simp[PTy.flatT]at ha
   ·intro t p ts ps _ ht hp _ ih ha
    simp only[Zq,Zm]at ha
    exact fun k=>by rw[qf mT hp,ih ha.2]
  have m0:=flat hx hss.1
  rw[lh,m0]at hk⊢
  have hlen:(dn++x).length=dn.length+ts.length:=by rw[Zu,jM hx]
  obtain⟨t',h',r1,r2⟩:=Dv ss hss.2 (c:=c) (dn:=dn++x) hy h0 hk h1 h2 hc hl
  rw[hlen,Zo]at r1
  exact⟨t',h',r1,r2⟩
 | .s ts f::ss,hss,c,dn,b,k,t,hb,h0,hk,h1,h2,hc,hl=>by
  simp only[gS,MS.ts]at hb
  obtain⟨x,y,rfl,hx,hy⟩:=kK (ts:=ts) hb
  have hN:=A3 ss (c+6)
  simp only[Rs]at hl
  rw[lh]at hk⊢
  have hle:=kI mT y (ft mT x k).2
  have hlx:=kI mT x k
  have hml:=Ol mT hx k
  simp only at hk hle
  have hcut:gn true ts.length dn.length ((dn++((ft mT x k).1++(ft mT y (ft mT x k).2).1)).map .pv)=some (.agg ((ft mT x k).1.map .pv)):=by rw[←hml];exact mf (agg:=true) (.inl rfl)
  obtain⟨t1,a1,a2,a3,a4⟩:=N7 (Φ:=Φ) (ext:=ext) (lp:=aB) h1 h2 hc (by omega) (by omega) hcut (by simp only[am,sC];rfl) (hss.1 x hx k h0 (by omega))
  have hlen:(dn++(ft mT x k).1).length=dn.length+ts.length:=by rw[Zu,hml]
  obtain⟨t2,h',b1,b2⟩:=Dv ss hss.2 (c:=c+6) (dn:=dn++(ft mT x k).1) (b:=y) (k:=(ft mT x k).2) (t:=t1) hy (by omega) hk a3 a4 (by omega) (by omega)
  refine⟨t2,h',?_,b2⟩
  rw[hlen,Zo]at b1
  simp only[aq]at a1
  simp only[TC,aq]
  split at a1
  ·rename_i σ1 e1
   simp only[e1,a1]
   exact b1
  ·exact absurd a1 (by intro h;simp_all)
 | .l us f::ss,hss,c,dn,b,k,t,hb,h0,hk,h1,h2,hc,hl=>by
  simp only[gS,MS.ts]at hb
  obtain⟨x,y,rfl,hx,hy⟩:=kK (ts:=[.lst us]) hb
  have hN:=A3 ss (c+6)
  simp only[Rs]at hl
  rw[lh]at hk⊢
  have hle:=kI mT y (ft mT x k).2
  have hlx:=kI mT x k
  have hml:=Ol mT hx k
  have hx':=hx
  obtain⟨p,x',rfl,hp,hn⟩:=eA hx'
  obtain rfl:=fR hn
  obtain⟨rows,rfl⟩:=nR hp
  simp only[ft]at hk hle hlx hml⊢
  have hcut:gn false 1 dn.length ((dn++([PV.lst (bJ mT rows k).1]++(ft mT y (bJ mT rows k).2).1)).map .pv)=some (.one (.pv (.lst (bJ mT rows k).1))):=mf (agg:=false) (a:=[.lst (bJ mT rows k).1]) (.inr rfl)
  obtain⟨t1,a1,a2,a3,a4⟩:=N7 (Φ:=Φ) (ext:=ext) (lp:=aB) h1 h2 hc (by omega) (by omega) hcut rfl (hss.1 rows hp k h0 (by omega))
  have hlen:(dn++[PV.lst (bJ mT rows k).1]).length=dn.length+1:=by simp
  obtain⟨t2,h',b1,b2⟩:=Dv ss hss.2 (c:=c+6) (dn:=dn++[PV.lst (bJ mT rows k).1]) (b:=y) (k:=(bJ mT rows k).2) (t:=t1) hy (by omega) hk a3 a4 (by omega) (by omega)
  refine⟨t2,h',?_,b2⟩
  rw[hlen,Zo]at b1
  simp only[aq]at a1
  simp only[TC,aq]
  split at a1
  ·rename_i σ1 e1
   simp only[e1,a1]
   exact b1
  ·exact absurd a1 (by intro h;simp_all)
theorem yF {f:Nat}{ss:List MS}(hk:Φ f=some (yE ss))(hss:J0 Φ ext mT ss):OT Φ ext mT f (gS ss):=by
 intro row hr k h0 hk2
 have hN:=A3 ss 5
 obtain⟨m,hm⟩:∃m,Rs 5 ss+1-2=m+4:=⟨Rs 5 ss-5,by omega⟩
 refine fC hk ?_
 have hpl:((ft mT row k).1.map L.pv).all plain=true:=by simp[plain]
 let t0:List V:= .agg ((ft mT row k).1.map .pv)::aa .i64 k:: .one (.ptr 0 0 0):: .tup []::aa .i64 0::List.replicate (m+1) (.tup [])
 have hl0:t0.length=Rs 5 ss+1:=by simp[t0];omega
 obtain⟨t',h',a1,a2⟩:=Dv (Φ:=Φ) (ext:=ext) ss hss (c:=5) (dn:=[]) (b:=row) (k:=k) (t:=t0) hr h0 hk2 rfl rfl (Zl _) (by omega)
 have hrep:List.replicate (m+4) (V.tup [])= .tup []:: .tup []:: .tup []::List.replicate (m+1) (.tup []):=rfl
 have hrun:fL Φ ext (yE ss).body (start (yE ss) [.agg ((ft mT row k).1.map .pv),aa .i64 k])=some (.ret,⟨t',h'⟩):=by
  simp only[t0,Z8,Zi]at a1
  simp only[fL,yE,start,Zn,Z8,Yc,Nat.reduceAdd,hm,Zf,Zi,hrep,aq,ai,az,aK,bj,cf,Opd.ev,put,Y8,V.cells,hpl,if_true,Ys,Yd]
  exact a1
 rw[hrun]
 simp only[done,yE,aY,ar,bQ,a2,Yl,Xa,Zz,V.cells,bM,comp,aJ,bH]
 rfl
end
end Gi
