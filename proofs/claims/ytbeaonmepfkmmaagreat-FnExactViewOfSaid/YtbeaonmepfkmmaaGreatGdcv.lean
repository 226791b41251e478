/- Of this proof. -/
import Derived.Test.YtbeaonmepfkmmaaGreatGpqv
import Derived.Test.YtbeaonmepfkmmaaGreatGivv
set_option linter.unusedSimpArgs false
set_option linter.unusedVariables false
namespace Gi
open Go Go.RowKit
def Tu :List ACode→ACode
 |[]=> .skip
 |[a]=>a
 |a::b::r=> .seq a (Tu (b::r))
def vj (call:Nat→List V→Option V)(lp:(St→Option (Ex×St))→St→Option (Ex×St)):List ACode→St→Option St
 |[],σ=>some σ
 |a::r,σ=>match aB call lp a σ with
  |some (.normal,σ')=>vj call lp r σ'
  |_=>none
theorem KX {call:Nat→List V→Option V}{lp:(St→Option (Ex×St))→St→Option (Ex×St)}:∀{xz:List ACode}{σ σ':St},vj call lp xz σ=some σ'→aB call lp (Tu xz) σ=some (.normal,σ')
 |[],σ,σ',h=>by simp only[vj]at h;cases h;rfl
 |[a],σ,σ',h=>by
  simp only[vj]at h
  split at h
  ·rename_i σ1 h1;cases h;exact h1
  ·cases h
 |a::b::r,σ,σ',h=>by
  rw[vj]at h
  split at h
  ·rename_i σ1 h1
   have:=KX (xz:=b::r) h
   simp only[Tu,aB,h1,this]
  ·cases h
theorem KT {call:Nat→List V→Option V}{lp:(St→Option (Ex×St))→St→Option (Ex×St)}:∀{xz bs:List ACode}{σ σ':St},vj call lp xz σ=some σ'→vj call lp (xz++bs) σ=vj call lp bs σ'
 |[],bs,σ,σ',h=>by simp only[vj]at h;cases h;rfl
 |a::xz,bs,σ,σ',h=>by
  simp only[vj,Zr]at h⊢
  split at h
  ·rename_i σ1 h1
   exact KT h
  ·cases h
def Ca (mt c:Nat):PTy→List AOper
 | .int .i64=>[]
 | .int κ=>[⟨some (c+3), .conv κ (.tmp (c+2)),none⟩]
 | .str=>[⟨some (c+3), .call mt [.tmp (c+2)] true true,none⟩]
 | .bool=>[⟨some (c+3), .bin .rem (.tmp (c+2)) (.pv (.int .i64 3)),none⟩,⟨some (c+4), .bin .eql (.tmp (c+3)) (.pv (.int .i64 0)),none⟩]
 | .lst _=>[]
def VO :ACode:= .seq (.region [⟨some 4, .mv (.pv (.int .i64 (-1))),none⟩]) .ret
def Uo (z c:Nat)(x:MC):List AOper:=NW c++(⟨some (c+2), .indexA z (.tmp c) (.tmp (c+1)),none⟩::(ro (c+2) x.p++[⟨some (c+3+x.p.length), .load false 1 (.tmp (c+2+x.p.length)),none⟩,⟨some (c+4+x.p.length), .mv (.tmp 1),none⟩]))
def S3 (z mt c:Nat)(t:PTy)(x:MC):List ACode:=
 let d:=c+2+x.p.length
 let v:=d+2+(Ca mt d t).length
 [.seq (.region (Uo z c x++(Ca mt d t++[⟨some (v+1),F2 t (.tmp (d+1)) (.tmp v),none⟩]))) (.cond (.tmp (v+1)) VO .skip), .region (Mb (v+2))]
def Un (z c:Nat)(x:MC):List ACode:=
 let d:=c+2+x.p.length
 [.region (Uo z c x++[⟨some (d+3), .call x.f [.tmp (d+1), .tmp (d+2)] true false,none⟩,⟨some 1, .mv (.tmp (d+3)),none⟩]),rh (d+4)]
def Um (z mt c:Nat):PTy→MC→List ACode
 | .lst _,x=>Un z c x
 |t,x=>S3 z mt c t x
def HY (mt c:Nat):PTy→MC→Nat
 | .lst _,x=>c+8+x.p.length
 |t,x=>c+8+(Ca mt (c+2+x.p.length) t).length+x.p.length
def S4 (z mt:Nat):Nat→List PTy→List MC→List ACode
 |c,t::ts,x::xs=>Um z mt c t x++S4 z mt (HY mt c t x) ts xs
 |_,_,_=>[]
def qv (mt:Nat):Nat→List PTy→List MC→Nat
 |c,t::ts,x::xs=>qv mt (HY mt c t x) ts xs
 |c,_,_=>c
def J8 (mt:Nat)(ts:List PTy)(xs:List MC):ACode:= .seq (GD 5 0 6) (.seq (.block 1 (Tu (S4 ts.length mt 12 ts xs))) (HW 5 10))
def AN (mt:Nat)(ts:List PTy)(xs:List MC):AFn:=⟨qv mt 12 ts xs+1,[.tmp 4], .seq (.region [⟨some 4, .mv (.pv (.int .i64 0)),none⟩]) (.seq (.seq (.region [⟨some 5, .mv (.pv (.int .i64 0)),none⟩]) (.block 0 (.loop (J8 mt ts xs)))) (.seq (.region [⟨some (qv mt 12 ts xs), .mv (.tmp 1),none⟩,⟨some 4, .mv (.tmp (qv mt 12 ts xs)),none⟩]) .ret))⟩
theorem Jv {call:Nat→List V→Option V}{e:List PV}:∀{p:List Nat}{c j:Nat}{t:List V}{h:List AObj},t[c]? =some (.one (.ip e j))→c+p.length<t.length→
 ∃t',am call (ro c p) ⟨t,h⟩=some ⟨t',h⟩∧t'.length=t.length∧t'[c+p.length]? =some (.one (.ip e (j+p.sum)))∧∀n≤c,t'[n]? =t[n]?
 |[],c,j,t,h,hc,hl=>⟨t,rfl,rfl,by simpa using hc,fun _ _=>rfl⟩
 |d::ds,c,j,t,h,hc,hl=>by
  simp only[Zo]at hl
  obtain⟨t',e1,e2,e3,e4⟩:=Jv (call:=call) (e:=e) (p:=ds) (c:=c+1) (j:=j+d) (t:=t.set (c+1) (.one (.ip e (j+d)))) (h:=h) (Zd (by omega)) (by simp;omega)
  refine⟨t',?_,by simpa using e2,?_,fun n hn=> ?_⟩
  ·simp only[ro,am,aK,aW,bo,Opd.ev,getD_some hc,put,e1]
  ·simp only[Zo,List.sum_cons]
   rw[show c+(ds.length+1)=c+1+ds.length by omega,e3,Nat.add_assoc]
  ·rw[e4 n (by omega),Za (by omega)]
section
variable {Φ:Nat→Option AFn}{ext:Nat→List V→Option V}{mT:Int→List UInt8}{mt:Nat}
theorem Sk (hT:Bb Φ ext mT mt){ty:PTy}{p:PV}(hp:oI ty p)(hf:ty.flatT=true){c:Nat}{k:Int}(h0:0≤k)(hk:k<BX){t:List V}{h:List AObj}(h2:t[c+2]? =some (ae .i64 k))(hl:c+2+(Ca mt c ty).length<t.length):
 ∃t',am (ah Φ ext) (Ca mt c ty) ⟨t,h⟩=some ⟨t',h⟩∧t'.length=t.length∧t'[c+2+(Ca mt c ty).length]? =some (.one (.pv (ky mT p k).1))∧∀n≤c+2,t'[n]? =t[n]? :=by
 have e2:=getD_some h2
 by_cases hs:ty= .str
 ·subst hs
  obtain⟨s,rfl⟩:=jY hp
  simp only[Ca,Z0]at hl⊢
  refine⟨t.set (c+3) (cU (mT k)),?_,by simp,by simp only[ky];exact Zd (by omega),fun n hn=>Za (by omega)⟩
  simp only[am,aK,aW,bo,Bool.or_self,Bool.true_or,if_true,Zu,Z4,Opd.ev,e2,az,V.view,L.view,hT k h0 (by omega),V.flat,L.flat,Bool.not_true,Bool.and_false,Z8,if_false,cT,cS,put]
 ·have:Ca mt c ty=vm mt c ty:=by
   cases ty with
   |int κ=>cases κ<;>rfl
   |str=>exact absurd rfl hs
   |_=>rfl
  rw[this]at hl⊢
  exact Ow hT hp hf h0 hk h2 hl
theorem PP {ty:PTy}{p:PV}(hp:oI ty p)(hf:ty.flatT=true){k:Int}{t:List V}{a b:Nat}(ha:t[a]? =some (.one (.pv (ky mT p k).1)))(hb:t[b]? =some (.one (.pv (ky mT p k).1)))(call:Nat→List V→Option V)(h:List AObj):bo call ⟨t,h⟩ (F2 ty (.tmp a) (.tmp b))=some (aF false):=by
 have e1:=getD_some ha
 have e2:=getD_some hb
 cases ty with
 |lst us=>cases hf
 |str=>
  obtain⟨s,rfl⟩:=jY hp
  simp only[F2,bo,Opd.ev,e1,e2]
  exact Ei rfl
 |int κ=>
  obtain⟨s,rfl⟩:=lX hp
  simp only[F2,bo,Opd.ev,e1,e2]
  exact Ei rfl
 |bool=>
  obtain⟨s,rfl⟩:=kH hp
  simp only[F2,bo,Opd.ev,e1,e2,ky,isBool]
  cases k.tmod 3==0<;>rfl
structure HdSt (rows:List (List PV)) (i:Nat) (k:Int) (t:List V):Prop where
 t0:t[0]? =some (aR rows)
 t1:t[1]? =some (ae .i64 k)
 t5:t[5]? =some (ae .i64 i)
theorem NL {rows:List (List PV)}{e:List PV}{q:PV}{x:MC}{z i c:Nat}{k:Int}{t:List V}(s:HdSt rows i k t)(he:rows[i]? =some e)(hz:e.length=z)(hq:e[x.p.sum]? =some q)(hc:12≤c)(hl:c+4+x.p.length<t.length)(call:Nat→List V→Option V):
 ∃t',am call (Uo z c x) ⟨t,[]⟩=some ⟨t',[]⟩∧t'.length=t.length∧t'[c+3+x.p.length]? =some (.one (.pv q))∧t'[c+4+x.p.length]? =some (ae .i64 k)∧∀n<c,t'[n]? =t[n]? :=by
 let t1:=((t.set c (aR rows)).set (c+1) (ae .i64 i)).set (c+2) (.one (.ip e 0))
 have a0:am call (NW c++[⟨some (c+2), .indexA z (.tmp c) (.tmp (c+1)),none⟩]) ⟨t,[]⟩=some ⟨t1,[]⟩:=by
  have e1:=getD_some s.t0
  have e2:(t.set c (aR rows)).getD 5 (.tup [])=ae .i64 i:=(dM (by omega)).trans (getD_some s.t5)
  have e3:((t.set c (aR rows)).set (c+1) (ae .i64 i)).getD c (.tup [])=aR rows:=(dM (by omega)).trans (aN (by omega))
  have e4:((t.set c (aR rows)).set (c+1) (ae .i64 i)).getD (c+1) (.tup [])=ae .i64 i:=aN (by simp;omega)
  simp only[NW,Zr,Zt,am,aK,aW,bo,Opd.ev,e1,put,e2,e3,e4,isInt,Int.natCast_nonneg,if_true,Int.toNat_natCast,aI,he,hz,t1]
 have l1:t1.length=t.length:=by simp[t1]
 have g1:∀n,n<c→t1[n]? =t[n]? :=fun n hn=>by simp only[t1];rw[Za (by omega),Za (by omega),Za (by omega)]
 have ge:t1[c+2]? =some (.one (.ip e 0)):=by simp only[t1];exact Zd (by simp;omega)
 clear_value t1
 obtain⟨t4,d1,d2,d3,d4⟩:=Jv (call:=call) (e:=e) (p:=x.p) (c:=c+2) (j:=0) (t:=t1) (h:=[]) ge (by omega)
 rw[Nat.zero_add]at d3
 have hcut:fT false 1 x.p.sum (e.map L.pv)=some (.one (.pv q)):=by
  have hlt:=(Zb.1 hq).1
  unfold fT
  rw[if_pos (by simp;omega)]
  simp[hq]
 have q1:(t4.set (c+3+x.p.length) (V.one (.pv q))).getD 1 (.tup [])=ae .i64 k:=(dM (by omega)).trans (getD_some ((d4 1 (by omega)).trans ((g1 1 (by omega)).trans s.t1)))
 refine⟨(t4.set (c+3+x.p.length) (.one (.pv q))).set (c+4+x.p.length) (ae .i64 k),?_,by simp;omega,by rw[Za (by omega)];exact Zd (by omega),Zd (by simp;omega),fun n hn=>by rw[Za (by omega),Za (by omega),d4 n (by omega),g1 n hn]⟩
 have hflat:Uo z c x=(NW c++[⟨some (c+2), .indexA z (.tmp c) (.tmp (c+1)),none⟩])++(ro (c+2) x.p++[⟨some (c+3+x.p.length), .load false 1 (.tmp (c+2+x.p.length)),none⟩,⟨some (c+4+x.p.length), .mv (.tmp 1),none⟩]):=by
  simp only[Uo,Zn,Zr,Zt]
 rw[hflat,bZ _ _ _ a0,bZ _ _ _ d1]
 simp only[am,aK,aW,bo,Opd.ev,getD_some d3,bi,hcut,put,q1]
theorem S5 {call:Nat→List V→Option V}{rows:List (List PV)}{i c:Nat}{k:Int}{t:List V}{h:List AObj}(s:HdSt rows i k t)(h0:0≤k)(hk:k<BX)(hc:6≤c)(hl:c+1<t.length):
 ∃t',am call (Mb c) ⟨t,h⟩=some ⟨t',h⟩∧t'.length=t.length∧HdSt rows i (k+1) t':=by
 have e1:=getD_some s.t1
 have e2:(t.set c (ae .i64 k)).getD c (.tup [])=ae .i64 k:=aN (by omega)
 have hw:IntKind.i64.wrap (k+1)=k+1:=by rw[IntKind.wrap_i64];unfold BX at hk;omega
 have e3:((t.set c (ae .i64 k)).set (c+1) (ae .i64 (k+1))).getD (c+1) (.tup [])=ae .i64 (k+1):=aN (by simp;omega)
 refine⟨((t.set c (ae .i64 k)).set (c+1) (ae .i64 (k+1))).set 1 (ae .i64 (k+1)),?_,by simp,?_,?_,?_⟩
 ·simp only[Mb,am,aK,aW,bo,Opd.ev,e1,put,e2,bin,if_true,cA,hw,e3]
 ·rw[Za (by omega),Za (by omega),Za (by omega)];exact s.t0
 ·exact Zd (by simp;omega)
 ·rw[Za (by omega),Za (by omega),Za (by omega)];exact s.t5
theorem Re (hT:Bb Φ ext mT mt){rows:List (List PV)}{ty:PTy}{p:PV}{x:MC}{e:List PV}{z i c:Nat}{k:Int}{t:List V}(hp:oI ty p)(hf:ty.flatT=true)(s:HdSt rows i k t)(h0:0≤k)(hk:k<BX)(hc:12≤c)(he:rows[i]? =some e)(hz:e.length=z)(hq:e[x.p.sum]? =some (ky mT p k).1)(hl:c+8+(Ca mt (c+2+x.p.length) ty).length+x.p.length≤t.length):
 ∃t',vj (ah Φ ext) aG (S3 z mt c ty x) ⟨t,[]⟩=some ⟨t',[]⟩∧t'.length=t.length∧HdSt rows i (ky mT p k).2 t':=by
 obtain⟨t1,a1,a2,a3,a4,a5⟩:=NL s he hz hq hc (by omega) (ah Φ ext)
 generalize hd:c+2+x.p.length=d at*
 rw[show c+3+x.p.length=d+1 by omega]at a3
 rw[show c+4+x.p.length=d+2 by omega]at a4
 obtain⟨t2,b1,b2,b3,b4⟩:=Sk (h:=[]) hT hp hf h0 hk a4 (by omega)
 generalize hv:d+2+(Ca mt d ty).length=v at*
 have b5:t2[d+1]? =some (.one (.pv (ky mT p k).1)):=(b4 (d+1) (by omega)).trans a3
 have c1:=PP hp hf b5 b3 (ah Φ ext) []
 have q1:(t2.set (v+1) (aF false)).getD (v+1) (.tup [])=aF false:=aN (by omega)
 have low:∀n,n<c→(t2.set (v+1) (aF false))[n]? =t[n]? :=fun n hn=>by rw[Za (by omega),b4 n (by omega),a5 n hn]
 obtain⟨t5,i1,i2,i3⟩:=S5 (call:=ah Φ ext) (c:=v+2) (h:=[]) (⟨(low 0 (by omega)).trans s.t0,(low 1 (by omega)).trans s.t1,(low 5 (by omega)).trans s.t5⟩:HdSt rows i k (t2.set (v+1) (aF false))) h0 hk (by omega) (by simp;omega)
 have f3:=(xX (mT:=mT) hp hf k).2.2
 refine⟨t5,?_,by rw[i2];simp;omega,by rw[f3];exact i3⟩
 have hops:am (ah Φ ext) (Uo z c x++(Ca mt d ty++[⟨some (v+1),F2 ty (.tmp (d+1)) (.tmp v),none⟩])) ⟨t,[]⟩=some ⟨t2.set (v+1) (aF false),[]⟩:=by
  rw[bZ _ _ _ a1,bZ _ _ _ b1]
  simp only[am,aK,aW,c1,put]
 simp only[S3,hd,hv,vj,aB,hops,Opd.ev,q1,isBool,Z8,if_false,i1]
def G5 (Φ:Nat→Option AFn)(ext:Nat→List V→Option V)(mT:Int→List UInt8)(f:Nat)(ts:List PTy):Prop:=
 ∀rows:List (List PV),oI (.lst ts) (.lst rows)→∀k:Int,0≤k→(gM mT rows k).2≤BX→ah Φ ext f [aR (gM mT rows k).1,ae .i64 k]=some (ae .i64 (gM mT rows k).2)
theorem Rf {rows:List (List PV)}{us:List PTy}{ys:List (List PV)}{x:MC}{e:List PV}{z i c:Nat}{k:Int}{t:List V}(hO:G5 Φ ext mT x.f us)(hp:oI (.lst us) (.lst ys))(s:HdSt rows i k t)(h0:0≤k)(hk:(gM mT ys k).2≤BX)(hc:12≤c)(he:rows[i]? =some e)(hz:e.length=z)(hq:e[x.p.sum]? =some (ky mT (.lst ys) k).1)(hl:c+8+x.p.length≤t.length):
 ∃t',vj (ah Φ ext) aG (Un z c x) ⟨t,[]⟩=some ⟨t',[]⟩∧t'.length=t.length∧HdSt rows i (ky mT (.lst ys) k).2 t':=by
 obtain⟨t1,a1,a2,a3,a4,a5⟩:=NL s he hz hq hc (by omega) (ah Φ ext)
 have hle:=wz mT ys k
 generalize hd:c+2+x.p.length=d at*
 rw[show c+3+x.p.length=d+1 by omega]at a3
 rw[show c+4+x.p.length=d+2 by omega]at a4
 simp only[ky]at a3⊢
 generalize hk2:(gM mT ys k).2=k2 at*
 have hcall:=hO ys hp k h0 (by omega)
 rw[hk2]at hcall
 generalize (gM mT ys k).1=ys' at*
 have e1:=getD_some a3
 have e2:=getD_some a4
 have q1:(t1.set (d+3) (ae .i64 k2)).getD (d+3) (.tup [])=ae .i64 k2:=aN (by omega)
 have hview:az [] [aR ys',ae .i64 k]=some [aR ys',ae .i64 k]:=rfl
 let t2:=(t1.set (d+3) (ae .i64 k2)).set 1 (ae .i64 k2)
 have hops:am (ah Φ ext) (Uo z c x++[⟨some (d+3), .call x.f [.tmp (d+1), .tmp (d+2)] true false,none⟩,⟨some 1, .mv (.tmp (d+3)),none⟩]) ⟨t,[]⟩=some ⟨t2,[]⟩:=by
  rw[bZ _ _ _ a1]
  have hvl:az [] [V.one (L.pv (PV.lst ys')),ae .i64 k]=some [aR ys',ae .i64 k]:=rfl
  simp only[am,aK,aW,bo,Bool.or_false,Bool.true_or,if_true,Zu,Z4,Opd.ev,e1,e2,hvl,hcall,V.flat,L.flat,Bool.not_true,Bool.and_false,Z8,if_false,cT,cS,put,q1,t2]
 have l2:t2.length=t.length:=by simp[t2];omega
 have q2:t2.getD 1 (.tup [])=ae .i64 k2:=aN (by simp;omega)
 have q3:(t2.set (d+4) (ae .i64 k2)).getD (d+4) (.tup [])=ae .i64 k2:=aN (by omega)
 have q4:((t2.set (d+4) (ae .i64 k2)).set (d+5) (aF false)).getD (d+5) (.tup [])=aF false:=aN (by simp;omega)
 have hlt:decide (k2<0)=false:=decide_eq_false (by omega)
 refine⟨(t2.set (d+4) (ae .i64 k2)).set (d+5) (aF false),?_,by simp;omega,?_,?_,?_⟩
 ·have h5:d+4+1=d+5:=by omega
  simp only[Un,hd,vj,aB,hops,rh,am,aK,aW,bo,Opd.ev,q2,put,q3,bin,if_true,cA,hlt,h5,q4,isBool,Z8,if_false]
 ·simp only[t2];rw[Za (by omega),Za (by omega),Za (by omega),Za (by omega)];exact(a5 0 (by omega)).trans s.t0
 ·rw[Za (by omega),Za (by omega)];exact Zd (by simp;omega)
 ·simp only[t2];rw[Za (by omega),Za (by omega),Za (by omega),Za (by omega)];exact(a5 5 (by omega)).trans s.t5
def Gj (Φ:Nat→Option AFn)(ext:Nat→List V→Option V)(mT:Int→List UInt8):Nat→List PTy→List MC→Prop
 |j, .lst us::ts,x::xs=>x.p.sum=j∧G5 Φ ext mT x.f us∧Gj Φ ext mT (j+1) ts xs
 |j,_::ts,x::xs=>x.p.sum=j∧Gj Φ ext mT (j+1) ts xs
 |_,[],[]=>True
 |_,_,_=>False
theorem Ce :∀(ts:List PTy)(xs:List MC)(c:Nat),c≤qv mt c ts xs
 |[],_,c=>Zk _
 |_::_,[],c=>Zk _
 |t::ts,x::xs,c=>by
  simp only[qv]
  refine Zc ?_ (Ce ts xs _)
  cases t<;>simp only[HY]<;>omega
theorem NJ (hT:Bb Φ ext mT mt){rows:List (List PV)}{z i:Nat}:∀(ts:List PTy)(xs:List MC){c:Nat}{dn row:List PV}{k:Int}{t:List V},Gj Φ ext mT dn.length ts xs→bF ts row→rows[i]? =some (dn++(o8 mT row k).1)→z=dn.length+ts.length→HdSt rows i k t→0≤k→(o8 mT row k).2≤BX→12≤c→qv mt c ts xs≤t.length→
 ∃t',vj (ah Φ ext) aG (S4 z mt c ts xs) ⟨t,[]⟩=some ⟨t',[]⟩∧t'.length=t.length∧HdSt rows i (o8 mT row k).2 t'
 |[],xs,c,dn,row,k,t,hm,hr,hE,hz,s,h0,hk,hc,hl=>by
  obtain rfl:=fL hr
  cases xs<;>exact⟨t,rfl,rfl,by simpa only[o8]using s⟩
 |ty::ts,[],c,dn,row,k,t,hm,hr,hE,hz,s,h0,hk,hc,hl=>by cases ty<;>exact hm.elim
 |ty::ts,x::xs,c,dn,row,k,t,hm,hr,hE,hz,s,h0,hk,hc,hl=>by
  obtain⟨p,rest,rfl,hp,hr'⟩:=dO hr
  have hle:=Ad mT rest (ky mT p k).2
  have hlp:=Mp mT p k
  simp only[o8]at hk hE
  simp only[qv]at hl
  have hN:=Ce (mt:=mt) ts xs (HY mt c ty x)
  have hnext:Gj Φ ext mT (dn++[(ky mT p k).1]).length ts xs:=by
   have:(dn++[(ky mT p k).1]).length=dn.length+1:=by simp
   rw[this]
   cases ty<;>first|exact hm.2|exact hm.2.2
  have hx:x.p.sum=dn.length:=by cases ty<;>exact hm.1
  have hel:(dn++(ky mT p k).1::(o8 mT rest (ky mT p k).2).1).length=z:=by
   rw[hz,Zp,Zo,NT,kG hr'];rfl
  have hq:(dn++(ky mT p k).1::(o8 mT rest (ky mT p k).2).1)[x.p.sum]? =some (ky mT p k).1:=by rw[hx];exact Cd
  have cell:∃t',vj (ah Φ ext) aG (Um z mt c ty x) ⟨t,[]⟩=some ⟨t',[]⟩∧t'.length=t.length∧HdSt rows i (ky mT p k).2 t':=by
   by_cases hf:ty.flatT=true
   ·have hR:Um z mt c ty x=S3 z mt c ty x:=by cases ty<;>first|rfl|cases hf
    have hN':HY mt c ty x=c+8+(Ca mt (c+2+x.p.length) ty).length+x.p.length:=by cases ty<;>first|rfl|cases hf
    rw[hR]
    have:=(xX (mT:=mT) hp hf k).2.2
    exact Re hT hp hf s h0 (by omega) hc hE hel hq (by omega)
   ·cases ty with
    |lst us=>
     obtain⟨ys,rfl⟩:=oJ hp
     have hN':HY mt c (.lst us) x=c+8+x.p.length:=rfl
     have hk':(gM mT ys k).2≤BX:=by simp only[ky]at hle hk;omega
     exact Rf hm.2.1 hp s h0 hk' hc hE hel hq (by omega)
    |_=>exact absurd rfl hf
  obtain⟨t1,e1,e2,e3⟩:=cell
  have hc':c≤HY mt c ty x:=by cases ty<;>simp only[HY]<;>omega
  obtain⟨t2,f1,f2,f3⟩:=NJ hT (rows:=rows) (z:=z) (i:=i) ts xs (c:=HY mt c ty x) (dn:=dn++[(ky mT p k).1]) (row:=rest) (k:=(ky mT p k).2) (t:=t1) hnext hr' (by rw[hE];simp) (by rw[hz];simp;omega) e3 (by omega) hk (by omega) (by omega)
  refine⟨t2,?_,by omega,by simp only[o8];exact f3⟩
  simp only[S4]
  rw[KT e1,f1]
theorem Pu (hT:Bb Φ ext mT mt){ts:List PTy}{xs:List MC}(hm:Gj Φ ext mT 0 ts xs){R:List (List PV)}(hR:R.length≤maxLen):∀(rest done:List (List PV))(k:Int)(t:List V),R=done++(gM mT rest k).1→HdSt R done.length k t→(∀r∈rest,bF ts r)→0≤k→(gM mT rest k).2≤BX→qv mt 12 ts xs≤t.length→
 ∃t',aG (aB (ah Φ ext) aG (J8 mt ts xs)) ⟨t,[]⟩=some (.exit 0,⟨t',[]⟩)∧t'.length=t.length∧t'[1]? =some (ae .i64 (gM mT rest k).2):=by
 intro rest
 have hN:=Ce (mt:=mt) ts xs 12
 have head:∀(n:Nat)(k:Int)(t:List V),HdSt R n k t→qv mt 12 ts xs≤t.length→∃t',aB (ah Φ ext) aG (GD 5 0 6) ⟨t,[]⟩=some (if n<R.length then .normal else .exit 0,⟨t',[]⟩)∧t'.length=t.length∧HdSt R n k t':=by
  intro n k t s hl
  let t1:=(((t.set 6 (ae .i64 n)).set 7 (aR R)).set 8 (ae .i64 R.length)).set 9 (aF (decide (n<R.length)))
  have e0:=getD_some s.t5
  have e1:(t.set 6 (ae .i64 n)).getD 0 (.tup [])=aR R:=(dM (by omega)).trans (getD_some s.t0)
  have e2:((t.set 6 (ae .i64 n)).set 7 (aR R)).getD 7 (.tup [])=aR R:=aN (by simp;omega)
  have e3:(((t.set 6 (ae .i64 n)).set 7 (aR R)).set 8 (ae .i64 R.length)).getD 6 (.tup [])=ae .i64 n:=(dM (by omega)).trans ((dM (by omega)).trans (aN (by omega)))
  have e4:(((t.set 6 (ae .i64 n)).set 7 (aR R)).set 8 (ae .i64 R.length)).getD 8 (.tup [])=ae .i64 R.length:=aN (by simp;omega)
  have e5:t1.getD 9 (.tup [])=aF (decide (n<R.length)):=aN (by simp;omega)
  have e6:asList [] (aR R)=some R:=rfl
  have e7:decide ((n:Int)<(R.length:Int))=decide (n<R.length):=by
   by_cases h:n<R.length
   ·rw[decide_eq_true h,decide_eq_true (by omega)]
   ·rw[decide_eq_false h,decide_eq_false (by omega)]
  refine⟨t1,?_,by simp[t1],?_,?_,?_⟩
  ·simp only[GD,aB,am,aK,aW,bo,Opd.ev,e0,put,e1,e2,e6,e3,e4,bin,if_true,cA,e7]
   have e5':=e5
   simp only[t1]at e5'
   rw[e5']
   by_cases h:n<R.length
   ·simp only[isBool,h,decide_true,if_true,t1]
   ·simp only[isBool,h,decide_false,Z8,if_false,t1]
  ·simp only[t1];rw[Za (by omega),Za (by omega),Za (by omega),Za (by omega)];exact s.t0
  ·simp only[t1];rw[Za (by omega),Za (by omega),Za (by omega),Za (by omega)];exact s.t1
  ·simp only[t1];rw[Za (by omega),Za (by omega),Za (by omega),Za (by omega)];exact s.t5
 induction rest with
 |nil=>
  intro done k t hRe s hr h0 hk hl
  simp only[gM,Z3]at hRe
  obtain⟨t',a1,a2,a3⟩:=head done.length k t s hl
  refine⟨t',iG ?_ (by simp),a2,by simp only[gM];exact a3.t1⟩
  have:¬done.length<R.length:=by rw[hRe];omega
  simp only[J8,aB,a1,this,if_false]
 |cons r rest ih=>
  intro done k t hRe s hr h0 hk hl
  obtain⟨t1,a1,a2,a3⟩:=head done.length k t s hl
  simp only[gM]at hk hRe
  have hle:=wz mT rest (o8 mT r k).2
  have hll:=Ad mT r k
  have hlt:done.length<R.length:=by rw[hRe];simp
  obtain⟨t2,b1,b2,b3⟩:=NJ hT (rows:=R) (z:=ts.length) (i:=done.length) ts xs (c:=12) (dn:=[]) (row:=r) (k:=k) (t:=t1) hm (hr r (by simp)) (by rw[hRe,Zj (Zk _),Nat.sub_self];rfl) (by simp) a3 h0 (by omega) (Zk _) (by omega)
  have hw:=jW (k:=done.length) (by unfold maxLen at hR;omega)
  let t3:=((t2.set 10 (ae .i64 done.length)).set 11 (ae .i64 ((done.length:Int)+1))).set 5 (ae .i64 ((done.length:Int)+1))
  have f0:=getD_some b3.t5
  have f1:(t2.set 10 (ae .i64 done.length)).getD 10 (.tup [])=ae .i64 done.length:=aN (by omega)
  have f2:((t2.set 10 (ae .i64 done.length)).set 11 (ae .i64 ((done.length:Int)+1))).getD 11 (.tup [])=ae .i64 ((done.length:Int)+1):=aN (by simp;omega)
  have f3:aB (ah Φ ext) aG (HW 5 10) ⟨t2,[]⟩=some (.normal,⟨t3,[]⟩):=by
   simp only[HW,aB,am,aK,aW,bo,Opd.ev,f0,put,f1,bin,if_true,cA,hw,f2,t3]
  have s3:HdSt R (done++[(o8 mT r k).1]).length (o8 mT r k).2 t3:=by
   have hlen1:(done++[(o8 mT r k).1]).length=done.length+1:=by simp
   rw[hlen1]
   refine⟨?_,?_,?_⟩
   ·simp only[t3];rw[Za (by omega),Za (by omega),Za (by omega)];exact b3.t0
   ·simp only[t3];rw[Za (by omega),Za (by omega),Za (by omega)];exact b3.t1
   ·simp only[t3];exact Zd (by simp;omega)
  obtain⟨t4,g1,g2,g3⟩:=ih (done++[(o8 mT r k).1]) (o8 mT r k).2 t3 (by rw[hRe];simp) s3 (fun r m=>hr r (by simp[m])) (by omega) hk (by simp[t3];omega)
  refine⟨t4,(fJ (σ':=⟨t3,[]⟩) ?_).trans g1,by rw[g2];simp[t3];omega,by simp only[gM];exact g3⟩
  have hb:=KX b1
  simp only[J8,aB,a1,hlt,if_true,hb,f3]
theorem Rg (hT:Bb Φ ext mT mt){f:Nat}{ts:List PTy}{xs:List MC}(hk:Φ f=some (AN mt ts xs))(hm:Gj Φ ext mT 0 ts xs):G5 Φ ext mT f ts:=by
 have hN:=Ce (mt:=mt) ts xs 12
 obtain⟨m,hm'⟩:∃m,qv mt 12 ts xs+1-2=m+11:=⟨qv mt 12 ts xs-12,by omega⟩
 intro rows h k h0 hk2
 obtain⟨hl1,hr⟩:=aX h
 refine fy hk ?_
 have hst:start (AN mt ts xs) [aR (gM mT rows k).1,ae .i64 k]=⟨aR (gM mT rows k).1::ae .i64 k::List.replicate (m+11) (.tup []),[]⟩:=by
  simp only[start,AN,Zo,List.length_nil,Zr,Zt,hm']
 let t0:List V:=aR (gM mT rows k).1::ae .i64 k:: .tup []:: .tup []::ae .i64 0::ae .i64 0::List.replicate (m+7) (.tup [])
 have hl0:t0.length=qv mt 12 ts xs+1:=by simp[t0];omega
 obtain⟨t',a1,a2,a3⟩:=Pu hT hm (R:=(gM mT rows k).1) (by rw[NU];exact hl1) rows [] k t0 (by simp) ⟨rfl,rfl,rfl⟩ hr h0 hk2 (by omega)
 have q1:t'.getD 1 (.tup [])=ae .i64 (gM mT rows k).2:=getD_some a3
 have q2:(t'.set (qv mt 12 ts xs) (ae .i64 (gM mT rows k).2)).getD (qv mt 12 ts xs) (.tup [])=ae .i64 (gM mT rows k).2:=aN (by omega)
 have hend:aB (ah Φ ext) aG (.seq (.region [⟨some (qv mt 12 ts xs), .mv (.tmp 1),none⟩,⟨some 4, .mv (.tmp (qv mt 12 ts xs)),none⟩]) .ret) ⟨t',[]⟩=some (.ret,⟨(t'.set (qv mt 12 ts xs) (ae .i64 (gM mT rows k).2)).set 4 (ae .i64 (gM mT rows k).2),[]⟩):=by
  simp only[aB,am,aK,aW,bo,Opd.ev,q1,put,q2]
 have q3:((t'.set (qv mt 12 ts xs) (ae .i64 (gM mT rows k).2)).set 4 (ae .i64 (gM mT rows k).2)).getD 4 (.tup [])=ae .i64 (gM mT rows k).2:=aN (by simp;omega)
 have hrun:f8 Φ ext (AN mt ts xs).body (start (AN mt ts xs) [aR (gM mT rows k).1,ae .i64 k])=some (.ret,⟨(t'.set (qv mt 12 ts xs) (ae .i64 (gM mT rows k).2)).set 4 (ae .i64 (gM mT rows k).2),[]⟩):=by
  rw[hst]
  generalize hec:ACode.seq (.region [⟨some (qv mt 12 ts xs), .mv (.tmp 1),none⟩,⟨some 4, .mv (.tmp (qv mt 12 ts xs)),none⟩]) .ret=ec at hend
  have hrep:List.replicate (m+11) (V.tup [])= .tup []:: .tup []:: .tup []:: .tup []::List.replicate (m+7) (.tup []):=rfl
  generalize hlp:aG (aB (ah Φ ext) aG (J8 mt ts xs))=lp at a1
  simp only[t0]at a1
  simp only[f8,AN,hec,hrep,aB,am,aK,aW,bo,Opd.ev,put,List.set_cons_succ,List.set_cons_zero,hlp,a1,if_true]
  exact hend
 rw[hrun]
 simp only[done,AN,aS,aA,cN,q3,List.flatMap_cons,List.flatMap_nil,Z3,V.cells,bJ,comp,aM,bA]
 rfl
end
end Gi
namespace Gi
open Go
def rM (m x:Nat):Nat×Nat:=(x%m,x/m)
def VZ (r:Nat):Nat→Nat→Nat→Nat→Nat×Nat
 |0,a,_,x=>(a,x)
 |k+1,a,m,x=>VZ r k (a+m*(x%r)) (m*r) (x/r)
def rG (r t x:Nat):Nat×Nat:=bif Nat.blt (x%r) t then(x%r,x/r)else VZ r (bif Nat.blt (x%r-t) 7 then x%r-t+1 else 13) t 1 (x/r)
def rN (x:Nat):Nat×Nat:=rG 32 24 x
def rQ (x:Nat):Nat×Nat:=rG 64 56 x
def rT (x:Nat):Bool×Nat:=(Nat.beq (x%2) 1,x/2)
def rL {α:Type}(f:Nat→α×Nat):Nat→Nat→List α×Nat
 |0,x=>([],x)
 |n+1,x=>match f x with|(a,y)=>match rL f n y with|(xz,z)=>(a::xz,z)
def GI {α:Type}(f:Nat→α×Nat)(x:Nat):List α×Nat:=match rN x with|(n,y)=>rL f n y
def rK :Nat→IntKind
 |0=> .i64
 |1=> .u8
 |2=> .i32
 |3=> .u32
 |4=> .u64
 |5=> .i8
 |6=> .i16
 |_=> .u16
@[irreducible] def zi (n:Nat):Int:=n
@[irreducible] def zm (n:Nat):Int:= -n
@[irreducible] def zu (n:Nat):UInt8:=UInt8.ofNat n
def rP (x:Nat):PV×Nat:=match x%64 with
 |5=>match rN (x/512)with|(n,y)=>(.int (rK (x/64%8)) (zi n),y)
 |6=>match rN (x/512)with|(n,y)=>(.int (rK (x/64%8)) (zm n),y)
 |7=>(.bool true,x/64)
 |8=>(.bool false,x/64)
 |9=>match GI (fun x=>(zu (x%256),x/256)) (x/64)with|(s,y)=>(.str s,y)
 |_=>(.lst [],x/64)
def rO (x:Nat):Opd×Nat:=match rQ x with
 |(k,y)=>bif Nat.blt k 12 then(match k with
  |0=>(.nil,y)
  |10=>match rN y with|(n,z)=>(.fn n,z)
  |_=>match rP x with|(p,z)=>(.pv p,z))else(.tmp (k-12),y)
def Vr (x:Nat):L×Nat:=match x%64 with
 |0=>(.nil,x/64)
 |_=>match rP x with|(p,z)=>(.pv p,z)
def UJ (x:Nat):Option Opd×Nat:=match x%2 with
 |0=>(none,x/2)
 |_=>match rO (x/2)with|(o,y)=>(some o,y)
def Wh (x:Nat):EK×Nat:=(match x%3 with
 |0=> .b
 |1=> .i
 |_=> .s,x/3)
def Wg (x:Nat):BinOp:=match x with
 |0=> .add
 |1=> .sub
 |2=> .mul
 |3=> .quo
 |4=> .rem
 |5=> .and
 |6=> .or
 |7=> .eql
 |8=> .neq
 |9=> .lss
 |10=> .leq
 |11=> .gtr
 |12=> .geq
 |13=> .shl
 |_=> .shr
def r2 {α β:Type}(f:Nat→α×Nat)(g:Nat→β×Nat)(x:Nat):(α×β)×Nat:=match f x with|(a,y)=>match g y with|(b,z)=>((a,b),z)
def rA (x:Nat):AOp×Nat:=match x%59,x/59 with
 |0,x=>match rO x with|(a,x)=>(.mv a,x)
 |1,x=>match rT x with|(g,x)=>match rN x with|(n,x)=>match rO x with|(a,x)=>(.load g n a,x)
 |2,x=>match rO x with|(a,x)=>match rN x with|(n,x)=>(.fieldA a n,x)
 |3,x=>match rM 15 x with|(o,x)=>match rO x with|(a,x)=>match rO x with|(b,x)=>(.bin (Wg o) a b,x)
 |4,x=>match rN x with|(f,x)=>match GI rO x with|(xz,x)=>match rT x with|(p,x)=>match rT x with|(q,x)=>(.call f xz p q,x)
 |5,x=>match rO x with|(a,x)=>(.box a,x)
 |6,x=>match rO x with|(a,x)=>(.len a,x)
 |7,x=>match rN x with|(n,x)=>match rO x with|(a,x)=>match rO x with|(b,x)=>(.store n a b,x)
 |8,x=>match rN x with|(n,x)=>match rO x with|(a,x)=>match rO x with|(b,x)=>(.indexA n a b,x)
 |9,x=>match rO x with|(a,x)=>match rO x with|(b,x)=>match rO x with|(c,x)=>(.pick a b c,x)
 |10,x=>match rT x with|(g,x)=>match rO x with|(a,x)=>(.un (bif g then .neg else .not) a,x)
 |11,x=>match GI Vr x with|(cs,x)=>(.alloc cs,x)
 |12,x=>match rO x with|(a,x)=>match rN x with|(n,x)=>(.extract a n,x)
 |13,x=>match rN x with|(n,x)=>match GI rO x with|(xz,x)=>(.buildS n xz,x)
 |14,x=>match rO x with|(a,x)=>(.lenS a,x)
 |15,x=>match rN x with|(n,x)=>match rN x with|(m,x)=>match rO x with|(a,x)=>match rO x with|(b,x)=>(.append n m a b,x)
 |16,x=>match GI Vr x with|(cs,x)=>match GI (fun x=>match rN x with|(i,x)=>match rN x with|(n,x)=>match rO x with|(a,x)=>((i,n,a),x)) x with|(ps,x)=>(.build cs ps,x)
 |17,x=>match rN x with|(n,x)=>match GI rP x with|(ps,x)=>match rO x with|(a,x)=>(.make n ps a,x)
 |18,x=>match rT x with|(g,x)=>match rO x with|(a,x)=>match rO x with|(b,x)=>(.eqB g a b,x)
 |19,x=>match rN x with|(n,x)=>match GI rO x with|(xz,x)=>(.callD n xz,x)
 |20,x=>match rO x with|(a,x)=>match rO x with|(b,x)=>(.indexS a b,x)
 |21,x=>match rM 8 x with|(k,x)=>match rO x with|(a,x)=>(.conv (rK k) a,x)
 |22,x=>match rT x with|(g,x)=>match rN x with|(n,x)=>match rO x with|(a,x)=>(.loadB g n a,x)
 |23,x=>match rO x with|(a,x)=>match GI rO x with|(xz,x)=>(.callV a xz,x)
 |24,x=>match rN x with|(n,x)=>match GI rO x with|(xz,x)=>(.mkfn n xz,x)
 |25,x=>match rT x with|(g,x)=>match GI Wh x with|(ks,x)=>match rO x with|(a,x)=>match rO x with|(b,x)=>(.eqS g ks a b,x)
 |26,x=>match rN x with|(n,x)=>match rO x with|(a,x)=>match UJ x with|(l,x)=>match UJ x with|(h,x)=>(.slcL n a l h,x)
 |27,x=>match rO x with|(a,x)=>(.s2b a,x)
 |28,x=>match rN x with|(n,x)=>match rO x with|(a,x)=>match UJ x with|(l,x)=>match UJ x with|(h,x)=>(.slcF n a l h,x)
 |29,x=>match rN x with|(n,x)=>(.allocT n,x)
 |30,x=>match rN x with|(n,x)=>match rO x with|(a,x)=>match rO x with|(b,x)=>(.storeT n a b,x)
 |31,x=>match rT x with|(g,x)=>match rN x with|(n,x)=>match rO x with|(a,x)=>(.loadA g n a,x)
 |32,x=>match rN x with|(n,x)=>match rO x with|(a,x)=>match rO x with|(b,x)=>(.storeB n a b,x)
 |33,x=>match rN x with|(k,x)=>match rN x with|(n,x)=>match rN x with|(m,x)=>match rO x with|(a,x)=>match rO x with|(b,x)=>match rO x with|(c,x)=>(.insert k n m a b c,x)
 |34,x=>match rO x with|(a,x)=>match rO x with|(b,x)=>(.mget a b,x)
 |35,x=>match rO x with|(a,x)=>(.b2s a,x)
 |36,x=>match rN x with|(n,x)=>match rO x with|(a,x)=>match rO x with|(b,x)=>(.appendS n a b,x)
 |38,x=>match rO x with|(a,x)=>match rO x with|(b,x)=>match rO x with|(c,x)=>(.mset a b c,x)
 |39,x=>match rN x with|(n,x)=>match GI rO x with|(xz,x)=>(.buildF n xz,x)
 |40,x=>match rT x with|(g,x)=>match rO x with|(a,x)=>match rO x with|(b,x)=>(.mm g a b,x)
 |41,x=>match rO x with|(a,x)=>match UJ x with|(l,x)=>match UJ x with|(h,x)=>(.slcS a l h,x)
 |42,x=>match rO x with|(a,x)=>match rT x with|(g,x)=>match rN x with|(n,x)=>match rN x with|(m,x)=>(.field a g n m,x)
 |43,x=>match rN x with|(n,x)=>match rO x with|(a,x)=>match rO x with|(b,x)=>(.storeD n a b,x)
 |44,x=>match rN x with|(n,x)=>match GI rO x with|(xz,x)=>(.buildD n xz,x)
 |45,x=>match rN x with|(n,x)=>match rN x with|(m,x)=>match rO x with|(a,x)=>match rO x with|(b,x)=>(.appendD n m a b,x)
 |46,x=>match rN x with|(n,x)=>match GI rO x with|(xz,x)=>(.callC n xz,x)
 |47,x=>match rO x with|(a,x)=>(.lenZ a,x)
 |48,x=>match rN x with|(n,x)=>match rO x with|(a,x)=>match rO x with|(b,x)=>(.indexZ n a b,x)
 |49,x=>match rT x with|(g,x)=>match rN x with|(n,x)=>match rO x with|(a,x)=>(.loadZ g n a,x)
 |50,x=>match rN x with|(n,x)=>match rO x with|(a,x)=>match rO x with|(b,x)=>(.storeZ n a b,x)
 |51,x=>match rN x with|(n,x)=>match GI rO x with|(xz,x)=>(.callF n xz,x)
 |52,x=>match rN x with|(n,x)=>match GI rO x with|(xz,x)=>(.callZ n xz,x)
 |53,x=>match rN x with|(n,x)=>match rO x with|(a,x)=>match rO x with|(b,x)=>(.callM n a b,x)
 |54,x=>match GI Vr x with|(cs,x)=>(.allocW cs,x)
 |55,x=>match rN x with|(n,x)=>match GI Vr x with|(cs,x)=>(.allocAt n cs,x)
 |56,x=>match rN x with|(k,x)=>match rN x with|(n,x)=>match rO x with|(a,x)=>match rO x with|(b,x)=>(.delF k n a b,x)
 |57,x=>match rT x with|(g,x)=>match rN x with|(n,x)=>match rO x with|(a,x)=>match rN x with|(r,x)=>(.loadN g n a r,x)
 |58,x=>match rN x with|(n,x)=>match rN x with|(z,x)=>match rO x with|(a,x)=>match rO x with|(b,x)=>(.indexP n z a b,x)
 |_,x=>(.mkmap,x)
def Wi (x:Nat):AOper×Nat:=match x%6,x/6 with
 |0,x=>match rA x with|(o,x)=>(⟨none,o,none⟩,x)
 |1,x=>match rQ x with|(d,x)=>match rA x with|(o,x)=>(⟨some d,o,none⟩,x)
 |2,x=>match rQ x with|(q,x)=>match rA x with|(o,x)=>(⟨none,o,some (q,true)⟩,x)
 |3,x=>match rQ x with|(d,x)=>match rQ x with|(q,x)=>match rA x with|(o,x)=>(⟨some d,o,some (q,true)⟩,x)
 |4,x=>match rQ x with|(q,x)=>match rA x with|(o,x)=>(⟨none,o,some (q,false)⟩,x)
 |_,x=>match rQ x with|(d,x)=>match rQ x with|(q,x)=>match rA x with|(o,x)=>(⟨some d,o,some (q,false)⟩,x)
def rC (bs:List ACode):Nat→Nat→ACode×Nat
 |0,x=>(.skip,x)
 |n+1,x=>match x%8,x/8 with
  |0,x=>(.skip,x)
  |1,x=>(.ret,x)
  |2,x=>match GI Wi x with|(os,x)=>(.region os,x)
  |3,x=>match rC bs n x with|(a,x)=>match rC bs n x with|(b,x)=>(.seq a b,x)
  |4,x=>match rO x with|(c,x)=>match rC bs n x with|(a,x)=>match rC bs n x with|(b,x)=>(.cond c a b,x)
  |5,x=>match rN x with|(i,x)=>match rC bs n x with|(a,x)=>(.block i a,x)
  |6,x=>match rN x with|(i,x)=>(.exit i,x)
  |_,x=>match rN x with|(i,x)=>(.loop (bs.getD i .skip),x)
def rF (bs:List ACode)(x:Nat):AFn:=match rN x with
 |(n,x)=>match GI (fun x=>match x%2,x/2 with
  |0,x=>match rN x with|(t,x)=>(ARes.tmp t,x)
  |_,x=>match rN x with|(t,x)=>match rN x with|(n,x)=>(ARes.cell t n,x)) x with
  |(rs,x)=>⟨n,rs,(rC bs 60 x).1⟩
def rD (bs:List ACode)(x:Nat):ACode:=(rC bs 60 x).1
theorem T1 (n:Nat):zi n=(n:Int):=by unfold zi;rfl
theorem T2 (n:Nat):zm n= -(n:Int):=by unfold zm;rfl
theorem T3 (n:Nat):zu n=UInt8.ofNat n:=by unfold zu;rfl
structure RF (bs:List ACode) (n:Nat) where
 v:AFn
 h:rF bs n=v:=by conv=>lhs;reduce;simp only[T1,T2,T3,Int.cast_ofNat_Int,UInt8.reduceOfNat]
structure RD (bs:List ACode) (n:Nat) where
 v:ACode
 h:rD bs n=v:=by conv=>lhs;reduce;simp only[T1,T2,T3,Int.cast_ofNat_Int,UInt8.reduceOfNat]
end Gi
