/- Of this proof. -/
import Derived.Test.YtebnmoogdmpepaaGreatGpq
set_option linter.unusedSimpArgs false
set_option linter.unusedVariables false
namespace Gi
open Go Go.RowKit
def TU :List ACode→ACode
 |[]=> .skip
 |[a]=>a
 |a::b::r=> .seq a (TU (b::r))
def wS (call:Nat→List V→Option V)(lp:(St→Option (Ex×St))→St→Option (Ex×St)):List ACode→St→Option St
 |[],σ=>some σ
 |a::r,σ=>match aw call lp a σ with
  |some (.normal,σ')=>wS call lp r σ'
  |_=>none
theorem L2 {call:Nat→List V→Option V}{lp:(St→Option (Ex×St))→St→Option (Ex×St)}:∀{xz:List ACode}{σ σ':St},wS call lp xz σ=some σ'→aw call lp (TU xz) σ=some (.normal,σ')
 |[],σ,σ',h=>by simp only[wS]at h;cases h;rfl
 |[a],σ,σ',h=>by
  simp only[wS]at h
  split at h
  ·rename_i σ1 h1;cases h;exact h1
  ·cases h
 |a::b::r,σ,σ',h=>by
  rw[wS]at h
  split at h
  ·rename_i σ1 h1
   have:=L2 (xz:=b::r) h
   simp only[TU,aw,h1,this]
  ·cases h
theorem LX {call:Nat→List V→Option V}{lp:(St→Option (Ex×St))→St→Option (Ex×St)}:∀{xz bs:List ACode}{σ σ':St},wS call lp xz σ=some σ'→wS call lp (xz++bs) σ=wS call lp bs σ'
 |[],bs,σ,σ',h=>by simp only[wS]at h;cases h;rfl
 |a::xz,bs,σ,σ',h=>by
  simp only[wS,Zg]at h⊢
  split at h
  ·rename_i σ1 h1
   exact LX h
  ·cases h
def DL (mt c:Nat):PTy→List AOper
 | .int .i64=>[]
 | .int κ=>[⟨some (c+3), .conv κ (.tmp (c+2)),none⟩]
 | .str=>[⟨some (c+3), .call mt [.tmp (c+2)] true true,none⟩]
 | .bool=>[⟨some (c+3), .bin .rem (.tmp (c+2)) (.pv (.int .i64 3)),none⟩,⟨some (c+4), .bin .eql (.tmp (c+3)) (.pv (.int .i64 0)),none⟩]
 | .lst _=>[]
def VZ :ACode:= .seq (.region [⟨some 4, .mv (.pv (.int .i64 (-1))),none⟩]) .ret
def UE (z c:Nat)(x:MC):List AOper:=OY c++(⟨some (c+2), .indexA z (.tmp c) (.tmp (c+1)),none⟩::(sS (c+2) x.p++[⟨some (c+3+x.p.length), .load false 1 (.tmp (c+2+x.p.length)),none⟩,⟨some (c+4+x.p.length), .mv (.tmp 1),none⟩]))
def Tt (z mt c:Nat)(t:PTy)(x:MC):List ACode:=
 let d:=c+2+x.p.length
 let v:=d+2+(DL mt d t).length
 [.seq (.region (UE z c x++(DL mt d t++[⟨some (v+1),Hx t (.tmp (d+1)) (.tmp v),none⟩]))) (.cond (.tmp (v+1)) VZ .skip), .region (No (v+2))]
def UD (z c:Nat)(x:MC):List ACode:=
 let d:=c+2+x.p.length
 [.region (UE z c x++[⟨some (d+3), .call x.f [.tmp (d+1), .tmp (d+2)] true false,none⟩,⟨some 1, .mv (.tmp (d+3)),none⟩]),pV (d+4)]
def UC (z mt c:Nat):PTy→MC→List ACode
 | .lst _,x=>UD z c x
 |t,x=>Tt z mt c t x
def Jk (mt c:Nat):PTy→MC→Nat
 | .lst _,x=>c+8+x.p.length
 |t,x=>c+8+(DL mt (c+2+x.p.length) t).length+x.p.length
def Tu (z mt:Nat):Nat→List PTy→List MC→List ACode
 |c,t::ts,x::xs=>UC z mt c t x++Tu z mt (Jk mt c t x) ts xs
 |_,_,_=>[]
def rz (mt:Nat):Nat→List PTy→List MC→Nat
 |c,t::ts,x::xs=>rz mt (Jk mt c t x) ts xs
 |c,_,_=>c
def Lm (mt:Nat)(ts:List PTy)(xs:List MC):ACode:= .seq (H9 5 0 6) (.seq (.block 1 (TU (Tu ts.length mt 12 ts xs))) (Ji 5 10))
def jo (mt:Nat)(ts:List PTy)(xs:List MC):AFn:=⟨rz mt 12 ts xs+1,[.tmp 4], .seq (.region [⟨some 4, .mv (.pv (.int .i64 0)),none⟩]) (.seq (.seq (.region [⟨some 5, .mv (.pv (.int .i64 0)),none⟩]) (.block 0 (.loop (Lm mt ts xs)))) (.seq (.region [⟨some (rz mt 12 ts xs), .mv (.tmp 1),none⟩,⟨some 4, .mv (.tmp (rz mt 12 ts xs)),none⟩]) .ret))⟩
theorem KJ {call:Nat→List V→Option V}{e:List PV}:∀{p:List Nat}{c j:Nat}{t:List V}{h:List AObj},t[c]? =some (.one (.ip e j))→c+p.length<t.length→
 ∃t',ah call (sS c p) ⟨t,h⟩=some ⟨t',h⟩∧t'.length=t.length∧t'[c+p.length]? =some (.one (.ip e (j+p.sum)))∧∀n≤c,t'[n]? =t[n]?
 |[],c,j,t,h,hc,hl=>⟨t,rfl,rfl,by simpa using hc,fun _ _=>rfl⟩
 |d::ds,c,j,t,h,hc,hl=>by
  simp only[Zo]at hl
  obtain⟨t',e1,e2,e3,e4⟩:=KJ (call:=call) (e:=e) (p:=ds) (c:=c+1) (j:=j+d) (t:=t.set (c+1) (.one (.ip e (j+d)))) (h:=h) (Zd (by omega)) (by simp;omega)
  refine⟨t',?_,by simpa using e2,?_,fun n hn=> ?_⟩
  ·simp only[sS,ah,aJ,bf,bJ,Opd.ev,getD_some hc,put,e1]
  ·simp only[Zo,List.sum_cons]
   rw[show c+(ds.length+1)=c+1+ds.length by omega,e3,Xn]
  ·rw[e4 n (by omega),Za (by omega)]
section
variable {Φ:Nat→Option AFn}{ext:Nat→List V→Option V}{mT:Int→List UInt8}{mt:Nat}
theorem SY (hT:CB Φ ext mT mt){ty:PTy}{p:PV}(hp:oQ ty p)(hf:ty.flatT=true){c:Nat}{k:Int}(h0:0≤k)(hk:k<xk){t:List V}{h:List AObj}(h2:t[c+2]? =some (aa .i64 k))(hl:c+2+(DL mt c ty).length<t.length):
 ∃t',ah (ag Φ ext) (DL mt c ty) ⟨t,h⟩=some ⟨t',h⟩∧t'.length=t.length∧t'[c+2+(DL mt c ty).length]? =some (.one (.pv (k7 mT p k).1))∧∀n≤c+2,t'[n]? =t[n]? :=by
 have e2:=getD_some h2
 by_cases hs:ty= .str
 ·subst hs
  obtain⟨s,rfl⟩:=kM hp
  simp only[DL,Z7]at hl⊢
  refine⟨t.set (c+3) (eB (mT k)),?_,by simp,by simp only[k7];exact Zd (by omega),fun n hn=>Za (by omega)⟩
  simp only[ah,aJ,bf,bJ,Bool.or_self,Bool.true_or,if_true,Zv,Z5,Opd.ev,e2,aj,V.view,L.view,hT k h0 (by omega),V.flat,L.flat,Xj,Xk,Zy,if_false,db,da,put]
 ·have:DL mt c ty=wX mt c ty:=by
   cases ty with
   |int κ=>cases κ<;>rfl
   |str=>exact absurd rfl hs
   |_=>rfl
  rw[this]at hl⊢
  exact Po hT hp hf h0 hk h2 hl
theorem QC {ty:PTy}{p:PV}(hp:oQ ty p)(hf:ty.flatT=true){k:Int}{t:List V}{a b:Nat}(ha:t[a]? =some (.one (.pv (k7 mT p k).1)))(hb:t[b]? =some (.one (.pv (k7 mT p k).1)))(call:Nat→List V→Option V)(h:List AObj):bJ call ⟨t,h⟩ (Hx ty (.tmp a) (.tmp b))=some (aA false):=by
 have e1:=getD_some ha
 have e2:=getD_some hb
 cases ty with
 |lst us=>cases hf
 |str=>
  obtain⟨s,rfl⟩:=kM hp
  simp only[Hx,bJ,Opd.ev,e1,e2]
  exact FP rfl
 |int κ=>
  obtain⟨s,rfl⟩:=mP hp
  simp only[Hx,bJ,Opd.ev,e1,e2]
  exact FP rfl
 |bool=>
  obtain⟨s,rfl⟩:=lB hp
  simp only[Hx,bJ,Opd.ev,e1,e2,k7,isBool]
  cases k.tmod 3==0<;>rfl
structure HdSt (rows:List (List PV)) (i:Nat) (k:Int) (t:List V):Prop where
 t0:t[0]? =some (cA rows)
 t1:t[1]? =some (aa .i64 k)
 t5:t[5]? =some (aa .i64 i)
theorem OM {rows:List (List PV)}{e:List PV}{q:PV}{x:MC}{z i c:Nat}{k:Int}{t:List V}(s:HdSt rows i k t)(he:rows[i]? =some e)(hz:e.length=z)(hq:e[x.p.sum]? =some q)(hc:12≤c)(hl:c+4+x.p.length<t.length)(call:Nat→List V→Option V):
 ∃t',ah call (UE z c x) ⟨t,[]⟩=some ⟨t',[]⟩∧t'.length=t.length∧t'[c+3+x.p.length]? =some (.one (.pv q))∧t'[c+4+x.p.length]? =some (aa .i64 k)∧∀n<c,t'[n]? =t[n]? :=by
 let t1:=((t.set c (cA rows)).set (c+1) (aa .i64 i)).set (c+2) (.one (.ip e 0))
 have a0:ah call (OY c++[⟨some (c+2), .indexA z (.tmp c) (.tmp (c+1)),none⟩]) ⟨t,[]⟩=some ⟨t1,[]⟩:=by
  have e1:=getD_some s.t0
  have e2:(t.set c (cA rows)).getD 5 (.tup [])=aa .i64 i:=(dQ (by omega)).trans (getD_some s.t5)
  have e3:((t.set c (cA rows)).set (c+1) (aa .i64 i)).getD c (.tup [])=cA rows:=(dQ (by omega)).trans (aO (by omega))
  have e4:((t.set c (cA rows)).set (c+1) (aa .i64 i)).getD (c+1) (.tup [])=aa .i64 i:=aO (by simp;omega)
  simp only[OY,Zg,Zi,ah,aJ,bf,bJ,Opd.ev,e1,put,e2,e3,e4,isInt,Int.natCast_nonneg,if_true,Int.toNat_natCast,aH,he,hz,t1]
 have l1:t1.length=t.length:=by simp[t1]
 have g1:∀n,n<c→t1[n]? =t[n]? :=fun n hn=>by simp only[t1];rw[Za (by omega),Za (by omega),Za (by omega)]
 have ge:t1[c+2]? =some (.one (.ip e 0)):=by simp only[t1];exact Zd (by simp;omega)
 clear_value t1
 obtain⟨t4,d1,d2,d3,d4⟩:=KJ (call:=call) (e:=e) (p:=x.p) (c:=c+2) (j:=0) (t:=t1) (h:=[]) ge (by omega)
 rw[Yc]at d3
 have hcut:fR false 1 x.p.sum (e.map L.pv)=some (.one (.pv q)):=by
  have hlt:=(Zb.1 hq).1
  unfold fR
  rw[if_pos (by simp;omega)]
  simp[hq]
 have q1:(t4.set (c+3+x.p.length) (V.one (.pv q))).getD 1 (.tup [])=aa .i64 k:=(dQ (by omega)).trans (getD_some ((d4 1 (by omega)).trans ((g1 1 (by omega)).trans s.t1)))
 refine⟨(t4.set (c+3+x.p.length) (.one (.pv q))).set (c+4+x.p.length) (aa .i64 k),?_,by simp;omega,by rw[Za (by omega)];exact Zd (by omega),Zd (by simp;omega),fun n hn=>by rw[Za (by omega),Za (by omega),d4 n (by omega),g1 n hn]⟩
 have hflat:UE z c x=(OY c++[⟨some (c+2), .indexA z (.tmp c) (.tmp (c+1)),none⟩])++(sS (c+2) x.p++[⟨some (c+3+x.p.length), .load false 1 (.tmp (c+2+x.p.length)),none⟩,⟨some (c+4+x.p.length), .mv (.tmp 1),none⟩]):=by
  simp only[UE,Zp,Zg,Zi]
 rw[hflat,cG _ _ _ a0,cG _ _ _ d1]
 simp only[ah,aJ,bf,bJ,Opd.ev,getD_some d3,bA,hcut,put,q1]
theorem Tv {call:Nat→List V→Option V}{rows:List (List PV)}{i c:Nat}{k:Int}{t:List V}{h:List AObj}(s:HdSt rows i k t)(h0:0≤k)(hk:k<xk)(hc:6≤c)(hl:c+1<t.length):
 ∃t',ah call (No c) ⟨t,h⟩=some ⟨t',h⟩∧t'.length=t.length∧HdSt rows i (k+1) t':=by
 have e1:=getD_some s.t1
 have e2:(t.set c (aa .i64 k)).getD c (.tup [])=aa .i64 k:=aO (by omega)
 have hw:IntKind.i64.wrap (k+1)=k+1:=by rw[IntKind.wrap_i64];unfold xk at hk;omega
 have e3:((t.set c (aa .i64 k)).set (c+1) (aa .i64 (k+1))).getD (c+1) (.tup [])=aa .i64 (k+1):=aO (by simp;omega)
 refine⟨((t.set c (aa .i64 k)).set (c+1) (aa .i64 (k+1))).set 1 (aa .i64 (k+1)),?_,by simp,?_,?_,?_⟩
 ·simp only[No,ah,aJ,bf,bJ,Opd.ev,e1,put,e2,bin,if_true,cK,hw,e3]
 ·rw[Za (by omega),Za (by omega),Za (by omega)];exact s.t0
 ·exact Zd (by simp;omega)
 ·rw[Za (by omega),Za (by omega),Za (by omega)];exact s.t5
theorem R3 (hT:CB Φ ext mT mt){rows:List (List PV)}{ty:PTy}{p:PV}{x:MC}{e:List PV}{z i c:Nat}{k:Int}{t:List V}(hp:oQ ty p)(hf:ty.flatT=true)(s:HdSt rows i k t)(h0:0≤k)(hk:k<xk)(hc:12≤c)(he:rows[i]? =some e)(hz:e.length=z)(hq:e[x.p.sum]? =some (k7 mT p k).1)(hl:c+8+(DL mt (c+2+x.p.length) ty).length+x.p.length≤t.length):
 ∃t',wS (ag Φ ext) aL (Tt z mt c ty x) ⟨t,[]⟩=some ⟨t',[]⟩∧t'.length=t.length∧HdSt rows i (k7 mT p k).2 t':=by
 obtain⟨t1,a1,a2,a3,a4,a5⟩:=OM s he hz hq hc (by omega) (ag Φ ext)
 generalize hd:c+2+x.p.length=d at*
 rw[show c+3+x.p.length=d+1 by omega]at a3
 rw[show c+4+x.p.length=d+2 by omega]at a4
 obtain⟨t2,b1,b2,b3,b4⟩:=SY (h:=[]) hT hp hf h0 hk a4 (by omega)
 generalize hv:d+2+(DL mt d ty).length=v at*
 have b5:t2[d+1]? =some (.one (.pv (k7 mT p k).1)):=(b4 (d+1) (by omega)).trans a3
 have c1:=QC hp hf b5 b3 (ag Φ ext) []
 have q1:(t2.set (v+1) (aA false)).getD (v+1) (.tup [])=aA false:=aO (by omega)
 have low:∀n,n<c→(t2.set (v+1) (aA false))[n]? =t[n]? :=fun n hn=>by rw[Za (by omega),b4 n (by omega),a5 n hn]
 obtain⟨t5,i1,i2,i3⟩:=Tv (call:=ag Φ ext) (c:=v+2) (h:=[]) (⟨(low 0 (by omega)).trans s.t0,(low 1 (by omega)).trans s.t1,(low 5 (by omega)).trans s.t5⟩:HdSt rows i k (t2.set (v+1) (aA false))) h0 hk (by omega) (by simp;omega)
 have f3:=(zS (mT:=mT) hp hf k).2.2
 refine⟨t5,?_,by rw[i2];simp;omega,by rw[f3];exact i3⟩
 have hops:ah (ag Φ ext) (UE z c x++(DL mt d ty++[⟨some (v+1),Hx ty (.tmp (d+1)) (.tmp v),none⟩])) ⟨t,[]⟩=some ⟨t2.set (v+1) (aA false),[]⟩:=by
  rw[cG _ _ _ a1,cG _ _ _ b1]
  simp only[ah,aJ,bf,c1,put]
 simp only[Tt,hd,hv,wS,aw,hops,Opd.ev,q1,isBool,Zy,if_false,i1]
def gX (Φ:Nat→Option AFn)(ext:Nat→List V→Option V)(mT:Int→List UInt8)(f:Nat)(ts:List PTy):Prop:=
 ∀rows:List (List PV),oQ (.lst ts) (.lst rows)→∀k:Int,0≤k→(cN mT rows k).2≤xk→ag Φ ext f [cA (cN mT rows k).1,aa .i64 k]=some (aa .i64 (cN mT rows k).2)
theorem R4 {rows:List (List PV)}{us:List PTy}{ys:List (List PV)}{x:MC}{e:List PV}{z i c:Nat}{k:Int}{t:List V}(hO:gX Φ ext mT x.f us)(hp:oQ (.lst us) (.lst ys))(s:HdSt rows i k t)(h0:0≤k)(hk:(cN mT ys k).2≤xk)(hc:12≤c)(he:rows[i]? =some e)(hz:e.length=z)(hq:e[x.p.sum]? =some (k7 mT (.lst ys) k).1)(hl:c+8+x.p.length≤t.length):
 ∃t',wS (ag Φ ext) aL (UD z c x) ⟨t,[]⟩=some ⟨t',[]⟩∧t'.length=t.length∧HdSt rows i (k7 mT (.lst ys) k).2 t':=by
 obtain⟨t1,a1,a2,a3,a4,a5⟩:=OM s he hz hq hc (by omega) (ag Φ ext)
 have hle:=pq mT ys k
 generalize hd:c+2+x.p.length=d at*
 rw[show c+3+x.p.length=d+1 by omega]at a3
 rw[show c+4+x.p.length=d+2 by omega]at a4
 simp only[k7]at a3⊢
 generalize hk2:(cN mT ys k).2=k2 at*
 have hcall:=hO ys hp k h0 (by omega)
 rw[hk2]at hcall
 generalize (cN mT ys k).1=ys' at*
 have e1:=getD_some a3
 have e2:=getD_some a4
 have q1:(t1.set (d+3) (aa .i64 k2)).getD (d+3) (.tup [])=aa .i64 k2:=aO (by omega)
 have hview:aj [] [cA ys',aa .i64 k]=some [cA ys',aa .i64 k]:=rfl
 let t2:=(t1.set (d+3) (aa .i64 k2)).set 1 (aa .i64 k2)
 have hops:ah (ag Φ ext) (UE z c x++[⟨some (d+3), .call x.f [.tmp (d+1), .tmp (d+2)] true false,none⟩,⟨some 1, .mv (.tmp (d+3)),none⟩]) ⟨t,[]⟩=some ⟨t2,[]⟩:=by
  rw[cG _ _ _ a1]
  have hvl:aj [] [V.one (L.pv (PV.lst ys')),aa .i64 k]=some [cA ys',aa .i64 k]:=rfl
  simp only[ah,aJ,bf,bJ,Bool.or_false,Bool.true_or,if_true,Zv,Z5,Opd.ev,e1,e2,hvl,hcall,V.flat,L.flat,Xj,Xk,Zy,if_false,db,da,put,q1,t2]
 have l2:t2.length=t.length:=by simp[t2];omega
 have q2:t2.getD 1 (.tup [])=aa .i64 k2:=aO (by simp;omega)
 have q3:(t2.set (d+4) (aa .i64 k2)).getD (d+4) (.tup [])=aa .i64 k2:=aO (by omega)
 have q4:((t2.set (d+4) (aa .i64 k2)).set (d+5) (aA false)).getD (d+5) (.tup [])=aA false:=aO (by simp;omega)
 have hlt:decide (k2<0)=false:=decide_eq_false (by omega)
 refine⟨(t2.set (d+4) (aa .i64 k2)).set (d+5) (aA false),?_,by simp;omega,?_,?_,?_⟩
 ·have h5:d+4+1=d+5:=by omega
  simp only[UD,hd,wS,aw,hops,pV,ah,aJ,bf,bJ,Opd.ev,q2,put,q3,bin,if_true,cK,hlt,h5,q4,isBool,Zy,if_false]
 ·simp only[t2];rw[Za (by omega),Za (by omega),Za (by omega),Za (by omega)];exact(a5 0 (by omega)).trans s.t0
 ·rw[Za (by omega),Za (by omega)];exact Zd (by simp;omega)
 ·simp only[t2];rw[Za (by omega),Za (by omega),Za (by omega),Za (by omega)];exact(a5 5 (by omega)).trans s.t5
def HQ (Φ:Nat→Option AFn)(ext:Nat→List V→Option V)(mT:Int→List UInt8):Nat→List PTy→List MC→Prop
 |j, .lst us::ts,x::xs=>x.p.sum=j∧gX Φ ext mT x.f us∧HQ Φ ext mT (j+1) ts xs
 |j,_::ts,x::xs=>x.p.sum=j∧HQ Φ ext mT (j+1) ts xs
 |_,[],[]=>True
 |_,_,_=>False
theorem DP :∀(ts:List PTy)(xs:List MC)(c:Nat),c≤rz mt c ts xs
 |[],_,c=>Zm _
 |_::_,[],c=>Zm _
 |t::ts,x::xs,c=>by
  simp only[rz]
  refine Zc ?_ (DP ts xs _)
  cases t<;>simp only[Jk]<;>omega
theorem OH (hT:CB Φ ext mT mt){rows:List (List PV)}{z i:Nat}:∀(ts:List PTy)(xs:List MC){c:Nat}{dn row:List PV}{k:Int}{t:List V},HQ Φ ext mT dn.length ts xs→bM ts row→rows[i]? =some (dn++(p9 mT row k).1)→z=dn.length+ts.length→HdSt rows i k t→0≤k→(p9 mT row k).2≤xk→12≤c→rz mt c ts xs≤t.length→
 ∃t',wS (ag Φ ext) aL (Tu z mt c ts xs) ⟨t,[]⟩=some ⟨t',[]⟩∧t'.length=t.length∧HdSt rows i (p9 mT row k).2 t'
 |[],xs,c,dn,row,k,t,hm,hr,hE,hz,s,h0,hk,hc,hl=>by
  obtain rfl:=fF hr
  cases xs<;>exact⟨t,rfl,rfl,by simpa only[p9]using s⟩
 |ty::ts,[],c,dn,row,k,t,hm,hr,hE,hz,s,h0,hk,hc,hl=>by cases ty<;>exact hm.elim
 |ty::ts,x::xs,c,dn,row,k,t,hm,hr,hE,hz,s,h0,hk,hc,hl=>by
  obtain⟨p,rest,rfl,hp,hr'⟩:=eD hr
  have hle:=BI mT rest (k7 mT p k).2
  have hlp:=Ny mT p k
  simp only[p9]at hk hE
  simp only[rz]at hl
  have hN:=DP (mt:=mt) ts xs (Jk mt c ty x)
  have hnext:HQ Φ ext mT (dn++[(k7 mT p k).1]).length ts xs:=by
   have:(dn++[(k7 mT p k).1]).length=dn.length+1:=by simp
   rw[this]
   cases ty<;>first|exact hm.2|exact hm.2.2
  have hx:x.p.sum=dn.length:=by cases ty<;>exact hm.1
  have hel:(dn++(k7 mT p k).1::(p9 mT rest (k7 mT p k).2).1).length=z:=by
   rw[hz,Zw,Zo,OT,km hr'];rfl
  have hq:(dn++(k7 mT p k).1::(p9 mT rest (k7 mT p k).2).1)[x.p.sum]? =some (k7 mT p k).1:=by rw[hx];exact DN
  have cell:∃t',wS (ag Φ ext) aL (UC z mt c ty x) ⟨t,[]⟩=some ⟨t',[]⟩∧t'.length=t.length∧HdSt rows i (k7 mT p k).2 t':=by
   by_cases hf:ty.flatT=true
   ·have hR:UC z mt c ty x=Tt z mt c ty x:=by cases ty<;>first|rfl|cases hf
    have hN':Jk mt c ty x=c+8+(DL mt (c+2+x.p.length) ty).length+x.p.length:=by cases ty<;>first|rfl|cases hf
    rw[hR]
    have:=(zS (mT:=mT) hp hf k).2.2
    exact R3 hT hp hf s h0 (by omega) hc hE hel hq (by omega)
   ·cases ty with
    |lst us=>
     obtain⟨ys,rfl⟩:=oE hp
     have hN':Jk mt c (.lst us) x=c+8+x.p.length:=rfl
     have hk':(cN mT ys k).2≤xk:=by simp only[k7]at hle hk;omega
     exact R4 hm.2.1 hp s h0 hk' hc hE hel hq (by omega)
    |_=>exact absurd rfl hf
  obtain⟨t1,e1,e2,e3⟩:=cell
  have hc':c≤Jk mt c ty x:=by cases ty<;>simp only[Jk]<;>omega
  obtain⟨t2,f1,f2,f3⟩:=OH hT (rows:=rows) (z:=z) (i:=i) ts xs (c:=Jk mt c ty x) (dn:=dn++[(k7 mT p k).1]) (row:=rest) (k:=(k7 mT p k).2) (t:=t1) hnext hr' (by rw[hE];simp) (by rw[hz];simp;omega) e3 (by omega) hk (by omega) (by omega)
  refine⟨t2,?_,by omega,by simp only[p9];exact f3⟩
  simp only[Tu]
  rw[LX e1,f1]
theorem Qn (hT:CB Φ ext mT mt){ts:List PTy}{xs:List MC}(hm:HQ Φ ext mT 0 ts xs){R:List (List PV)}(hR:R.length≤maxLen):∀(rest done:List (List PV))(k:Int)(t:List V),R=done++(cN mT rest k).1→HdSt R done.length k t→(∀r∈rest,bM ts r)→0≤k→(cN mT rest k).2≤xk→rz mt 12 ts xs≤t.length→
 ∃t',aL (aw (ag Φ ext) aL (Lm mt ts xs)) ⟨t,[]⟩=some (.exit 0,⟨t',[]⟩)∧t'.length=t.length∧t'[1]? =some (aa .i64 (cN mT rest k).2):=by
 intro rest
 have hN:=DP (mt:=mt) ts xs 12
 have head:∀(n:Nat)(k:Int)(t:List V),HdSt R n k t→rz mt 12 ts xs≤t.length→∃t',aw (ag Φ ext) aL (H9 5 0 6) ⟨t,[]⟩=some (if n<R.length then .normal else .exit 0,⟨t',[]⟩)∧t'.length=t.length∧HdSt R n k t':=by
  intro n k t s hl
  let t1:=(((t.set 6 (aa .i64 n)).set 7 (cA R)).set 8 (aa .i64 R.length)).set 9 (aA (decide (n<R.length)))
  have e0:=getD_some s.t5
  have e1:(t.set 6 (aa .i64 n)).getD 0 (.tup [])=cA R:=(dQ (by omega)).trans (getD_some s.t0)
  have e2:((t.set 6 (aa .i64 n)).set 7 (cA R)).getD 7 (.tup [])=cA R:=aO (by simp;omega)
  have e3:(((t.set 6 (aa .i64 n)).set 7 (cA R)).set 8 (aa .i64 R.length)).getD 6 (.tup [])=aa .i64 n:=(dQ (by omega)).trans ((dQ (by omega)).trans (aO (by omega)))
  have e4:(((t.set 6 (aa .i64 n)).set 7 (cA R)).set 8 (aa .i64 R.length)).getD 8 (.tup [])=aa .i64 R.length:=aO (by simp;omega)
  have e5:t1.getD 9 (.tup [])=aA (decide (n<R.length)):=aO (by simp;omega)
  have e6:asList [] (cA R)=some R:=rfl
  have e7:decide ((n:Int)<(R.length:Int))=decide (n<R.length):=by
   by_cases h:n<R.length
   ·rw[decide_eq_true h,decide_eq_true (by omega)]
   ·rw[decide_eq_false h,decide_eq_false (by omega)]
  refine⟨t1,?_,by simp[t1],?_,?_,?_⟩
  ·simp only[H9,aw,ah,aJ,bf,bJ,Opd.ev,e0,put,e1,e2,e6,e3,e4,bin,if_true,cK,e7]
   have e5':=e5
   simp only[t1]at e5'
   rw[e5']
   by_cases h:n<R.length
   ·simp only[isBool,h,decide_true,if_true,t1]
   ·simp only[isBool,h,decide_false,Zy,if_false,t1]
  ·simp only[t1];rw[Za (by omega),Za (by omega),Za (by omega),Za (by omega)];exact s.t0
  ·simp only[t1];rw[Za (by omega),Za (by omega),Za (by omega),Za (by omega)];exact s.t1
  ·simp only[t1];rw[Za (by omega),Za (by omega),Za (by omega),Za (by omega)];exact s.t5
 induction rest with
 |nil=>
  intro done k t hRe s hr h0 hk hl
  simp only[cN,Zx]at hRe
  obtain⟨t',a1,a2,a3⟩:=head done.length k t s hl
  refine⟨t',je ?_ (by simp),a2,by simp only[cN];exact a3.t1⟩
  have:¬done.length<R.length:=by rw[hRe];omega
  simp only[Lm,aw,a1,this,if_false]
 |cons r rest ih=>
  intro done k t hRe s hr h0 hk hl
  obtain⟨t1,a1,a2,a3⟩:=head done.length k t s hl
  simp only[cN]at hk hRe
  have hle:=pq mT rest (p9 mT r k).2
  have hll:=BI mT r k
  have hlt:done.length<R.length:=by rw[hRe];simp
  obtain⟨t2,b1,b2,b3⟩:=OH hT (rows:=R) (z:=ts.length) (i:=done.length) ts xs (c:=12) (dn:=[]) (row:=r) (k:=k) (t:=t1) hm (hr r (by simp)) (by rw[hRe,Zk (Zm _),Xi];rfl) (by simp) a3 h0 (by omega) (Zm _) (by omega)
  have hw:=kK (k:=done.length) (by unfold maxLen at hR;omega)
  let t3:=((t2.set 10 (aa .i64 done.length)).set 11 (aa .i64 ((done.length:Int)+1))).set 5 (aa .i64 ((done.length:Int)+1))
  have f0:=getD_some b3.t5
  have f1:(t2.set 10 (aa .i64 done.length)).getD 10 (.tup [])=aa .i64 done.length:=aO (by omega)
  have f2:((t2.set 10 (aa .i64 done.length)).set 11 (aa .i64 ((done.length:Int)+1))).getD 11 (.tup [])=aa .i64 ((done.length:Int)+1):=aO (by simp;omega)
  have f3:aw (ag Φ ext) aL (Ji 5 10) ⟨t2,[]⟩=some (.normal,⟨t3,[]⟩):=by
   simp only[Ji,aw,ah,aJ,bf,bJ,Opd.ev,f0,put,f1,bin,if_true,cK,hw,f2,t3]
  have s3:HdSt R (done++[(p9 mT r k).1]).length (p9 mT r k).2 t3:=by
   have hlen1:(done++[(p9 mT r k).1]).length=done.length+1:=by simp
   rw[hlen1]
   refine⟨?_,?_,?_⟩
   ·simp only[t3];rw[Za (by omega),Za (by omega),Za (by omega)];exact b3.t0
   ·simp only[t3];rw[Za (by omega),Za (by omega),Za (by omega)];exact b3.t1
   ·simp only[t3];exact Zd (by simp;omega)
  obtain⟨t4,g1,g2,g3⟩:=ih (done++[(p9 mT r k).1]) (p9 mT r k).2 t3 (by rw[hRe];simp) s3 (fun r m=>hr r (by simp[m])) (by omega) hk (by simp[t3];omega)
  refine⟨t4,(gB (σ':=⟨t3,[]⟩) ?_).trans g1,by rw[g2];simp[t3];omega,by simp only[cN];exact g3⟩
  have hb:=L2 b1
  simp only[Lm,aw,a1,hlt,if_true,hb,f3]
theorem fq (hT:CB Φ ext mT mt){f:Nat}{ts:List PTy}{xs:List MC}(hk:Φ f=some (jo mt ts xs))(hm:HQ Φ ext mT 0 ts xs):gX Φ ext mT f ts:=by
 have hN:=DP (mt:=mt) ts xs 12
 obtain⟨m,hm'⟩:∃m,rz mt 12 ts xs+1-2=m+11:=⟨rz mt 12 ts xs-12,by omega⟩
 intro rows h k h0 hk2
 obtain⟨hl1,hr⟩:=bw h
 refine fJ hk ?_
 have hst:start (jo mt ts xs) [cA (cN mT rows k).1,aa .i64 k]=⟨cA (cN mT rows k).1::aa .i64 k::List.replicate (m+11) (.tup []),[]⟩:=by
  simp only[start,jo,Zo,Z4,Zg,Zi,hm']
 let t0:List V:=cA (cN mT rows k).1::aa .i64 k:: .tup []:: .tup []::aa .i64 0::aa .i64 0::List.replicate (m+7) (.tup [])
 have hl0:t0.length=rz mt 12 ts xs+1:=by simp[t0];omega
 obtain⟨t',a1,a2,a3⟩:=Qn hT hm (R:=(cN mT rows k).1) (by rw[OU];exact hl1) rows [] k t0 (by simp) ⟨rfl,rfl,rfl⟩ hr h0 hk2 (by omega)
 have q1:t'.getD 1 (.tup [])=aa .i64 (cN mT rows k).2:=getD_some a3
 have q2:(t'.set (rz mt 12 ts xs) (aa .i64 (cN mT rows k).2)).getD (rz mt 12 ts xs) (.tup [])=aa .i64 (cN mT rows k).2:=aO (by omega)
 have hend:aw (ag Φ ext) aL (.seq (.region [⟨some (rz mt 12 ts xs), .mv (.tmp 1),none⟩,⟨some 4, .mv (.tmp (rz mt 12 ts xs)),none⟩]) .ret) ⟨t',[]⟩=some (.ret,⟨(t'.set (rz mt 12 ts xs) (aa .i64 (cN mT rows k).2)).set 4 (aa .i64 (cN mT rows k).2),[]⟩):=by
  simp only[aw,ah,aJ,bf,bJ,Opd.ev,q1,put,q2]
 have q3:((t'.set (rz mt 12 ts xs) (aa .i64 (cN mT rows k).2)).set 4 (aa .i64 (cN mT rows k).2)).getD 4 (.tup [])=aa .i64 (cN mT rows k).2:=aO (by simp;omega)
 have hrun:f9 Φ ext (jo mt ts xs).body (start (jo mt ts xs) [cA (cN mT rows k).1,aa .i64 k])=some (.ret,⟨(t'.set (rz mt 12 ts xs) (aa .i64 (cN mT rows k).2)).set 4 (aa .i64 (cN mT rows k).2),[]⟩):=by
  rw[hst]
  generalize hec:ACode.seq (.region [⟨some (rz mt 12 ts xs), .mv (.tmp 1),none⟩,⟨some 4, .mv (.tmp (rz mt 12 ts xs)),none⟩]) .ret=ec at hend
  have hrep:List.replicate (m+11) (V.tup [])= .tup []:: .tup []:: .tup []:: .tup []::List.replicate (m+7) (.tup []):=rfl
  generalize hlp:aL (aw (ag Φ ext) aL (Lm mt ts xs))=lp at a1
  simp only[t0]at a1
  simp only[f9,jo,hec,hrep,aw,ah,aJ,bf,bJ,Opd.ev,put,Ys,Ye,hlp,a1,if_true]
  exact hend
 rw[hrun]
 simp only[done,jo,aW,am,cF,q3,Yn,Xf,Zx,V.cells,bS,comp,aQ,bI]
 rfl
end
def Vg (c off:Nat)(g:Bool)(n f:Nat):List AOper:=[⟨some c, .fieldA (.tmp 2) off,none⟩,⟨some (c+1), .load g n (.tmp c),none⟩,⟨some (c+2), .mv (.tmp 1),none⟩,⟨some (c+3), .call f [.tmp (c+1), .tmp (c+2)] true false,none⟩,⟨some 1, .mv (.tmp (c+3)),none⟩]
def Ub :Nat→Nat→List MS→ACode
 |c,_,[]=> .seq (.region [⟨some c, .mv (.tmp 1),none⟩,⟨some 4, .mv (.tmp c),none⟩]) .ret
 |c,off, .k ts::ss=>Ub c (off+ts.length) ss
 |c,off, .s ts f::ss=> .seq (.region (Vg c off true ts.length f)) (.seq (pV (c+4)) (Ub (c+6) (off+ts.length) ss))
 |c,off, .l _ f::ss=> .seq (.region (Vg c off false 1 f)) (.seq (pV (c+4)) (Ub (c+6) (off+1) ss))
def R5 :Nat→List MS→Nat
 |c,[]=>c
 |c, .k _::ss=>R5 c ss
 |c,_::ss=>R5 (c+6) ss
def zx (ss:List MS):AFn:=⟨R5 5 ss+1,[.tmp 4], .seq (.region [⟨some 2, .box (.tmp 0),none⟩,⟨some 4, .mv (.pv (.int .i64 0)),none⟩]) (Ub 5 0 ss)⟩
theorem Bu :∀(ss:List MS)(c:Nat),c≤R5 c ss
 |[],c=>Zm _
 | .k ts::ss,c=>Bu ss c
 | .s ts f::ss,c=>Zc (by omega) (Bu ss (c+6))
 | .l us f::ss,c=>Zc (by omega) (Bu ss (c+6))
theorem OV (mT:Int→List UInt8){ts:List PTy}{ps:List PV}(h:bM ts ps):∀k,(fL mT ps k).1.length=ts.length:=by
 refine gy (P:=fun ts ps=>∀k,(fL mT ps k).1.length=ts.length) (fun _=>rfl) ?_ ?_ ts ps h
 ·intro us rows ts ps _ _ ih k
  simp only[fL,Zo,ih]
 ·intro t p ts ps _ ht hp _ ih k
  rw[qV mT hp]
  simp only[Zo,ih]
section
variable {Φ:Nat→Option AFn}{ext:Nat→List V→Option V}{mT:Int→List UInt8}
def Ps (Φ:Nat→Option AFn)(ext:Nat→List V→Option V)(mT:Int→List UInt8)(f:Nat)(ts:List PTy):Prop:=
 ∀row:List PV,bM ts row→∀k:Int,0≤k→(fL mT row k).2≤xk→ag Φ ext f [.agg ((fL mT row k).1.map .pv),aa .i64 k]=some (aa .i64 (fL mT row k).2)
def Km (Φ:Nat→Option AFn)(ext:Nat→List V→Option V)(mT:Int→List UInt8):List MS→Prop
 |[]=>True
 | .k ts::ss=>ts.all PTy.flatT=true∧Km Φ ext mT ss
 | .s ts f::ss=>Ps Φ ext mT f ts∧Km Φ ext mT ss
 | .l us f::ss=>gX Φ ext mT f us∧Km Φ ext mT ss
theorem OG {g:Bool}{n f c:Nat}{A:List L}{off:Nat}{v:V}{k k2:Int}{t:List V}(h1:t[1]? =some (aa .i64 k))(h2:t[2]? =some (.one (.ptr 0 0 0)))(hc:5≤c)(hl:c+5<t.length)(hk2:0≤k2)
 (hcut:fR g n off A=some v) (hv:aj [.box A] [v,aa .i64 k]=some [v,aa .i64 k]) (hcall:ag Φ ext f [v,aa .i64 k]=some (aa .i64 k2)) {lp}:
 ∃t',aw (ag Φ ext) lp (.seq (.region (Vg c off g n f)) (pV (c+4))) ⟨t,[.box A]⟩=some (.normal,⟨t',[.box A]⟩)∧t'.length=t.length∧t'[1]? =some (aa .i64 k2)∧t'[2]? =some (.one (.ptr 0 0 0)):=by
 have e1:=getD_some h1
 have e2:=getD_some h2
 have q1:(t.set c (V.one (.ptr 0 0 off))).getD c (.tup [])= .one (.ptr 0 0 off):=aO (by omega)
 have q2:((t.set c (V.one (.ptr 0 0 off))).set (c+1) v).getD 1 (.tup [])=aa .i64 k:=(dQ (by omega)).trans ((dQ (by omega)).trans e1)
 have q3:(((t.set c (V.one (.ptr 0 0 off))).set (c+1) v).set (c+2) (aa .i64 k)).getD (c+1) (.tup [])=v:=(dQ (by omega)).trans (aO (by simp;omega))
 have q4:(((t.set c (V.one (.ptr 0 0 off))).set (c+1) v).set (c+2) (aa .i64 k)).getD (c+2) (.tup [])=aa .i64 k:=aO (by simp;omega)
 have q5:((((t.set c (V.one (.ptr 0 0 off))).set (c+1) v).set (c+2) (aa .i64 k)).set (c+3) (aa .i64 k2)).getD (c+3) (.tup [])=aa .i64 k2:=aO (by simp;omega)
 let t1:=((((t.set c (V.one (.ptr 0 0 off))).set (c+1) v).set (c+2) (aa .i64 k)).set (c+3) (aa .i64 k2)).set 1 (aa .i64 k2)
 have r1:ah (ag Φ ext) (Vg c off g n f) ⟨t,[.box A]⟩=some ⟨t1,[.box A]⟩:=by
  simp only[Vg,ah,aJ,bf,bJ,Opd.ev,e2,put,Yc,q1,bA,Yu,if_true,hcut,q2,Bool.or_false,Zv,Z5,q3,q4,hv,hcall,Bool.true_or,V.flat,L.flat,Xj,Xk,Zy,if_false,db,da,q5,t1]
 have l1:t1.length=t.length:=by simp[t1]
 have g1:t1[1]? =some (aa .i64 k2):=Zd (by simp;omega)
 have g2:t1[2]? =some (.one (.ptr 0 0 0)):=by simp only[t1];rw[Za (by omega),Za (by omega),Za (by omega),Za (by omega),Za (by omega)];exact h2
 have r2:=OZ (call:=ag Φ ext) (lp:=lp) (h:=[.box A]) (c:=c+4) g1 (by omega) (by omega)
 refine⟨_,by simp only[aw,r1,r2];rfl,by simp;omega,?_,?_⟩
 ·rw[Za (by omega),Za (by omega)];exact g1
 ·rw[Za (by omega),Za (by omega)];exact g2
theorem DO :∀(ss:List MS),Km Φ ext mT ss→∀{c:Nat}{dn b:List PV}{k:Int}{t:List V},bM (ib ss) b→0≤k→(fL mT b k).2≤xk→t[1]? =some (aa .i64 k)→t[2]? =some (.one (.ptr 0 0 0))→5≤c→R5 c ss<t.length→
 ∃t' h',aw (ag Φ ext) aL (Ub c dn.length ss) ⟨t,[.box ((dn++(fL mT b k).1).map .pv)]⟩=some (.ret,⟨t',h'⟩)∧t'.getD 4 (.tup [])=aa .i64 (fL mT b k).2
 |[],_,c,dn,b,k,t,hb,h0,hk,h1,h2,hc,hl=>by
  obtain rfl:=fF hb
  simp only[R5]at hl
  have q2:(t.set c (aa .i64 k)).getD c (.tup [])=aa .i64 k:=aO hl
  refine⟨(t.set c (aa .i64 k)).set 4 (aa .i64 k),[.box ((dn++(fL mT [] k).1).map .pv)],?_,by simp only[fL];exact aO (by simp;omega)⟩
  simp only[Ub,aw,ah,aJ,bf,bJ,Opd.ev,getD_some h1,put,q2]
 | .k ts::ss,hss,c,dn,b,k,t,hb,h0,hk,h1,h2,hc,hl=>by
  simp only[ib,MS.ts]at hb
  obtain⟨x,y,rfl,hx,hy⟩:=lA (ts:=ts) hb
  have flat:∀{ts:List PTy}{x:List PV},bM ts x→ts.all PTy.flatT=true→∀k,fL mT x k=(x,k):=by
   intro ts x h
   refine gy (P:=fun ts x=>ts.all PTy.flatT=true→∀k,fL mT x k=(x,k)) (fun _ _=>rfl) ?_ ?_ ts x h
   ·intro us rows ts ps _ _ _ ha
    simp[PTy.flatT]at ha
   ·intro t p ts ps _ ht hp _ ih ha
    simp only[Zr,Zh]at ha
    exact fun k=>by rw[qV mT hp,ih ha.2]
  have m0:=flat hx hss.1
  rw[lW,m0]at hk⊢
  have hlen:(dn++x).length=dn.length+ts.length:=by rw[Zw,km hx]
  obtain⟨t',h',r1,r2⟩:=DO ss hss.2 (c:=c) (dn:=dn++x) hy h0 hk h1 h2 hc hl
  rw[hlen,Zp]at r1
  exact⟨t',h',r1,r2⟩
 | .s ts f::ss,hss,c,dn,b,k,t,hb,h0,hk,h1,h2,hc,hl=>by
  simp only[ib,MS.ts]at hb
  obtain⟨x,y,rfl,hx,hy⟩:=lA (ts:=ts) hb
  have hN:=Bu ss (c+6)
  simp only[R5]at hl
  rw[lW]at hk⊢
  have hle:=nC mT y (fL mT x k).2
  have hlx:=nC mT x k
  have hml:=OV mT hx k
  simp only at hk hle
  have hcut:fR true ts.length dn.length ((dn++((fL mT x k).1++(fL mT y (fL mT x k).2).1)).map .pv)=some (.agg ((fL mT x k).1.map .pv)):=by rw[←hml];exact mU (agg:=true) (.inl rfl)
  obtain⟨t1,a1,a2,a3,a4⟩:=OG (Φ:=Φ) (ext:=ext) (lp:=aL) h1 h2 hc (by omega) (by omega) hcut (by simp only[aj,tJ];rfl) (hss.1 x hx k h0 (by omega))
  have hlen:(dn++(fL mT x k).1).length=dn.length+ts.length:=by rw[Zw,hml]
  obtain⟨t2,h',b1,b2⟩:=DO ss hss.2 (c:=c+6) (dn:=dn++(fL mT x k).1) (b:=y) (k:=(fL mT x k).2) (t:=t1) hy (by omega) hk a3 a4 (by omega) (by omega)
  refine⟨t2,h',?_,b2⟩
  rw[hlen,Zp]at b1
  simp only[aw]at a1
  simp only[Ub,aw]
  split at a1
  ·rename_i σ1 e1
   simp only[e1,a1]
   exact b1
  ·exact absurd a1 (by intro h;simp_all)
 | .l us f::ss,hss,c,dn,b,k,t,hb,h0,hk,h1,h2,hc,hl=>by
  simp only[ib,MS.ts]at hb
  obtain⟨x,y,rfl,hx,hy⟩:=lA (ts:=[.lst us]) hb
  have hN:=Bu ss (c+6)
  simp only[R5]at hl
  rw[lW]at hk⊢
  have hle:=nC mT y (fL mT x k).2
  have hlx:=nC mT x k
  have hml:=OV mT hx k
  have hx':=hx
  obtain⟨p,x',rfl,hp,hn⟩:=eD hx'
  obtain rfl:=fF hn
  obtain⟨rows,rfl⟩:=oE hp
  simp only[fL]at hk hle hlx hml⊢
  have hcut:fR false 1 dn.length ((dn++([PV.lst (cN mT rows k).1]++(fL mT y (cN mT rows k).2).1)).map .pv)=some (.one (.pv (.lst (cN mT rows k).1))):=mU (agg:=false) (a:=[.lst (cN mT rows k).1]) (.inr rfl)
  obtain⟨t1,a1,a2,a3,a4⟩:=OG (Φ:=Φ) (ext:=ext) (lp:=aL) h1 h2 hc (by omega) (by omega) hcut rfl (hss.1 rows hp k h0 (by omega))
  have hlen:(dn++[PV.lst (cN mT rows k).1]).length=dn.length+1:=by simp
  obtain⟨t2,h',b1,b2⟩:=DO ss hss.2 (c:=c+6) (dn:=dn++[PV.lst (cN mT rows k).1]) (b:=y) (k:=(cN mT rows k).2) (t:=t1) hy (by omega) hk a3 a4 (by omega) (by omega)
  refine⟨t2,h',?_,b2⟩
  rw[hlen,Zp]at b1
  simp only[aw]at a1
  simp only[Ub,aw]
  split at a1
  ·rename_i σ1 e1
   simp only[e1,a1]
   exact b1
  ·exact absurd a1 (by intro h;simp_all)
theorem zy {f:Nat}{ss:List MS}(hk:Φ f=some (zx ss))(hss:Km Φ ext mT ss):Ps Φ ext mT f (ib ss):=by
 intro row hr k h0 hk2
 have hN:=Bu ss 5
 obtain⟨m,hm⟩:∃m,R5 5 ss+1-2=m+4:=⟨R5 5 ss-5,by omega⟩
 refine fJ hk ?_
 have hpl:((fL mT row k).1.map L.pv).all plain=true:=by simp[plain]
 let t0:List V:= .agg ((fL mT row k).1.map .pv)::aa .i64 k:: .one (.ptr 0 0 0):: .tup []::aa .i64 0::List.replicate (m+1) (.tup [])
 have hl0:t0.length=R5 5 ss+1:=by simp[t0];omega
 obtain⟨t',h',a1,a2⟩:=DO (Φ:=Φ) (ext:=ext) ss hss (c:=5) (dn:=[]) (b:=row) (k:=k) (t:=t0) hr h0 hk2 rfl rfl (Zm _) (by omega)
 have hrep:List.replicate (m+4) (V.tup [])= .tup []:: .tup []:: .tup []::List.replicate (m+1) (.tup []):=rfl
 have hrun:f9 Φ ext (zx ss).body (start (zx ss) [.agg ((fL mT row k).1.map .pv),aa .i64 k])=some (.ret,⟨t',h'⟩):=by
  simp only[t0,Z4,Zi]at a1
  simp only[f9,zx,start,Zo,Z4,Yc,Nat.reduceAdd,hm,Zg,Zi,hrep,aw,ah,aJ,bf,bJ,cI,Opd.ev,put,Xc,V.cells,hpl,if_true,Ys,Ye]
  exact a1
 rw[hrun]
 simp only[done,zx,aW,am,cF,a2,Yn,Xf,Zx,V.cells,bS,comp,aQ,bI]
 rfl
end
end Gi
