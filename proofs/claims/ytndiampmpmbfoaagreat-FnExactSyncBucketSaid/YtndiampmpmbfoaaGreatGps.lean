/- A part. -/
import Derived.Test.YtndiampmpmbfoaaGreatGpq
set_option linter.all false
namespace Gi
open Go Go.RowKit
def Vi :List Y5->Y5
 |[]=> .skip
 |[a]=>a
 |a::b::r=> .seq a (Vi (b::r))
def xu (call:Nat->List V->Option V)(lp:(St->Option (Ex×St))->St->Option (Ex×St)):List Y5->St->Option St
 |[],Z=>some Z
 |a::r,Z=>match ap call lp a Z with
  |some (.normal,Z')=>xu call lp r Z'
  |_=>none
def Nk {call:Nat->List V->Option V}{lp:(St->Option (Ex×St))->St->Option (Ex×St)}:∀{xz:List Y5}{Z Z':St},xu call lp xz Z=some Z'->ap call lp (Vi xz) Z=some (.normal,Z')
 |[],Z,Z',h=>by simp only[xu]at h;cases h;rfl
 |[a],Z,Z',h=>by
  simp only[xu]at h
  split at h
  ·rename_i σ1 h1;cases h;exact h1
  ·cases h
 |a::b::r,Z,Z',h=>by
  rw[xu]at h
  split at h
  ·rename_i σ1 h1
   have:=Nk (xz:=b::r) h
   simp only[Vi,ap,h1,this]
  ·cases h
def Ng {call:Nat->List V->Option V}{lp:(St->Option (Ex×St))->St->Option (Ex×St)}:∀{xz bs:List Y5}{Z Z':St},xu call lp xz Z=some Z'->xu call lp (xz++bs) Z=xu call lp bs Z'
 |[],bs,Z,Z',h=>by simp only[xu]at h;cases h;rfl
 |a::xz,bs,Z,Z',h=>by
  simp only[xu,Zg]at h⊢
  split at h
  ·rename_i σ1 h1
   exact Ng h
  ·cases h
def EB (mt c:Nat):PTy->List Z0
 | .int .i64=>[]
 | .int κ=>[⟨some (c+3), .conv κ (.tmp (c+2)),none⟩]
 | .str=>[⟨some (c+3), .call mt [.tmp (c+2)] true true,none⟩]
 | .bool=>[⟨some (c+3), .bin .rem (.tmp (c+2)) (.pv (.int .i64 3)),none⟩,⟨some (c+4), .bin .eql (.tmp (c+3)) (.pv (.int .i64 0)),none⟩]
 | .lst _=>[]
def Yb :Y5:= .seq (.region [⟨some 4, .mv (.pv (.int .i64 (-1))),none⟩]) .ret
def Wk (z c:Nat)(x:MC):List Z0:=Qh c++(⟨some (c+2), .bF z (.tmp c) (.tmp (c+1)),none⟩::(tn (c+2) x.p++[⟨some (c+3+x.p.length), .load false 1 (.tmp (c+2+x.p.length)),none⟩,⟨some (c+4+x.p.length), .mv (.tmp 1),none⟩]))
def UU (z mt c:Nat)(t:PTy)(x:MC):List Y5:=
 let d:=c+2+x.p.length
 let v:=d+2+(EB mt d t).length
 [.seq (.region (Wk z c x++(EB mt d t++[⟨some (v+1),IH t (.tmp (d+1)) (.tmp v),none⟩]))) (.cond (.tmp (v+1)) Yb .skip), .region (OG (v+2))]
def Wh (z c:Nat)(x:MC):List Y5:=
 let d:=c+2+x.p.length
 [.region (Wk z c x++[⟨some (d+3), .call x.f [.tmp (d+1), .tmp (d+2)] true false,none⟩,⟨some 1, .mv (.tmp (d+3)),none⟩]),p7 (d+4)]
def Wg (z mt c:Nat):PTy->MC->List Y5
 | .lst _,x=>Wh z c x
 |t,x=>UU z mt c t x
def Kk (mt c:Nat):PTy->MC->Nat
 | .lst _,x=>c+8+x.p.length
 |t,x=>c+8+(EB mt (c+2+x.p.length) t).length+x.p.length
def UV (z mt:Nat):Nat->List PTy->List MC->List Y5
 |c,t::ts,x::xs=>Wg z mt c t x++UV z mt (Kk mt c t x) ts xs
 |_,_,_=>[]
def rR (mt:Nat):Nat->List PTy->List MC->Nat
 |c,t::ts,x::xs=>rR mt (Kk mt c t x) ts xs
 |c,_,_=>c
def MF (mt:Nat)(ts:List PTy)(xs:List MC):Y5:= .seq (Je 5 0 6) (.seq (.block 1 (Vi (UV ts.length mt 12 ts xs))) (Kj 5 10))
def jC (mt:Nat)(ts:List PTy)(xs:List MC):AFn:=⟨rR mt 12 ts xs+1,[.tmp 4], .seq (.region [⟨some 4, .mv (.pv (.int .i64 0)),none⟩]) (.seq (.seq (.region [⟨some 5, .mv (.pv (.int .i64 0)),none⟩]) (.block 0 (.loop (MF mt ts xs)))) (.seq (.region [⟨some (rR mt 12 ts xs), .mv (.tmp 1),none⟩,⟨some 4, .mv (.tmp (rR mt 12 ts xs)),none⟩]) .ret))⟩
def L0 {call:Nat->List V->Option V}{e:List PV}:∀{p:List Nat}{c j:Nat}{t:List V}{h:List Y0},t[c]? =some (.one (.ip e j))->c+p.length<t.length->
 ∃t',ah call (tn c p) ⟨t,h⟩=some ⟨t',h⟩/\ t'.length=t.length/\ t'[c+p.length]? =some (.one (.ip e (j+p.sum)))/\ ∀n≤c,t'[n]? =t[n]?
 |[],c,j,t,h,hc,hl=>⟨t,rfl,rfl,by simpa using hc,fun _ _=>rfl⟩
 |d::ds,c,j,t,h,hc,hl=>by
  simp only[Zo]at hl
  obtain⟨t',e1,e2,e3,e4⟩:=L0 (call:=call) (e:=e) (p:=ds) (c:=c+1) (j:=j+d) (t:=t.set (c+1) (.one (.ip e (j+d)))) (h:=h) (Zd (by omega)) (by simp;omega)
  refine⟨t',?_,by simpa using e2,?_,fun n hn=> ?_⟩
  ·simp only[tn,ah,aG,bc,bG,Opd.ev,getD_some hc,put,e1]
  ·simp only[Zo,List.sum_cons]
   rw[show c+(ds.length+1)=c+1+ds.length by omega,e3,Zc3]
  ·rw[e4 n (by omega),Za (by omega)]
section
variable {Φ:Nat->Option AFn}{ext:Nat->List V->Option V}{mT:Int->List UInt8}{mt:Nat}
def Uo (hT:Dw Φ ext mT mt){ty:PTy}{p:PV}(hp:oq ty p)(hf:ty.flatT=true){c:Nat}{k:Int}(h0:0<=k)(hk:k<xN){t:List V}{h:List Y0}(h2:t[c+2]? =some (aa .i64 k))(hl:c+2+(EB mt c ty).length<t.length):
 ∃t',ah (ag Φ ext) (EB mt c ty) ⟨t,h⟩=some ⟨t',h⟩/\ t'.length=t.length/\ t'[c+2+(EB mt c ty).length]? =some (.one (.pv (lN mT p k).1))/\ ∀n≤c+2,t'[n]? =t[n]? :=by
 have e2:=getD_some h2
 by_cases hs:ty= .str
 ·subst hs
  obtain⟨s,rfl⟩:=lu hp
  simp only[EB,ZN]at hl⊢
  refine⟨t.set (c+3) (eE (mT k)),?_,by simp,by simp only[lN];exact Zd (by omega),fun n hn=>Za (by omega)⟩
  simp only[ah,aG,bc,bG,Bool.or_self,Zb7,if_true,Zv,Zz,Opd.ev,e2,al,V.view,L.view,hT k h0 (by omega),V.flat,L.flat,Zb8,G',Zy,if_false,da,df,put]
 ·have:EB mt c ty=xy mt c ty:=by
   cases ty with
   |int κ=>cases κ<;>rfl
   |str=>exact absurd rfl hs
   |_=>rfl
  rw[this]at hl⊢
  exact QH hT hp hf h0 hk h2 hl
def RV {ty:PTy}{p:PV}(hp:oq ty p)(hf:ty.flatT=true){k:Int}{t:List V}{a b:Nat}(ha:t[a]? =some (.one (.pv (lN mT p k).1)))(hb:t[b]? =some (.one (.pv (lN mT p k).1)))(call:Nat->List V->Option V)(h:List Y0):bG call ⟨t,h⟩ (IH ty (.tmp a) (.tmp b))=some (az false):=by
 have e1:=getD_some ha
 have e2:=getD_some hb
 cases ty with
 |lst us=>cases hf
 |str=>
  obtain⟨s,rfl⟩:=lu hp
  simp only[IH,bG,Opd.ev,e1,e2]
  exact GT rfl
 |int κ=>
  obtain⟨s,rfl⟩:=mp hp
  simp only[IH,bG,Opd.ev,e1,e2]
  exact GT rfl
 |bool=>
  obtain⟨s,rfl⟩:=ma hp
  simp only[IH,bG,Opd.ev,e1,e2,lN,isBool]
  cases k.tmod 3==0<;>rfl
structure YY (rows:List (List PV)) (i:Nat) (k:Int) (t:List V):Prop where
 t0:t[0]? =some (bY rows)
 t1:t[1]? =some (aa .i64 k)
 t5:t[5]? =some (aa .i64 i)
def P7 {rows:List (List PV)}{e:List PV}{q:PV}{x:MC}{z i c:Nat}{k:Int}{t:List V}(s:YY rows i k t)(he:rows[i]? =some e)(hz:e.length=z)(hq:e[x.p.sum]? =some q)(hc:12<=c)(hl:c+4+x.p.length<t.length)(call:Nat->List V->Option V):
 ∃t',ah call (Wk z c x) ⟨t,[]⟩=some ⟨t',[]⟩/\ t'.length=t.length/\ t'[c+3+x.p.length]? =some (.one (.pv q))/\ t'[c+4+x.p.length]? =some (aa .i64 k)/\ ∀n<c,t'[n]? =t[n]? :=by
 let t1:=((t.set c (bY rows)).set (c+1) (aa .i64 i)).set (c+2) (.one (.ip e 0))
 have a0:ah call (Qh c++[⟨some (c+2), .bF z (.tmp c) (.tmp (c+1)),none⟩]) ⟨t,[]⟩=some ⟨t1,[]⟩:=by
  have e1:=getD_some s.t0
  have e2:(t.set c (bY rows)).getD 5 (.b9 [])=aa .i64 i:=(dV (by omega)).trans (getD_some s.t5)
  have e3:((t.set c (bY rows)).set (c+1) (aa .i64 i)).getD c (.b9 [])=bY rows:=(dV (by omega)).trans (aI (by omega))
  have e4:((t.set c (bY rows)).set (c+1) (aa .i64 i)).getD (c+1) (.b9 [])=aa .i64 i:=aI (by simp;omega)
  simp only[Qh,Zg,Zi,ah,aG,bc,bG,Opd.ev,e1,put,e2,e3,e4,isInt,Int.natCast_nonneg,if_true,Int.toNat_natCast,aJ,he,hz,t1]
 have l1:t1.length=t.length:=by simp[t1]
 have g1:∀n,n<c->t1[n]? =t[n]? :=fun n hn=>by simp only[t1];rw[Za (by omega),Za (by omega),Za (by omega)]
 have ge:t1[c+2]? =some (.one (.ip e 0)):=by simp only[t1];exact Zd (by simp;omega)
 clear_value t1
 obtain⟨t4,d1,d2,d3,d4⟩:=L0 (call:=call) (e:=e) (p:=x.p) (c:=c+2) (j:=0) (t:=t1) (h:=[]) ge (by omega)
 rw[ZO]at d3
 have a6:gv false 1 x.p.sum (e.map L.pv)=some (.one (.pv q)):=by
  have aq:=(Zb.1 hq).1
  unfold gv
  rw[if_pos (by simp;omega)]
  simp[hq]
 have q1:(t4.set (c+3+x.p.length) (V.one (.pv q))).getD 1 (.b9 [])=aa .i64 k:=(dV (by omega)).trans (getD_some ((d4 1 (by omega)).trans ((g1 1 (by omega)).trans s.t1)))
 refine⟨(t4.set (c+3+x.p.length) (.one (.pv q))).set (c+4+x.p.length) (aa .i64 k),?_,by simp;omega,by rw[Za (by omega)];exact Zd (by omega),Zd (by simp;omega),fun n hn=>by rw[Za (by omega),Za (by omega),d4 n (by omega),g1 n hn]⟩
 have aj:Wk z c x=(Qh c++[⟨some (c+2), .bF z (.tmp c) (.tmp (c+1)),none⟩])++(tn (c+2) x.p++[⟨some (c+3+x.p.length), .load false 1 (.tmp (c+2+x.p.length)),none⟩,⟨some (c+4+x.p.length), .mv (.tmp 1),none⟩]):=by
  simp only[Wk,List.append_assoc,Zg,Zi]
 rw[aj,cA _ _ _ a0,cA _ _ _ d1]
 simp only[ah,aG,bc,bG,Opd.ev,getD_some d3,bA,a6,put,q1]
def UW {call:Nat->List V->Option V}{rows:List (List PV)}{i c:Nat}{k:Int}{t:List V}{h:List Y0}(s:YY rows i k t)(h0:0<=k)(hk:k<xN)(hc:6<=c)(hl:c+1<t.length):
 ∃t',ah call (OG c) ⟨t,h⟩=some ⟨t',h⟩/\ t'.length=t.length/\ YY rows i (k+1) t':=by
 have e1:=getD_some s.t1
 have e2:(t.set c (aa .i64 k)).getD c (.b9 [])=aa .i64 k:=aI (by omega)
 have hw:IntKind.i64.wrap (k+1)=k+1:=by rw[IntKind.wrap_i64];unfold xN at hk;omega
 have e3:((t.set c (aa .i64 k)).set (c+1) (aa .i64 (k+1))).getD (c+1) (.b9 [])=aa .i64 (k+1):=aI (by simp;omega)
 refine⟨((t.set c (aa .i64 k)).set (c+1) (aa .i64 (k+1))).set 1 (aa .i64 (k+1)),?_,by simp,?_,?_,?_⟩
 ·simp only[OG,ah,aG,bc,bG,Opd.ev,e1,put,e2,bin,if_true,cG,hw,e3]
 ·rw[Za (by omega),Za (by omega),Za (by omega)];exact s.t0
 ·exact Zd (by simp;omega)
 ·rw[Za (by omega),Za (by omega),Za (by omega)];exact s.t5
def Tw (hT:Dw Φ ext mT mt){rows:List (List PV)}{ty:PTy}{p:PV}{x:MC}{e:List PV}{z i c:Nat}{k:Int}{t:List V}(hp:oq ty p)(hf:ty.flatT=true)(s:YY rows i k t)(h0:0<=k)(hk:k<xN)(hc:12<=c)(he:rows[i]? =some e)(hz:e.length=z)(hq:e[x.p.sum]? =some (lN mT p k).1)(hl:c+8+(EB mt (c+2+x.p.length) ty).length+x.p.length<=t.length):
 ∃t',xu (ag Φ ext) aF (UU z mt c ty x) ⟨t,[]⟩=some ⟨t',[]⟩/\ t'.length=t.length/\ YY rows i (lN mT p k).2 t':=by
 obtain⟨t1,a1,a2,a3,a4,a5⟩:=P7 s he hz hq hc (by omega) (ag Φ ext)
 generalize hd:c+2+x.p.length=d at*
 rw[show c+3+x.p.length=d+1 by omega]at a3
 rw[show c+4+x.p.length=d+2 by omega]at a4
 obtain⟨t2,b1,b2,b3,b4⟩:=Uo (h:=[]) hT hp hf h0 hk a4 (by omega)
 generalize hv:d+2+(EB mt d ty).length=v at*
 have b5:t2[d+1]? =some (.one (.pv (lN mT p k).1)):=(b4 (d+1) (by omega)).trans a3
 have c1:=RV hp hf b5 b3 (ag Φ ext) []
 have q1:(t2.set (v+1) (az false)).getD (v+1) (.b9 [])=az false:=aI (by omega)
 have low:∀n,n<c->(t2.set (v+1) (az false))[n]? =t[n]? :=fun n hn=>by rw[Za (by omega),b4 n (by omega),a5 n hn]
 obtain⟨t5,i1,i2,i3⟩:=UW (call:=ag Φ ext) (c:=v+2) (h:=[]) (⟨(low 0 (by omega)).trans s.t0,(low 1 (by omega)).trans s.t1,(low 5 (by omega)).trans s.t5⟩:YY rows i k (t2.set (v+1) (az false))) h0 hk (by omega) (by simp;omega)
 have f3:=(AB (mT:=mT) hp hf k).2.2
 refine⟨t5,?_,by rw[i2];simp;omega,by rw[f3];exact i3⟩
 have ab:ah (ag Φ ext) (Wk z c x++(EB mt d ty++[⟨some (v+1),IH ty (.tmp (d+1)) (.tmp v),none⟩])) ⟨t,[]⟩=some ⟨t2.set (v+1) (az false),[]⟩:=by
  rw[cA _ _ _ a1,cA _ _ _ b1]
  simp only[ah,aG,bc,c1,put]
 simp only[UU,hd,hv,xu,ap,ab,Opd.ev,q1,isBool,Zy,if_false,i1]
def hZ (Φ:Nat->Option AFn)(ext:Nat->List V->Option V)(mT:Int->List UInt8)(f:Nat)(ts:List PTy):Prop:=
 ∀rows:List (List PV),oq (.lst ts) (.lst rows)->∀k:Int,0<=k->(cM mT rows k).2<=xN->ag Φ ext f [bY (cM mT rows k).1,aa .i64 k]=some (aa .i64 (cM mT rows k).2)
def Tx {rows:List (List PV)}{us:List PTy}{ys:List (List PV)}{x:MC}{e:List PV}{z i c:Nat}{k:Int}{t:List V}(hO:hZ Φ ext mT x.f us)(hp:oq (.lst us) (.lst ys))(s:YY rows i k t)(h0:0<=k)(hk:(cM mT ys k).2<=xN)(hc:12<=c)(he:rows[i]? =some e)(hz:e.length=z)(hq:e[x.p.sum]? =some (lN mT (.lst ys) k).1)(hl:c+8+x.p.length<=t.length):
 ∃t',xu (ag Φ ext) aF (Wh z c x) ⟨t,[]⟩=some ⟨t',[]⟩/\ t'.length=t.length/\ YY rows i (lN mT (.lst ys) k).2 t':=by
 obtain⟨t1,a1,a2,a3,a4,a5⟩:=P7 s he hz hq hc (by omega) (ag Φ ext)
 have hle:=pW mT ys k
 generalize hd:c+2+x.p.length=d at*
 rw[show c+3+x.p.length=d+1 by omega]at a3
 rw[show c+4+x.p.length=d+2 by omega]at a4
 simp only[lN]at a3⊢
 generalize ai:(cM mT ys k).2=k2 at*
 have a7:=hO ys hp k h0 (by omega)
 rw[ai]at a7
 generalize (cM mT ys k).1=ar at*
 have e1:=getD_some a3
 have e2:=getD_some a4
 have q1:(t1.set (d+3) (aa .i64 k2)).getD (d+3) (.b9 [])=aa .i64 k2:=aI (by omega)
 have av:al [] [bY ar,aa .i64 k]=some [bY ar,aa .i64 k]:=rfl
 let t2:=(t1.set (d+3) (aa .i64 k2)).set 1 (aa .i64 k2)
 have ab:ah (ag Φ ext) (Wk z c x++[⟨some (d+3), .call x.f [.tmp (d+1), .tmp (d+2)] true false,none⟩,⟨some 1, .mv (.tmp (d+3)),none⟩]) ⟨t,[]⟩=some ⟨t2,[]⟩:=by
  rw[cA _ _ _ a1]
  have aC:al [] [V.one (L.pv (PV.lst ar)),aa .i64 k]=some [bY ar,aa .i64 k]:=rfl
  simp only[ah,aG,bc,bG,Bool.or_false,Zb7,if_true,Zv,Zz,Opd.ev,e1,e2,aC,a7,V.flat,L.flat,Zb8,G',Zy,if_false,da,df,put,q1,t2]
 have l2:t2.length=t.length:=by simp[t2];omega
 have q2:t2.getD 1 (.b9 [])=aa .i64 k2:=aI (by simp;omega)
 have q3:(t2.set (d+4) (aa .i64 k2)).getD (d+4) (.b9 [])=aa .i64 k2:=aI (by omega)
 have q4:((t2.set (d+4) (aa .i64 k2)).set (d+5) (az false)).getD (d+5) (.b9 [])=az false:=aI (by simp;omega)
 have aq:decide (k2<0)=false:=decide_eq_false (by omega)
 refine⟨(t2.set (d+4) (aa .i64 k2)).set (d+5) (az false),?_,by simp;omega,?_,?_,?_⟩
 ·have h5:d+4+1=d+5:=by omega
  simp only[Wh,hd,xu,ap,ab,p7,ah,aG,bc,bG,Opd.ev,q2,put,q3,bin,if_true,cG,aq,h5,q4,isBool,Zy,if_false]
 ·simp only[t2];rw[Za (by omega),Za (by omega),Za (by omega),Za (by omega)];exact(a5 0 (by omega)).trans s.t0
 ·rw[Za (by omega),Za (by omega)];exact Zd (by simp;omega)
 ·simp only[t2];rw[Za (by omega),Za (by omega),Za (by omega),Za (by omega)];exact(a5 5 (by omega)).trans s.t5
def IW (Φ:Nat->Option AFn)(ext:Nat->List V->Option V)(mT:Int->List UInt8):Nat->List PTy->List MC->Prop
 |j, .lst us::ts,x::xs=>x.p.sum=j/\ hZ Φ ext mT x.f us/\ IW Φ ext mT (j+1) ts xs
 |j,_::ts,x::xs=>x.p.sum=j/\ IW Φ ext mT (j+1) ts xs
 |_,[],[]=>True
 |_,_,_=>False
def EF :∀(ts:List PTy)(xs:List MC)(c:Nat),c<=rR mt c ts xs
 |[],_,c=>Zn _
 |_::_,[],c=>Zn _
 |t::ts,x::xs,c=>by
  simp only[rR]
  refine Zc ?_ (EF ts xs _)
  cases t<;>simp only[Kk]<;>omega
def P5 (hT:Dw Φ ext mT mt){rows:List (List PV)}{z i:Nat}:∀(ts:List PTy)(xs:List MC){c:Nat}{dn row:List PV}{k:Int}{t:List V},IW Φ ext mT dn.length ts xs->bF ts row->rows[i]? =some (dn++(qe mT row k).1)->z=dn.length+ts.length->YY rows i k t->0<=k->(qe mT row k).2<=xN->12<=c->rR mt c ts xs<=t.length->
 ∃t',xu (ag Φ ext) aF (UV z mt c ts xs) ⟨t,[]⟩=some ⟨t',[]⟩/\ t'.length=t.length/\ YY rows i (qe mT row k).2 t'
 |[],xs,c,dn,row,k,t,hm,hr,hE,hz,s,h0,hk,hc,hl=>by
  obtain rfl:=fv hr
  cases xs<;>exact⟨t,rfl,rfl,by simpa only[qe]using s⟩
 |ty::ts,[],c,dn,row,k,t,hm,hr,hE,hz,s,h0,hk,hc,hl=>by cases ty<;>exact hm.elim
 |ty::ts,x::xs,c,dn,row,k,t,hm,hr,hE,hz,s,h0,hk,hc,hl=>by
  obtain⟨p,rest,rfl,hp,aw⟩:=ee hr
  have hle:=Cq mT rest (lN mT p k).2
  have ax:=OO mT p k
  simp only[qe]at hk hE
  simp only[rR]at hl
  have hN:=EF (mt:=mt) ts xs (Kk mt c ty x)
  have ak:IW Φ ext mT (dn++[(lN mT p k).1]).length ts xs:=by
   have:(dn++[(lN mT p k).1]).length=dn.length+1:=by simp
   rw[this]
   cases ty<;>first|exact hm.2|exact hm.2.2
  have hx:x.p.sum=dn.length:=by cases ty<;>exact hm.1
  have ay:(dn++(lN mT p k).1::(qe mT rest (lN mT p k).2).1).length=z:=by
   rw[hz,Zu,Zo,Qd,kN aw];rfl
  have hq:(dn++(lN mT p k).1::(qe mT rest (lN mT p k).2).1)[x.p.sum]? =some (lN mT p k).1:=by rw[hx];exact ED
  have cell:∃t',xu (ag Φ ext) aF (Wg z mt c ty x) ⟨t,[]⟩=some ⟨t',[]⟩/\ t'.length=t.length/\ YY rows i (lN mT p k).2 t':=by
   by_cases hf:ty.flatT=true
   ·have hR:Wg z mt c ty x=UU z mt c ty x:=by cases ty<;>first|rfl|cases hf
    have aD:Kk mt c ty x=c+8+(EB mt (c+2+x.p.length) ty).length+x.p.length:=by cases ty<;>first|rfl|cases hf
    rw[hR]
    have:=(AB (mT:=mT) hp hf k).2.2
    exact Tw hT hp hf s h0 (by omega) hc hE ay hq (by omega)
   ·cases ty with
    |lst us=>
     obtain⟨ys,rfl⟩:=pg hp
     have aD:Kk mt c (.lst us) x=c+8+x.p.length:=rfl
     have aE:(cM mT ys k).2<=xN:=by simp only[lN]at hle hk;omega
     exact Tx hm.2.1 hp s h0 aE hc hE ay hq (by omega)
    |_=>exact absurd rfl hf
  obtain⟨t1,e1,e2,e3⟩:=cell
  have aR:c<=Kk mt c ty x:=by cases ty<;>simp only[Kk]<;>omega
  obtain⟨t2,f1,f2,f3⟩:=P5 hT (rows:=rows) (z:=z) (i:=i) ts xs (c:=Kk mt c ty x) (dn:=dn++[(lN mT p k).1]) (row:=rest) (k:=(lN mT p k).2) (t:=t1) ak aw (by rw[hE];simp) (by rw[hz];simp;omega) e3 (by omega) hk (by omega) (by omega)
  refine⟨t2,?_,by omega,by simp only[qe];exact f3⟩
  simp only[UV]
  rw[Ng e1,f1]
def RE (hT:Dw Φ ext mT mt){ts:List PTy}{xs:List MC}(hm:IW Φ ext mT 0 ts xs){R:List (List PV)}(hR:R.length<=maxLen):∀(rest done:List (List PV))(k:Int)(t:List V),R=done++(cM mT rest k).1->YY R done.length k t->(∀r∈rest,bF ts r)->0<=k->(cM mT rest k).2<=xN->rR mt 12 ts xs<=t.length->
 ∃t',aF (ap (ag Φ ext) aF (MF mt ts xs)) ⟨t,[]⟩=some (.exit 0,⟨t',[]⟩)/\ t'.length=t.length/\ t'[1]? =some (aa .i64 (cM mT rest k).2):=by
 intro rest
 have hN:=EF (mt:=mt) ts xs 12
 have head:∀(n:Nat)(k:Int)(t:List V),YY R n k t->rR mt 12 ts xs<=t.length->∃t',ap (ag Φ ext) aF (Je 5 0 6) ⟨t,[]⟩=some (if n<R.length then .normal else .exit 0,⟨t',[]⟩)/\ t'.length=t.length/\ YY R n k t':=by
  intro n k t s hl
  let t1:=(((t.set 6 (aa .i64 n)).set 7 (bY R)).set 8 (aa .i64 R.length)).set 9 (az (decide (n<R.length)))
  have e0:=getD_some s.t5
  have e1:(t.set 6 (aa .i64 n)).getD 0 (.b9 [])=bY R:=(dV (by omega)).trans (getD_some s.t0)
  have e2:((t.set 6 (aa .i64 n)).set 7 (bY R)).getD 7 (.b9 [])=bY R:=aI (by simp;omega)
  have e3:(((t.set 6 (aa .i64 n)).set 7 (bY R)).set 8 (aa .i64 R.length)).getD 6 (.b9 [])=aa .i64 n:=(dV (by omega)).trans ((dV (by omega)).trans (aI (by omega)))
  have e4:(((t.set 6 (aa .i64 n)).set 7 (bY R)).set 8 (aa .i64 R.length)).getD 8 (.b9 [])=aa .i64 R.length:=aI (by simp;omega)
  have e5:t1.getD 9 (.b9 [])=az (decide (n<R.length)):=aI (by simp;omega)
  have e6:asList [] (bY R)=some R:=rfl
  have e7:decide ((n:Int)<(R.length:Int))=decide (n<R.length):=by
   by_cases h:n<R.length
   ·rw[decide_eq_true h,decide_eq_true (by omega)]
   ·rw[decide_eq_false h,decide_eq_false (by omega)]
  refine⟨t1,?_,by simp[t1],?_,?_,?_⟩
  ·simp only[Je,ap,ah,aG,bc,bG,Opd.ev,e0,put,e1,e2,e6,e3,e4,bin,if_true,cG,e7]
   have aA:=e5
   simp only[t1]at aA
   rw[aA]
   by_cases h:n<R.length
   ·simp only[isBool,h,decide_true,if_true,t1]
   ·simp only[isBool,h,decide_false,Zy,if_false,t1]
  ·simp only[t1];rw[Za (by omega),Za (by omega),Za (by omega),Za (by omega)];exact s.t0
  ·simp only[t1];rw[Za (by omega),Za (by omega),Za (by omega),Za (by omega)];exact s.t1
  ·simp only[t1];rw[Za (by omega),Za (by omega),Za (by omega),Za (by omega)];exact s.t5
 induction rest with
 |nil=>
  intro done k t ad s hr h0 hk hl
  simp only[cM,Zw]at ad
  obtain⟨t',a1,a2,a3⟩:=head done.length k t s hl
  refine⟨t',jt ?_ (by simp),a2,by simp only[cM];exact a3.t1⟩
  have:¬done.length<R.length:=by rw[ad];omega
  simp only[MF,ap,a1,this,if_false]
 |cons r rest ih=>
  intro done k t ad s hr h0 hk hl
  obtain⟨t1,a1,a2,a3⟩:=head done.length k t s hl
  simp only[cM]at hk ad
  have hle:=pW mT rest (qe mT r k).2
  have aS:=Cq mT r k
  have aq:done.length<R.length:=by rw[ad];simp
  obtain⟨t2,b1,b2,b3⟩:=P5 hT (rows:=R) (z:=ts.length) (i:=done.length) ts xs (c:=12) (dn:=[]) (row:=r) (k:=k) (t:=t1) hm (hr r (by simp)) (by rw[ad,Zk (Zn _),Zb6];rfl) (by simp) a3 h0 (by omega) (Zn _) (by omega)
  have hw:=lm (k:=done.length) (by unfold maxLen at hR;omega)
  let t3:=((t2.set 10 (aa .i64 done.length)).set 11 (aa .i64 ((done.length:Int)+1))).set 5 (aa .i64 ((done.length:Int)+1))
  have f0:=getD_some b3.t5
  have f1:(t2.set 10 (aa .i64 done.length)).getD 10 (.b9 [])=aa .i64 done.length:=aI (by omega)
  have f2:((t2.set 10 (aa .i64 done.length)).set 11 (aa .i64 ((done.length:Int)+1))).getD 11 (.b9 [])=aa .i64 ((done.length:Int)+1):=aI (by simp;omega)
  have f3:ap (ag Φ ext) aF (Kj 5 10) ⟨t2,[]⟩=some (.normal,⟨t3,[]⟩):=by
   simp only[Kj,ap,ah,aG,bc,bG,Opd.ev,f0,put,f1,bin,if_true,cG,hw,f2,t3]
  have s3:YY R (done++[(qe mT r k).1]).length (qe mT r k).2 t3:=by
   have an:(done++[(qe mT r k).1]).length=done.length+1:=by simp
   rw[an]
   refine⟨?_,?_,?_⟩
   ·simp only[t3];rw[Za (by omega),Za (by omega),Za (by omega)];exact b3.t0
   ·simp only[t3];rw[Za (by omega),Za (by omega),Za (by omega)];exact b3.t1
   ·simp only[t3];exact Zd (by simp;omega)
  obtain⟨t4,g1,g2,g3⟩:=ih (done++[(qe mT r k).1]) (qe mT r k).2 t3 (by rw[ad];simp) s3 (fun r m=>hr r (by simp[m])) (by omega) hk (by simp[t3];omega)
  refine⟨t4,(gF (Z':=⟨t3,[]⟩) ?_).trans g1,by rw[g2];simp[t3];omega,by simp only[cM];exact g3⟩
  have hb:=Nk b1
  simp only[MF,ap,a1,aq,if_true,hb,f3]
def fE (hT:Dw Φ ext mT mt){f:Nat}{ts:List PTy}{xs:List MC}(hk:Φ f=some (jC mt ts xs))(hm:IW Φ ext mT 0 ts xs):hZ Φ ext mT f ts:=by
 have hN:=EF (mt:=mt) ts xs 12
 obtain⟨m,aH⟩:∃m,rR mt 12 ts xs+1-2=m+11:=⟨rR mt 12 ts xs-12,by omega⟩
 intro rows h k h0 ai
 obtain⟨aK,hr⟩:=bi h
 refine fW hk ?_
 have aL:start (jC mt ts xs) [bY (cM mT rows k).1,aa .i64 k]=⟨bY (cM mT rows k).1::aa .i64 k::List.replicate (m+11) (.b9 []),[]⟩:=by
  simp only[start,jC,Zo,Zx,Zg,Zi,aH]
 let t0:List V:=bY (cM mT rows k).1::aa .i64 k:: .b9 []:: .b9 []::aa .i64 0::aa .i64 0::List.replicate (m+7) (.b9 [])
 have aM:t0.length=rR mt 12 ts xs+1:=by simp[t0];omega
 obtain⟨t',a1,a2,a3⟩:=RE hT hm (R:=(cM mT rows k).1) (by rw[Qe];exact aK) rows [] k t0 (by simp) ⟨rfl,rfl,rfl⟩ hr h0 ai (by omega)
 have q1:t'.getD 1 (.b9 [])=aa .i64 (cM mT rows k).2:=getD_some a3
 have q2:(t'.set (rR mt 12 ts xs) (aa .i64 (cM mT rows k).2)).getD (rR mt 12 ts xs) (.b9 [])=aa .i64 (cM mT rows k).2:=aI (by omega)
 have ao:ap (ag Φ ext) aF (.seq (.region [⟨some (rR mt 12 ts xs), .mv (.tmp 1),none⟩,⟨some 4, .mv (.tmp (rR mt 12 ts xs)),none⟩]) .ret) ⟨t',[]⟩=some (.ret,⟨(t'.set (rR mt 12 ts xs) (aa .i64 (cM mT rows k).2)).set 4 (aa .i64 (cM mT rows k).2),[]⟩):=by
  simp only[ap,ah,aG,bc,bG,Opd.ev,q1,put,q2]
 have q3:((t'.set (rR mt 12 ts xs) (aa .i64 (cM mT rows k).2)).set 4 (aa .i64 (cM mT rows k).2)).getD 4 (.b9 [])=aa .i64 (cM mT rows k).2:=aI (by simp;omega)
 have ae:fB Φ ext (jC mt ts xs).body (start (jC mt ts xs) [bY (cM mT rows k).1,aa .i64 k])=some (.ret,⟨(t'.set (rR mt 12 ts xs) (aa .i64 (cM mT rows k).2)).set 4 (aa .i64 (cM mT rows k).2),[]⟩):=by
  rw[aL]
  generalize aN:Y5.seq (.region [⟨some (rR mt 12 ts xs), .mv (.tmp 1),none⟩,⟨some 4, .mv (.tmp (rR mt 12 ts xs)),none⟩]) .ret=ec at ao
  have af:List.replicate (m+11) (V.b9 [])= .b9 []:: .b9 []:: .b9 []:: .b9 []::List.replicate (m+7) (.b9 []):=rfl
  generalize ax:aF (ap (ag Φ ext) aF (MF mt ts xs))=lp at a1
  simp only[t0]at a1
  simp only[fB,jC,aN,af,ap,ah,aG,bc,bG,Opd.ev,put,U',ZT,ax,a1,if_true]
  exact ao
 rw[ae]
 simp only[done,jC,aZ,am,cj,q3,Y',Zb3,Zw,V.cells,bS,comp,aO,bJ]
 rfl
end
def Xh (c off:Nat)(g:Bool)(n f:Nat):List Z0:=[⟨some c, .bl (.tmp 2) off,none⟩,⟨some (c+1), .load g n (.tmp c),none⟩,⟨some (c+2), .mv (.tmp 1),none⟩,⟨some (c+3), .call f [.tmp (c+1), .tmp (c+2)] true false,none⟩,⟨some 1, .mv (.tmp (c+3)),none⟩]
def VF :Nat->Nat->List MS->Y5
 |c,_,[]=> .seq (.region [⟨some c, .mv (.tmp 1),none⟩,⟨some 4, .mv (.tmp c),none⟩]) .ret
 |c,off, .k ts::ss=>VF c (off+ts.length) ss
 |c,off, .s ts f::ss=> .seq (.region (Xh c off true ts.length f)) (.seq (p7 (c+4)) (VF (c+6) (off+ts.length) ss))
 |c,off, .l _ f::ss=> .seq (.region (Xh c off false 1 f)) (.seq (p7 (c+4)) (VF (c+6) (off+1) ss))
def Ty :Nat->List MS->Nat
 |c,[]=>c
 |c, .k _::ss=>Ty c ss
 |c,_::ss=>Ty (c+6) ss
def Af (ss:List MS):AFn:=⟨Ty 5 ss+1,[.tmp 4], .seq (.region [⟨some 2, .box (.tmp 0),none⟩,⟨some 4, .mv (.pv (.int .i64 0)),none⟩]) (VF 5 0 ss)⟩
def B6 :∀(ss:List MS)(c:Nat),c<=Ty c ss
 |[],c=>Zn _
 | .k ts::ss,c=>B6 ss c
 | .s ts f::ss,c=>Zc (by omega) (B6 ss (c+6))
 | .l us f::ss,c=>Zc (by omega) (B6 ss (c+6))
def Qf (mT:Int->List UInt8){ts:List PTy}{ps:List PV}(h:bF ts ps):∀k,(fY mT ps k).1.length=ts.length:=by
 refine gD (P:=fun ts ps=>∀k,(fY mT ps k).1.length=ts.length) (fun _=>rfl) ?_ ?_ ts ps h
 ·intro us rows ts ps _ _ ih k
  simp only[fY,Zo,ih]
 ·intro t p ts ps _ ht hp _ ih k
  rw[rf mT hp]
  simp only[Zo,ih]
section
variable {Φ:Nat->Option AFn}{ext:Nat->List V->Option V}{mT:Int->List UInt8}
def QL (Φ:Nat->Option AFn)(ext:Nat->List V->Option V)(mT:Int->List UInt8)(f:Nat)(ts:List PTy):Prop:=
 ∀row:List PV,bF ts row->∀k:Int,0<=k->(fY mT row k).2<=xN->ag Φ ext f [.agg ((fY mT row k).1.map .pv),aa .i64 k]=some (aa .i64 (fY mT row k).2)
def LF (Φ:Nat->Option AFn)(ext:Nat->List V->Option V)(mT:Int->List UInt8):List MS->Prop
 |[]=>True
 | .k ts::ss=>ts.all PTy.flatT=true/\ LF Φ ext mT ss
 | .s ts f::ss=>QL Φ ext mT f ts/\ LF Φ ext mT ss
 | .l us f::ss=>hZ Φ ext mT f us/\ LF Φ ext mT ss
def P4 {g:Bool}{n f c:Nat}{A:List L}{off:Nat}{v:V}{k k2:Int}{t:List V}(h1:t[1]? =some (aa .i64 k))(h2:t[2]? =some (.one (.ptr 0 0 0)))(hc:5<=c)(hl:c+5<t.length)(ai:0<=k2)
 (a6:gv g n off A=some v) (hv:al [.box A] [v,aa .i64 k]=some [v,aa .i64 k]) (a7:ag Φ ext f [v,aa .i64 k]=some (aa .i64 k2)) {lp}:
 ∃t',ap (ag Φ ext) lp (.seq (.region (Xh c off g n f)) (p7 (c+4))) ⟨t,[.box A]⟩=some (.normal,⟨t',[.box A]⟩)/\ t'.length=t.length/\ t'[1]? =some (aa .i64 k2)/\ t'[2]? =some (.one (.ptr 0 0 0)):=by
 have e1:=getD_some h1
 have e2:=getD_some h2
 have q1:(t.set c (V.one (.ptr 0 0 off))).getD c (.b9 [])= .one (.ptr 0 0 off):=aI (by omega)
 have q2:((t.set c (V.one (.ptr 0 0 off))).set (c+1) v).getD 1 (.b9 [])=aa .i64 k:=(dV (by omega)).trans ((dV (by omega)).trans e1)
 have q3:(((t.set c (V.one (.ptr 0 0 off))).set (c+1) v).set (c+2) (aa .i64 k)).getD (c+1) (.b9 [])=v:=(dV (by omega)).trans (aI (by simp;omega))
 have q4:(((t.set c (V.one (.ptr 0 0 off))).set (c+1) v).set (c+2) (aa .i64 k)).getD (c+2) (.b9 [])=aa .i64 k:=aI (by simp;omega)
 have q5:((((t.set c (V.one (.ptr 0 0 off))).set (c+1) v).set (c+2) (aa .i64 k)).set (c+3) (aa .i64 k2)).getD (c+3) (.b9 [])=aa .i64 k2:=aI (by simp;omega)
 let t1:=((((t.set c (V.one (.ptr 0 0 off))).set (c+1) v).set (c+2) (aa .i64 k)).set (c+3) (aa .i64 k2)).set 1 (aa .i64 k2)
 have r1:ah (ag Φ ext) (Xh c off g n f) ⟨t,[.box A]⟩=some ⟨t1,[.box A]⟩:=by
  simp only[Xh,ah,aG,bc,bG,Opd.ev,e2,put,ZO,q1,bA,A',if_true,a6,q2,Bool.or_false,Zv,Zz,q3,q4,hv,a7,Zb7,V.flat,L.flat,Zb8,G',Zy,if_false,da,df,q5,t1]
 have l1:t1.length=t.length:=by simp[t1]
 have g1:t1[1]? =some (aa .i64 k2):=Zd (by simp;omega)
 have g2:t1[2]? =some (.one (.ptr 0 0 0)):=by simp only[t1];rw[Za (by omega),Za (by omega),Za (by omega),Za (by omega),Za (by omega)];exact h2
 have r2:=Qi (call:=ag Φ ext) (lp:=lp) (h:=[.box A]) (c:=c+4) g1 (by omega) (by omega)
 refine⟨_,by simp only[ap,r1,r2];rfl,by simp;omega,?_,?_⟩
 ·rw[Za (by omega),Za (by omega)];exact g1
 ·rw[Za (by omega),Za (by omega)];exact g2
def EE :∀(ss:List MS),LF Φ ext mT ss->∀{c:Nat}{dn b:List PV}{k:Int}{t:List V},bF (iu ss) b->0<=k->(fY mT b k).2<=xN->t[1]? =some (aa .i64 k)->t[2]? =some (.one (.ptr 0 0 0))->5<=c->Ty c ss<t.length->
 ∃t' h',ap (ag Φ ext) aF (VF c dn.length ss) ⟨t,[.box ((dn++(fY mT b k).1).map .pv)]⟩=some (.ret,⟨t',h'⟩)/\ t'.getD 4 (.b9 [])=aa .i64 (fY mT b k).2
 |[],_,c,dn,b,k,t,hb,h0,hk,h1,h2,hc,hl=>by
  obtain rfl:=fv hb
  simp only[Ty]at hl
  have q2:(t.set c (aa .i64 k)).getD c (.b9 [])=aa .i64 k:=aI hl
  refine⟨(t.set c (aa .i64 k)).set 4 (aa .i64 k),[.box ((dn++(fY mT [] k).1).map .pv)],?_,by simp only[fY];exact aI (by simp;omega)⟩
  simp only[VF,ap,ah,aG,bc,bG,Opd.ev,getD_some h1,put,q2]
 | .k ts::ss,a8,c,dn,b,k,t,hb,h0,hk,h1,h2,hc,hl=>by
  simp only[iu,MS.ts]at hb
  obtain⟨x,y,rfl,hx,hy⟩:=lZ (ts:=ts) hb
  have flat:∀{ts:List PTy}{x:List PV},bF ts x->ts.all PTy.flatT=true->∀k,fY mT x k=(x,k):=by
   intro ts x h
   refine gD (P:=fun ts x=>ts.all PTy.flatT=true->∀k,fY mT x k=(x,k)) (fun _ _=>rfl) ?_ ?_ ts x h
   ·intro us rows ts ps _ _ _ ha
    simp[PTy.flatT]at ha
   ·intro t p ts ps _ ht hp _ ih ha
    simp only[Zq,Zh]at ha
    exact fun k=>by rw[rf mT hp,ih ha.2]
  have m0:=flat hx a8.1
  rw[mH,m0]at hk⊢
  have hlen:(dn++x).length=dn.length+ts.length:=by rw[Zu,kN hx]
  obtain⟨t',h',r1,r2⟩:=EE ss a8.2 (c:=c) (dn:=dn++x) hy h0 hk h1 h2 hc hl
  rw[hlen,List.append_assoc]at r1
  exact⟨t',h',r1,r2⟩
 | .s ts f::ss,a8,c,dn,b,k,t,hb,h0,hk,h1,h2,hc,hl=>by
  simp only[iu,MS.ts]at hb
  obtain⟨x,y,rfl,hx,hy⟩:=lZ (ts:=ts) hb
  have hN:=B6 ss (c+6)
  simp only[Ty]at hl
  rw[mH]at hk⊢
  have hle:=oe mT y (fY mT x k).2
  have aB:=oe mT x k
  have au:=Qf mT hx k
  simp only at hk hle
  have a6:gv true ts.length dn.length ((dn++((fY mT x k).1++(fY mT y (fY mT x k).2).1)).map .pv)=some (.agg ((fY mT x k).1.map .pv)):=by rw[<-au];exact nB (agg:=true) (.inl rfl)
  obtain⟨t1,a1,a2,a3,a4⟩:=P4 (Φ:=Φ) (ext:=ext) (lp:=aF) h1 h2 hc (by omega) (by omega) a6 (by simp only[al,t7];rfl) (a8.1 x hx k h0 (by omega))
  have hlen:(dn++(fY mT x k).1).length=dn.length+ts.length:=by rw[Zu,au]
  obtain⟨t2,h',b1,b2⟩:=EE ss a8.2 (c:=c+6) (dn:=dn++(fY mT x k).1) (b:=y) (k:=(fY mT x k).2) (t:=t1) hy (by omega) hk a3 a4 (by omega) (by omega)
  refine⟨t2,h',?_,b2⟩
  rw[hlen,List.append_assoc]at b1
  simp only[ap]at a1
  simp only[VF,ap]
  split at a1
  ·rename_i σ1 e1
   simp only[e1,a1]
   exact b1
  ·exact absurd a1 (by intro h;simp_all)
 | .l us f::ss,a8,c,dn,b,k,t,hb,h0,hk,h1,h2,hc,hl=>by
  simp only[iu,MS.ts]at hb
  obtain⟨x,y,rfl,hx,hy⟩:=lZ (ts:=[.lst us]) hb
  have hN:=B6 ss (c+6)
  simp only[Ty]at hl
  rw[mH]at hk⊢
  have hle:=oe mT y (fY mT x k).2
  have aB:=oe mT x k
  have au:=Qf mT hx k
  have aP:=hx
  obtain⟨p,x',rfl,hp,hn⟩:=ee aP
  obtain rfl:=fv hn
  obtain⟨rows,rfl⟩:=pg hp
  simp only[fY]at hk hle aB au⊢
  have a6:gv false 1 dn.length ((dn++([PV.lst (cM mT rows k).1]++(fY mT y (cM mT rows k).2).1)).map .pv)=some (.one (.pv (.lst (cM mT rows k).1))):=nB (agg:=false) (a:=[.lst (cM mT rows k).1]) (.inr rfl)
  obtain⟨t1,a1,a2,a3,a4⟩:=P4 (Φ:=Φ) (ext:=ext) (lp:=aF) h1 h2 hc (by omega) (by omega) a6 rfl (a8.1 rows hp k h0 (by omega))
  have hlen:(dn++[PV.lst (cM mT rows k).1]).length=dn.length+1:=by simp
  obtain⟨t2,h',b1,b2⟩:=EE ss a8.2 (c:=c+6) (dn:=dn++[PV.lst (cM mT rows k).1]) (b:=y) (k:=(cM mT rows k).2) (t:=t1) hy (by omega) hk a3 a4 (by omega) (by omega)
  refine⟨t2,h',?_,b2⟩
  rw[hlen,List.append_assoc]at b1
  simp only[ap]at a1
  simp only[VF,ap]
  split at a1
  ·rename_i σ1 e1
   simp only[e1,a1]
   exact b1
  ·exact absurd a1 (by intro h;simp_all)
def Ag {f:Nat}{ss:List MS}(hk:Φ f=some (Af ss))(a8:LF Φ ext mT ss):QL Φ ext mT f (iu ss):=by
 intro row hr k h0 ai
 have hN:=B6 ss 5
 obtain⟨m,hm⟩:∃m,Ty 5 ss+1-2=m+4:=⟨Ty 5 ss-5,by omega⟩
 refine fW hk ?_
 have aQ:((fY mT row k).1.map L.pv).all plain=true:=by simp[plain]
 let t0:List V:= .agg ((fY mT row k).1.map .pv)::aa .i64 k:: .one (.ptr 0 0 0):: .b9 []::aa .i64 0::List.replicate (m+1) (.b9 [])
 have aM:t0.length=Ty 5 ss+1:=by simp[t0];omega
 obtain⟨t',h',a1,a2⟩:=EE (Φ:=Φ) (ext:=ext) ss a8 (c:=5) (dn:=[]) (b:=row) (k:=k) (t:=t0) hr h0 ai rfl rfl (Zn _) (by omega)
 have af:List.replicate (m+4) (V.b9 [])= .b9 []:: .b9 []:: .b9 []::List.replicate (m+1) (.b9 []):=rfl
 have ae:fB Φ ext (Af ss).body (start (Af ss) [.agg ((fY mT row k).1.map .pv),aa .i64 k])=some (.ret,⟨t',h'⟩):=by
  simp only[t0,Zx,Zi]at a1
  simp only[fB,Af,start,Zo,Zx,ZO,Nat.reduceAdd,hm,Zg,Zi,af,ap,ah,aG,bc,bG,cz,Opd.ev,put,Zb0,V.cells,aQ,if_true,U',ZT]
  exact a1
 rw[ae]
 simp only[done,Af,aZ,am,cj,a2,Y',Zb3,Zw,V.cells,bS,comp,aO,bJ]
 rfl
end
end Gi
