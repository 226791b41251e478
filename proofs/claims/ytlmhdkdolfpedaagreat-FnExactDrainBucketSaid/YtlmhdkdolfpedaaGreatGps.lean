/- Of this proof. -/
import Derived.Test.YtlmhdkdolfpedaaGreatGpq
set_option linter.all false
namespace Gi
open Go Go.RowKit
def acB :List Q6->Q6
 |[]=> .skip
 |[a]=>a
 |a::b::r=> .seq a (acB (b::r))
def AT (call:Nat->List V->Option V)(lp:(St->Option (Ex×St))->St->Option (Ex×St)):List Q6->St->Option St
 |[],Z=>some Z
 |a::r,Z=>match cD call lp a Z with
  |some (.normal,Z')=>AT call lp r Z'
  |_=>none
def Rz {call:Nat->List V->Option V}{lp:(St->Option (Ex×St))->St->Option (Ex×St)}:∀{xz:List Q6}{Z Z':St},AT call lp xz Z=some Z'->cD call lp (acB xz) Z=some (.normal,Z')
 |[],Z,Z',h=>by simp only[AT]at h;cases h;rfl
 |[a],Z,Z',h=>by simp only[AT]at h;split at h;rename_i σ1 h1;cases h;exact h1;cases h
 |a::b::r,Z,Z',h=>by rw[AT]at h;split at h;rename_i σ1 h1;have:=Rz (xz:=b::r) h;simp only[acB,cD,h1,this];cases h
def Rv {call:Nat->List V->Option V}{lp:(St->Option (Ex×St))->St->Option (Ex×St)}:∀{xz bs:List Q6}{Z Z':St},AT call lp xz Z=some Z'->AT call lp (xz++bs) Z=AT call lp bs Z'
 |[],bs,Z,Z',h=>by simp only[AT]at h;cases h;rfl
 |a::xz,bs,Z,Z',h=>by simp only[AT,Zh]at h⊢;split at h;rename_i σ1 h1;exact Rv h;cases h
def HD (mt c:Nat):PTy->List X2
 | .int .i64=>[]
 | .int κ=>[⟨some (c+3), .conv κ (.tmp (c+2)),none⟩]
 | .str=>[⟨some (c+3), .call mt [.tmp (c+2)] true true,none⟩]
 | .bool=>[⟨some (c+3), .bin .rem (.tmp (c+2)) (.pv (.int .i64 3)),none⟩,⟨some (c+4), .bin .eql (.tmp (c+3)) (.pv (.int .i64 0)),none⟩]
 | .lst _=>[]
def afw :Q6:= .seq (.region [⟨some 4, .mv (.pv (.int .i64 (-1))),none⟩]) .ret
def ldH (z c:Nat)(x:MC):List X2:=UC c++(⟨some (c+2), .bF z (.tmp c) (.tmp (c+1)),none⟩::(wS (c+2) x.p++[⟨some (c+3+x.p.length), .load false 1 (.tmp (c+2+x.p.length)),none⟩,⟨some (c+4+x.p.length), .mv (.tmp 1),none⟩]))
def acb (z mt c:Nat)(t:PTy)(x:MC):List Q6:=
 let d:=c+2+x.p.length
 let v:=d+2+(HD mt d t).length
 [.seq (.region (ldH z c x++(HD mt d t++[⟨some (v+1),Lz t (.tmp (d+1)) (.tmp v),none⟩]))) (.cond (.tmp (v+1)) afw .skip), .region (S6 (v+2))]
def adF (z c:Nat)(x:MC):List Q6:=
 let d:=c+2+x.p.length
 [.region (ldH z c x++[⟨some (d+3), .call x.f [.tmp (d+1), .tmp (d+2)] true false,none⟩,⟨some 1, .mv (.tmp (d+3)),none⟩]),t9 (d+4)]
def adE (z mt c:Nat):PTy->MC->List Q6
 | .lst _,x=>adF z c x
 |t,x=>acb z mt c t x
def Nx (mt c:Nat):PTy->MC->Nat
 | .lst _,x=>c+8+x.p.length
 |t,x=>c+8+(HD mt (c+2+x.p.length) t).length+x.p.length
def acd (z mt:Nat):Nat->List PTy->List MC->List Q6
 |c,t::ts,x::xs=>adE z mt c t x++acd z mt (Nx mt c t x) ts xs
 |_,_,_=>[]
def vI (mt:Nat):Nat->List PTy->List MC->Nat
 |c,t::ts,x::xs=>vI mt (Nx mt c t x) ts xs
 |c,_,_=>c
def PY (mt:Nat)(ts:List PTy)(xs:List MC):Q6:= .seq (Ma 5 0 6) (.seq (.block 1 (acB (acd ts.length mt 12 ts xs))) (Nv 5 10))
def mh (mt:Nat)(ts:List PTy)(xs:List MC):AFn:=⟨vI mt 12 ts xs+1,[.tmp 4], .seq (.region [⟨some 4, .mv (.pv (.int .i64 0)),none⟩]) (.seq (.seq (.region [⟨some 5, .mv (.pv (.int .i64 0)),none⟩]) (.block 0 (.loop (PY mt ts xs)))) (.seq (.region [⟨some (vI mt 12 ts xs), .mv (.tmp 1),none⟩,⟨some 4, .mv (.tmp (vI mt 12 ts xs)),none⟩]) .ret))⟩
def Pk {call:Nat->List V->Option V}{e:List PV}:∀{p:List Nat}{c j:Nat}{t:List V}{h:List Q0},t[c]? =some (.one (.ip e j))->c+p.length<t.length->
 ∃t',cj call (wS c p) ⟨t,h⟩=some ⟨t',h⟩/\ t'.length=t.length/\ t'[c+p.length]? =some (.one (.ip e (j+p.sum)))/\ ∀n≤c,t'[n]? =t[n]?
 |[],c,j,t,h,hc,hl=>⟨t,rfl,rfl,by simpa using hc,fun _ _=>rfl⟩
 |d::ds,c,j,t,h,hc,hl=>by simp only[Zo]at hl;obtain⟨t',e1,e2,e3,e4⟩:=Pk (call:=call) (e:=e) (p:=ds) (c:=c+1) (j:=j+d) (t:=t.set (c+1) (.one (.ip e (j+d)))) (h:=h) (Zd (by omega)) (by simp;omega);refine⟨t',?_,by simpa using e2,?_,fun n hn=> ?_⟩;simp only[wS,cj,cS,dy,dX,Opd.ev,getD_some hc,put,e1];simp only[Zo,QY];rw[show c+(ds.length+1)=c+1+ds.length by omega,e3,Nat.add_assoc];rw[e4 n (by omega),Za (by omega)]
section
variable {Φ:Nat->Option AFn}{ext:Nat->List V->Option V}{mT:Int->List UInt8}{mt:Nat}
def abE (hT:Gx Φ ext mT mt){ty:PTy}{p:PV}(hp:qa ty p)(hf:ty.flatT=true){c:Nat}{k:Int}(h0:0<=k)(hk:k<Bf){t:List V}{h:List Q0}(h2:t[c+2]? =some (ce .i64 k))(hl:c+2+(HD mt c ty).length<t.length):
 ∃t',cj (cf Φ ext) (HD mt c ty) ⟨t,h⟩=some ⟨t',h⟩/\ t'.length=t.length/\ t'[c+2+(HD mt c ty).length]? =some (.one (.pv (oK mT p k).1))/\ ∀n≤c+2,t'[n]? =t[n]? :=by
 have e2:=getD_some h2;by_cases hs:ty= .str;subst hs;obtain⟨s,rfl⟩:=oh hp;simp only[HD,ZI]at hl⊢;refine⟨t.set (c+3) (fY (mT k)),?_,by simp,by simp only[oK];exact Zd (by omega),fun n hn=>Za (by omega)⟩;simp only[cj,cS,dy,dX,Bool.or_self,YI,if_true,Zt,Zy,Opd.ev,e2,cy,V.view,L.view,hT k h0 (by omega),V.flat,L.flat,Yv,ZY,Zz,if_false,fb,ft,put];have:HD mt c ty=AZ mt c ty:=by
  cases ty with
  |int κ=>cases κ<;>rfl
  |str=>exact absurd rfl hs
  |_=>rfl
 rw[this]at hl⊢;exact U2 hT hp hf h0 hk h2 hl
def Wb {ty:PTy}{p:PV}(hp:qa ty p)(hf:ty.flatT=true){k:Int}{t:List V}{a b:Nat}(ha:t[a]? =some (.one (.pv (oK mT p k).1)))(hb:t[b]? =some (.one (.pv (oK mT p k).1)))(call:Nat->List V->Option V)(h:List Q0):dX call ⟨t,h⟩ (Lz ty (.tmp a) (.tmp b))=some (cK false):=by
 have e1:=getD_some ha;have e2:=getD_some hb;cases ty with
 |lst us=>cases hf
 |str=>obtain⟨s,rfl⟩:=oh hp;simp only[Lz,dX,Opd.ev,e1,e2];exact JI rfl
 |int κ=>obtain⟨s,rfl⟩:=qh hp;simp only[Lz,dX,Opd.ev,e1,e2];exact JI rfl
 |bool=>obtain⟨s,rfl⟩:=oZ hp;simp only[Lz,dX,Opd.ev,e1,e2,oK,isBool];cases k.tmod 3==0<;>rfl
structure QB (rows:List (List PV)) (i:Nat) (k:Int) (t:List V):Prop where
 t0:t[0]? =some (eQ rows)
 t1:t[1]? =some (ce .i64 k)
 t5:t[5]? =some (ce .i64 i)
def Us {rows:List (List PV)}{e:List PV}{q:PV}{x:MC}{z i c:Nat}{k:Int}{t:List V}(s:QB rows i k t)(he:rows[i]? =some e)(hz:e.length=z)(hq:e[x.p.sum]? =some q)(hc:12<=c)(hl:c+4+x.p.length<t.length)(call:Nat->List V->Option V):
 ∃t',cj call (ldH z c x) ⟨t,[]⟩=some ⟨t',[]⟩/\ t'.length=t.length/\ t'[c+3+x.p.length]? =some (.one (.pv q))/\ t'[c+4+x.p.length]? =some (ce .i64 k)/\ ∀n<c,t'[n]? =t[n]? :=by
 let t1:=((t.set c (eQ rows)).set (c+1) (ce .i64 i)).set (c+2) (.one (.ip e 0));have a0:cj call (UC c++[⟨some (c+2), .bF z (.tmp c) (.tmp (c+1)),none⟩]) ⟨t,[]⟩=some ⟨t1,[]⟩:=by have e1:=getD_some s.t0;have e2:(t.set c (eQ rows)).getD 5 (.b8 [])=ce .i64 i:=(gI (by omega)).trans (getD_some s.t5);have e3:((t.set c (eQ rows)).set (c+1) (ce .i64 i)).getD c (.b8 [])=eQ rows:=(gI (by omega)).trans (db (by omega));have e4:((t.set c (eQ rows)).set (c+1) (ce .i64 i)).getD (c+1) (.b8 [])=ce .i64 i:=db (by simp;omega);simp only[UC,Zh,Zj,cj,cS,dy,dX,Opd.ev,e1,put,e2,e3,e4,isInt,Int.natCast_nonneg,if_true,Int.toNat_natCast,cN,he,hz,t1]
 have l1:t1.length=t.length:=by simp[t1]
 have g1:∀n,n<c->t1[n]? =t[n]? :=fun n hn=>by simp only[t1];rw[Za (by omega),Za (by omega),Za (by omega)]
 have ge:t1[c+2]? =some (.one (.ip e 0)):=by simp only[t1];exact Zd (by simp;omega)
 clear_value t1;obtain⟨t4,d1,d2,d3,d4⟩:=Pk (call:=call) (e:=e) (p:=x.p) (c:=c+2) (j:=0) (t:=t1) (h:=[]) ge (by omega);rw[ZJ]at d3;have a6:iZ false 1 x.p.sum (e.map L.pv)=some (.one (.pv q)):=by have hlt:=(Zb.1 hq).1;unfold iZ;rw[if_pos (by simp;omega)];simp[hq]
 have q1:(t4.set (c+3+x.p.length) (V.one (.pv q))).getD 1 (.b8 [])=ce .i64 k:=(gI (by omega)).trans (getD_some ((d4 1 (by omega)).trans ((g1 1 (by omega)).trans s.t1)));refine⟨(t4.set (c+3+x.p.length) (.one (.pv q))).set (c+4+x.p.length) (ce .i64 k),?_,by simp;omega,by rw[Za (by omega)];exact Zd (by omega),Zd (by simp;omega),fun n hn=>by rw[Za (by omega),Za (by omega),d4 n (by omega),g1 n hn]⟩;have ag:ldH z c x=(UC c++[⟨some (c+2), .bF z (.tmp c) (.tmp (c+1)),none⟩])++(wS (c+2) x.p++[⟨some (c+3+x.p.length), .load false 1 (.tmp (c+2+x.p.length)),none⟩,⟨some (c+4+x.p.length), .mv (.tmp 1),none⟩]):=by simp only[ldH,List.append_assoc,Zh,Zj]
 rw[ag,fe _ _ _ a0,fe _ _ _ d1];simp only[cj,cS,dy,dX,Opd.ev,getD_some d3,dM,a6,put,q1]
def ace {call:Nat->List V->Option V}{rows:List (List PV)}{i c:Nat}{k:Int}{t:List V}{h:List Q0}(s:QB rows i k t)(h0:0<=k)(hk:k<Bf)(hc:6<=c)(hl:c+1<t.length):
 ∃t',cj call (S6 c) ⟨t,h⟩=some ⟨t',h⟩/\ t'.length=t.length/\ QB rows i (k+1) t':=by
 have e1:=getD_some s.t1;have e2:(t.set c (ce .i64 k)).getD c (.b8 [])=ce .i64 k:=db (by omega);have hw:IntKind.i64.wrap (k+1)=k+1:=by rw[IntKind.wrap_i64];unfold Bf at hk;omega
 have e3:((t.set c (ce .i64 k)).set (c+1) (ce .i64 (k+1))).getD (c+1) (.b8 [])=ce .i64 (k+1):=db (by simp;omega);refine⟨((t.set c (ce .i64 k)).set (c+1) (ce .i64 (k+1))).set 1 (ce .i64 (k+1)),?_,by simp,?_,?_,?_⟩;simp only[S6,cj,cS,dy,dX,Opd.ev,e1,put,e2,bin,if_true,ff,hw,e3];rw[Za (by omega),Za (by omega),Za (by omega)];exact s.t0;exact Zd (by simp;omega);rw[Za (by omega),Za (by omega),Za (by omega)];exact s.t5
def aaK (hT:Gx Φ ext mT mt){rows:List (List PV)}{ty:PTy}{p:PV}{x:MC}{e:List PV}{z i c:Nat}{k:Int}{t:List V}(hp:qa ty p)(hf:ty.flatT=true)(s:QB rows i k t)(h0:0<=k)(hk:k<Bf)(hc:12<=c)(he:rows[i]? =some e)(hz:e.length=z)(hq:e[x.p.sum]? =some (oK mT p k).1)(hl:c+8+(HD mt (c+2+x.p.length) ty).length+x.p.length<=t.length):
 ∃t',AT (cf Φ ext) cR (acb z mt c ty x) ⟨t,[]⟩=some ⟨t',[]⟩/\ t'.length=t.length/\ QB rows i (oK mT p k).2 t':=by
 obtain⟨t1,a1,a2,a3,a4,a5⟩:=Us s he hz hq hc (by omega) (cf Φ ext);generalize hd:c+2+x.p.length=d at*;rw[show c+3+x.p.length=d+1 by omega]at a3;rw[show c+4+x.p.length=d+2 by omega]at a4;obtain⟨t2,b1,b2,b3,b4⟩:=abE (h:=[]) hT hp hf h0 hk a4 (by omega);generalize hv:d+2+(HD mt d ty).length=v at*;have b5:t2[d+1]? =some (.one (.pv (oK mT p k).1)):=(b4 (d+1) (by omega)).trans a3;have c1:=Wb hp hf b5 b3 (cf Φ ext) [];have q1:(t2.set (v+1) (cK false)).getD (v+1) (.b8 [])=cK false:=db (by omega);have low:∀n,n<c->(t2.set (v+1) (cK false))[n]? =t[n]? :=fun n hn=>by rw[Za (by omega),b4 n (by omega),a5 n hn]
 obtain⟨t5,i1,i2,i3⟩:=ace (call:=cf Φ ext) (c:=v+2) (h:=[]) (⟨(low 0 (by omega)).trans s.t0,(low 1 (by omega)).trans s.t1,(low 5 (by omega)).trans s.t5⟩:QB rows i k (t2.set (v+1) (cK false))) h0 hk (by omega) (by simp;omega);have f3:=(DA (mT:=mT) hp hf k).2.2;refine⟨t5,?_,by rw[i2];simp;omega,by rw[f3];exact i3⟩;have aa:cj (cf Φ ext) (ldH z c x++(HD mt d ty++[⟨some (v+1),Lz ty (.tmp (d+1)) (.tmp v),none⟩])) ⟨t,[]⟩=some ⟨t2.set (v+1) (cK false),[]⟩:=by rw[fe _ _ _ a1,fe _ _ _ b1];simp only[cj,cS,dy,c1,put]
 simp only[acb,hd,hv,AT,cD,aa,Opd.ev,q1,isBool,Zz,if_false,i1]
def kg (Φ:Nat->Option AFn)(ext:Nat->List V->Option V)(mT:Int->List UInt8)(f:Nat)(ts:List PTy):Prop:=
 ∀rows:List (List PV),qa (.lst ts) (.lst rows)->∀k:Int,0<=k->(fu mT rows k).2<=Bf->cf Φ ext f [eQ (fu mT rows k).1,ce .i64 k]=some (ce .i64 (fu mT rows k).2)
def aaL {rows:List (List PV)}{us:List PTy}{ys:List (List PV)}{x:MC}{e:List PV}{z i c:Nat}{k:Int}{t:List V}(hO:kg Φ ext mT x.f us)(hp:qa (.lst us) (.lst ys))(s:QB rows i k t)(h0:0<=k)(hk:(fu mT ys k).2<=Bf)(hc:12<=c)(he:rows[i]? =some e)(hz:e.length=z)(hq:e[x.p.sum]? =some (oK mT (.lst ys) k).1)(hl:c+8+x.p.length<=t.length):
 ∃t',AT (cf Φ ext) cR (adF z c x) ⟨t,[]⟩=some ⟨t',[]⟩/\ t'.length=t.length/\ QB rows i (oK mT (.lst ys) k).2 t':=by
 obtain⟨t1,a1,a2,a3,a4,a5⟩:=Us s he hz hq hc (by omega) (cf Φ ext);have hle:=tV mT ys k;generalize hd:c+2+x.p.length=d at*;rw[show c+3+x.p.length=d+1 by omega]at a3;rw[show c+4+x.p.length=d+2 by omega]at a4;simp only[oK]at a3⊢;generalize af:(fu mT ys k).2=k2 at*;have a7:=hO ys hp k h0 (by omega);rw[af]at a7;generalize (fu mT ys k).1=ak at*;have e1:=getD_some a3;have e2:=getD_some a4;have q1:(t1.set (d+3) (ce .i64 k2)).getD (d+3) (.b8 [])=ce .i64 k2:=db (by omega);have an:cy [] [eQ ak,ce .i64 k]=some [eQ ak,ce .i64 k]:=rfl;let t2:=(t1.set (d+3) (ce .i64 k2)).set 1 (ce .i64 k2);have aa:cj (cf Φ ext) (ldH z c x++[⟨some (d+3), .call x.f [.tmp (d+1), .tmp (d+2)] true false,none⟩,⟨some 1, .mv (.tmp (d+3)),none⟩]) ⟨t,[]⟩=some ⟨t2,[]⟩:=by rw[fe _ _ _ a1];have aw:cy [] [V.one (L.pv (PV.lst ak)),ce .i64 k]=some [eQ ak,ce .i64 k]:=rfl;simp only[cj,cS,dy,dX,QX,YI,if_true,Zt,Zy,Opd.ev,e1,e2,aw,a7,V.flat,L.flat,Yv,ZY,Zz,if_false,fb,ft,put,q1,t2]
 have l2:t2.length=t.length:=by simp[t2];omega
 have q2:t2.getD 1 (.b8 [])=ce .i64 k2:=db (by simp;omega);have q3:(t2.set (d+4) (ce .i64 k2)).getD (d+4) (.b8 [])=ce .i64 k2:=db (by omega);have q4:((t2.set (d+4) (ce .i64 k2)).set (d+5) (cK false)).getD (d+5) (.b8 [])=cK false:=db (by simp;omega);have hlt:decide (k2<0)=false:=decide_eq_false (by omega);refine⟨(t2.set (d+4) (ce .i64 k2)).set (d+5) (cK false),?_,by simp;omega,?_,?_,?_⟩;have h5:d+4+1=d+5:=by omega
 simp only[adF,hd,AT,cD,aa,t9,cj,cS,dy,dX,Opd.ev,q2,put,q3,bin,if_true,ff,hlt,h5,q4,isBool,Zz,if_false];simp only[t2];rw[Za (by omega),Za (by omega),Za (by omega),Za (by omega)];exact(a5 0 (by omega)).trans s.t0;rw[Za (by omega),Za (by omega)];exact Zd (by simp;omega);simp only[t2];rw[Za (by omega),Za (by omega),Za (by omega),Za (by omega)];exact(a5 5 (by omega)).trans s.t5
def LP (Φ:Nat->Option AFn)(ext:Nat->List V->Option V)(mT:Int->List UInt8):Nat->List PTy->List MC->Prop
 |j, .lst us::ts,x::xs=>x.p.sum=j/\ kg Φ ext mT x.f us/\ LP Φ ext mT (j+1) ts xs
 |j,_::ts,x::xs=>x.p.sum=j/\ LP Φ ext mT (j+1) ts xs
 |_,[],[]=>True
 |_,_,_=>False
def HH :∀(ts:List PTy)(xs:List MC)(c:Nat),c<=vI mt c ts xs
 |[],_,c=>Zi _
 |_::_,[],c=>Zi _
 |t::ts,x::xs,c=>by simp only[vI];refine Zc ?_ (HH ts xs _);cases t<;>simp only[Nx]<;>omega
def Up (hT:Gx Φ ext mT mt){rows:List (List PV)}{z i:Nat}:∀(ts:List PTy)(xs:List MC){c:Nat}{dn row:List PV}{k:Int}{t:List V},LP Φ ext mT dn.length ts xs->dW ts row->rows[i]? =some (dn++(uj mT row k).1)->z=dn.length+ts.length->QB rows i k t->0<=k->(uj mT row k).2<=Bf->12<=c->vI mt c ts xs<=t.length->
 ∃t',AT (cf Φ ext) cR (acd z mt c ts xs) ⟨t,[]⟩=some ⟨t',[]⟩/\ t'.length=t.length/\ QB rows i (uj mT row k).2 t'
 |[],xs,c,dn,row,k,t,hm,hr,hE,hz,s,h0,hk,hc,hl=>by obtain rfl:=ja hr;cases xs<;>exact⟨t,rfl,rfl,by simpa only[uj]using s⟩
 |ty::ts,[],c,dn,row,k,t,hm,hr,hE,hz,s,h0,hk,hc,hl=>by cases ty<;>exact hm.elim
 |ty::ts,x::xs,c,dn,row,k,t,hm,hr,hE,hz,s,h0,hk,hc,hl=>by
  obtain⟨p,rest,rfl,hp,ao⟩:=gY hr;have hle:=Ft mT rest (oK mT p k).2;have aq:=Te mT p k;simp only[uj]at hk hE;simp only[vI]at hl;have hN:=HH (mt:=mt) ts xs (Nx mt c ty x);have ah:LP Φ ext mT (dn++[(oK mT p k).1]).length ts xs:=by
   have:(dn++[(oK mT p k).1]).length=dn.length+1:=by simp
   rw[this];cases ty<;>first|exact hm.2|exact hm.2.2
  have hx:x.p.sum=dn.length:=by cases ty<;>exact hm.1
  have ar:(dn++(oK mT p k).1::(uj mT rest (oK mT p k).2).1).length=z:=by rw[hz,Zv,Zo,Uy,nK ao];rfl
  have hq:(dn++(oK mT p k).1::(uj mT rest (oK mT p k).2).1)[x.p.sum]? =some (oK mT p k).1:=by rw[hx];exact HF
  have cell:∃t',AT (cf Φ ext) cR (adE z mt c ty x) ⟨t,[]⟩=some ⟨t',[]⟩/\ t'.length=t.length/\ QB rows i (oK mT p k).2 t':=by
   by_cases hf:ty.flatT=true
   ·have hR:adE z mt c ty x=acb z mt c ty x:=by cases ty<;>first|rfl|cases hf
    have ax:Nx mt c ty x=c+8+(HD mt (c+2+x.p.length) ty).length+x.p.length:=by cases ty<;>first|rfl|cases hf
    rw[hR];have:=(DA (mT:=mT) hp hf k).2.2;exact aaK hT hp hf s h0 (by omega) hc hE ar hq (by omega)
   cases ty with
   |lst us=>
    obtain⟨ys,rfl⟩:=sB hp;have ax:Nx mt c (.lst us) x=c+8+x.p.length:=rfl;have ay:(fu mT ys k).2<=Bf:=by simp only[oK]at hle hk;omega
    exact aaL hm.2.1 hp s h0 ay hc hE ar hq (by omega)
   |_=>exact absurd rfl hf
  obtain⟨t1,e1,e2,e3⟩:=cell;have aG:c<=Nx mt c ty x:=by cases ty<;>simp only[Nx]<;>omega
  obtain⟨t2,f1,f2,f3⟩:=Up hT (rows:=rows) (z:=z) (i:=i) ts xs (c:=Nx mt c ty x) (dn:=dn++[(oK mT p k).1]) (row:=rest) (k:=(oK mT p k).2) (t:=t1) ah ao (by rw[hE];simp) (by rw[hz];simp;omega) e3 (by omega) hk (by omega) (by omega);refine⟨t2,?_,by omega,by simp only[uj];exact f3⟩;simp only[acd];rw[Rv e1,f1]
def VW (hT:Gx Φ ext mT mt){ts:List PTy}{xs:List MC}(hm:LP Φ ext mT 0 ts xs){R:List (List PV)}(hR:R.length<=maxLen):∀(rest done:List (List PV))(k:Int)(t:List V),R=done++(fu mT rest k).1->QB R done.length k t->(∀r∈rest,dW ts r)->0<=k->(fu mT rest k).2<=Bf->vI mt 12 ts xs<=t.length->
 ∃t',cR (cD (cf Φ ext) cR (PY mt ts xs)) ⟨t,[]⟩=some (.exit 0,⟨t',[]⟩)/\ t'.length=t.length/\ t'[1]? =some (ce .i64 (fu mT rest k).2):=by
 intro rest;have hN:=HH (mt:=mt) ts xs 12;have head:∀(n:Nat)(k:Int)(t:List V),QB R n k t->vI mt 12 ts xs<=t.length->∃t',cD (cf Φ ext) cR (Ma 5 0 6) ⟨t,[]⟩=some (if n<R.length then .normal else .exit 0,⟨t',[]⟩)/\ t'.length=t.length/\ QB R n k t':=by
  intro n k t s hl;let t1:=(((t.set 6 (ce .i64 n)).set 7 (eQ R)).set 8 (ce .i64 R.length)).set 9 (cK (decide (n<R.length)));have e0:=getD_some s.t5;have e1:(t.set 6 (ce .i64 n)).getD 0 (.b8 [])=eQ R:=(gI (by omega)).trans (getD_some s.t0);have e2:((t.set 6 (ce .i64 n)).set 7 (eQ R)).getD 7 (.b8 [])=eQ R:=db (by simp;omega);have e3:(((t.set 6 (ce .i64 n)).set 7 (eQ R)).set 8 (ce .i64 R.length)).getD 6 (.b8 [])=ce .i64 n:=(gI (by omega)).trans ((gI (by omega)).trans (db (by omega)));have e4:(((t.set 6 (ce .i64 n)).set 7 (eQ R)).set 8 (ce .i64 R.length)).getD 8 (.b8 [])=ce .i64 R.length:=db (by simp;omega);have e5:t1.getD 9 (.b8 [])=cK (decide (n<R.length)):=db (by simp;omega);have e6:asList [] (eQ R)=some R:=rfl;have e7:decide ((n:Int)<(R.length:Int))=decide (n<R.length):=by by_cases h:n<R.length;rw[decide_eq_true h,decide_eq_true (by omega)];rw[decide_eq_false h,decide_eq_false (by omega)]
  refine⟨t1,?_,by simp[t1],?_,?_,?_⟩;simp only[Ma,cD,cj,cS,dy,dX,Opd.ev,e0,put,e1,e2,e6,e3,e4,bin,if_true,ff,e7];have au:=e5;simp only[t1]at au;rw[au];by_cases h:n<R.length;simp only[isBool,h,decide_true,if_true,t1];simp only[isBool,h,decide_false,Zz,if_false,t1];simp only[t1];rw[Za (by omega),Za (by omega),Za (by omega),Za (by omega)];exact s.t0;simp only[t1];rw[Za (by omega),Za (by omega),Za (by omega),Za (by omega)];exact s.t1;simp only[t1];rw[Za (by omega),Za (by omega),Za (by omega),Za (by omega)];exact s.t5
 induction rest with
 |nil=>
  intro done k t ab s hr h0 hk hl;simp only[fu,Zw]at ab;obtain⟨t',a1,a2,a3⟩:=head done.length k t s hl;refine⟨t',lW ?_ (by simp),a2,by simp only[fu];exact a3.t1⟩;have:¬done.length<R.length:=by rw[ab];omega
  simp only[PY,cD,a1,this,if_false]
 |cons r rest ih=>
  intro done k t ab s hr h0 hk hl;obtain⟨t1,a1,a2,a3⟩:=head done.length k t s hl;simp only[fu]at hk ab;have hle:=tV mT rest (uj mT r k).2;have aH:=Ft mT r k;have hlt:done.length<R.length:=by rw[ab];simp
  obtain⟨t2,b1,b2,b3⟩:=Up hT (rows:=R) (z:=ts.length) (i:=done.length) ts xs (c:=12) (dn:=[]) (row:=r) (k:=k) (t:=t1) hm (hr r (by simp)) (by rw[ab,Zm (Zi _),YH];rfl) (by simp) a3 h0 (by omega) (Zi _) (by omega);have hw:=oe (k:=done.length) (by unfold maxLen at hR;omega);let t3:=((t2.set 10 (ce .i64 done.length)).set 11 (ce .i64 ((done.length:Int)+1))).set 5 (ce .i64 ((done.length:Int)+1));have f0:=getD_some b3.t5;have f1:(t2.set 10 (ce .i64 done.length)).getD 10 (.b8 [])=ce .i64 done.length:=db (by omega);have f2:((t2.set 10 (ce .i64 done.length)).set 11 (ce .i64 ((done.length:Int)+1))).getD 11 (.b8 [])=ce .i64 ((done.length:Int)+1):=db (by simp;omega);have f3:cD (cf Φ ext) cR (Nv 5 10) ⟨t2,[]⟩=some (.normal,⟨t3,[]⟩):=by simp only[Nv,cD,cj,cS,dy,dX,Opd.ev,f0,put,f1,bin,if_true,ff,hw,f2,t3]
  have s3:QB R (done++[(uj mT r k).1]).length (uj mT r k).2 t3:=by
   have ai:(done++[(uj mT r k).1]).length=done.length+1:=by simp
   rw[ai];refine⟨?_,?_,?_⟩;simp only[t3];rw[Za (by omega),Za (by omega),Za (by omega)];exact b3.t0;simp only[t3];rw[Za (by omega),Za (by omega),Za (by omega)];exact b3.t1;simp only[t3];exact Zd (by simp;omega)
  obtain⟨t4,g1,g2,g3⟩:=ih (done++[(uj mT r k).1]) (uj mT r k).2 t3 (by rw[ab];simp) s3 (fun r m=>hr r (by simp[m])) (by omega) hk (by simp[t3];omega);refine⟨t4,(jN (Z':=⟨t3,[]⟩) ?_).trans g1,by rw[g2];simp[t3];omega,by simp only[fu];exact g3⟩;have hb:=Rz b1;simp only[PY,cD,a1,hlt,if_true,hb,f3]
def iL (hT:Gx Φ ext mT mt){f:Nat}{ts:List PTy}{xs:List MC}(hk:Φ f=some (mh mt ts xs))(hm:LP Φ ext mT 0 ts xs):kg Φ ext mT f ts:=by
 have hN:=HH (mt:=mt) ts xs 12;obtain⟨m,az⟩:∃m,vI mt 12 ts xs+1-2=m+11:=⟨vI mt 12 ts xs-12,by omega⟩;intro rows h k h0 af;obtain⟨aA,hr⟩:=dJ h;refine jg hk ?_;have aB:start (mh mt ts xs) [eQ (fu mT rows k).1,ce .i64 k]=⟨eQ (fu mT rows k).1::ce .i64 k::List.replicate (m+11) (.b8 []),[]⟩:=by simp only[start,mh,Zo,Zx,Zh,Zj,az]
 let t0:List V:=eQ (fu mT rows k).1::ce .i64 k:: .b8 []:: .b8 []::ce .i64 0::ce .i64 0::List.replicate (m+7) (.b8 []);have aC:t0.length=vI mt 12 ts xs+1:=by simp[t0];omega
 obtain⟨t',a1,a2,a3⟩:=VW hT hm (R:=(fu mT rows k).1) (by rw[Uz];exact aA) rows [] k t0 (by simp) ⟨rfl,rfl,rfl⟩ hr h0 af (by omega);have q1:t'.getD 1 (.b8 [])=ce .i64 (fu mT rows k).2:=getD_some a3;have q2:(t'.set (vI mt 12 ts xs) (ce .i64 (fu mT rows k).2)).getD (vI mt 12 ts xs) (.b8 [])=ce .i64 (fu mT rows k).2:=db (by omega);have aj:cD (cf Φ ext) cR (.seq (.region [⟨some (vI mt 12 ts xs), .mv (.tmp 1),none⟩,⟨some 4, .mv (.tmp (vI mt 12 ts xs)),none⟩]) .ret) ⟨t',[]⟩=some (.ret,⟨(t'.set (vI mt 12 ts xs) (ce .i64 (fu mT rows k).2)).set 4 (ce .i64 (fu mT rows k).2),[]⟩):=by simp only[cD,cj,cS,dy,dX,Opd.ev,q1,put,q2]
 have q3:((t'.set (vI mt 12 ts xs) (ce .i64 (fu mT rows k).2)).set 4 (ce .i64 (fu mT rows k).2)).getD 4 (.b8 [])=ce .i64 (fu mT rows k).2:=db (by simp;omega);have ad:iI Φ ext (mh mt ts xs).body (start (mh mt ts xs) [eQ (fu mT rows k).1,ce .i64 k])=some (.ret,⟨(t'.set (vI mt 12 ts xs) (ce .i64 (fu mT rows k).2)).set 4 (ce .i64 (fu mT rows k).2),[]⟩):=by rw[aB];generalize aD:Q6.seq (.region [⟨some (vI mt 12 ts xs), .mv (.tmp 1),none⟩,⟨some 4, .mv (.tmp (vI mt 12 ts xs)),none⟩]) .ret=ec at aj;have ae:List.replicate (m+11) (V.b8 [])= .b8 []:: .b8 []:: .b8 []:: .b8 []::List.replicate (m+7) (.b8 []):=rfl;generalize aq:cR (cD (cf Φ ext) cR (PY mt ts xs))=lp at a1;simp only[t0]at a1;simp only[iI,mh,aD,ae,cD,cj,cS,dy,dX,Opd.ev,put,Yf,ZP,aq,a1,if_true];exact aj
 rw[ad];simp only[done,mh,dd,cu,eY,q3,Y',YE,Zw,V.cells,ee,comp,cV,dS];rfl
end
def hgI (c off:Nat)(g:Bool)(n f:Nat):List X2:=[⟨some c, .bj (.tmp 2) off,none⟩,⟨some (c+1), .load g n (.tmp c),none⟩,⟨some (c+2), .mv (.tmp 1),none⟩,⟨some (c+3), .call f [.tmp (c+1), .tmp (c+2)] true false,none⟩,⟨some 1, .mv (.tmp (c+3)),none⟩]
def hgC :Nat->Nat->List MS->Q6
 |c,_,[]=> .seq (.region [⟨some c, .mv (.tmp 1),none⟩,⟨some 4, .mv (.tmp c),none⟩]) .ret
 |c,off, .k ts::ss=>hgC c (off+ts.length) ss
 |c,off, .s ts f::ss=> .seq (.region (hgI c off true ts.length f)) (.seq (t9 (c+4)) (hgC (c+6) (off+ts.length) ss))
 |c,off, .l _ f::ss=> .seq (.region (hgI c off false 1 f)) (.seq (t9 (c+4)) (hgC (c+6) (off+1) ss))
def hgN :Nat->List MS->Nat
 |c,[]=>c
 |c, .k _::ss=>hgN c ss
 |c,_::ss=>hgN (c+6) ss
def Di (ss:List MS):AFn:=⟨hgN 5 ss+1,[.tmp 4], .seq (.region [⟨some 2, .box (.tmp 0),none⟩,⟨some 4, .mv (.pv (.int .i64 0)),none⟩]) (hgC 5 0 ss)⟩
def E8 :∀(ss:List MS)(c:Nat),c<=hgN c ss
 |[],c=>Zi _
 | .k ts::ss,c=>E8 ss c
 | .s ts f::ss,c=>Zc (by omega) (E8 ss (c+6))
 | .l us f::ss,c=>Zc (by omega) (E8 ss (c+6))
def UA (mT:Int->List UInt8){ts:List PTy}{ps:List PV}(h:dW ts ps):∀k,(jk mT ps k).1.length=ts.length:=by refine jL (P:=fun ts ps=>∀k,(jk mT ps k).1.length=ts.length) (fun _=>rfl) ?_ ?_ ts ps h;intro us rows ts ps _ _ ih k;simp only[jk,Zo,ih];intro t p ts ps _ ht hp _ ih k;rw[vm mT hp];simp only[Zo,ih]
section
variable {Φ:Nat->Option AFn}{ext:Nat->List V->Option V}{mT:Int->List UInt8}
def U6 (Φ:Nat->Option AFn)(ext:Nat->List V->Option V)(mT:Int->List UInt8)(f:Nat)(ts:List PTy):Prop:=
 ∀row:List PV,dW ts row->∀k:Int,0<=k->(jk mT row k).2<=Bf->cf Φ ext f [.agg ((jk mT row k).1.map .pv),ce .i64 k]=some (ce .i64 (jk mT row k).2)
def OR (Φ:Nat->Option AFn)(ext:Nat->List V->Option V)(mT:Int->List UInt8):List MS->Prop
 |[]=>True
 | .k ts::ss=>ts.all PTy.flatT=true/\ OR Φ ext mT ss
 | .s ts f::ss=>U6 Φ ext mT f ts/\ OR Φ ext mT ss
 | .l us f::ss=>kg Φ ext mT f us/\ OR Φ ext mT ss
def Uo {g:Bool}{n f c:Nat}{A:List L}{off:Nat}{v:V}{k k2:Int}{t:List V}(h1:t[1]? =some (ce .i64 k))(h2:t[2]? =some (.one (.ptr 0 0 0)))(hc:5<=c)(hl:c+5<t.length)(af:0<=k2)
 (a6:iZ g n off A=some v) (hv:cy [.box A] [v,ce .i64 k]=some [v,ce .i64 k]) (a7:cf Φ ext f [v,ce .i64 k]=some (ce .i64 k2)) {lp}:
 ∃t',cD (cf Φ ext) lp (.seq (.region (hgI c off g n f)) (t9 (c+4))) ⟨t,[.box A]⟩=some (.normal,⟨t',[.box A]⟩)/\ t'.length=t.length/\ t'[1]? =some (ce .i64 k2)/\ t'[2]? =some (.one (.ptr 0 0 0)):=by
 have e1:=getD_some h1;have e2:=getD_some h2;have q1:(t.set c (V.one (.ptr 0 0 off))).getD c (.b8 [])= .one (.ptr 0 0 off):=db (by omega);have q2:((t.set c (V.one (.ptr 0 0 off))).set (c+1) v).getD 1 (.b8 [])=ce .i64 k:=(gI (by omega)).trans ((gI (by omega)).trans e1);have q3:(((t.set c (V.one (.ptr 0 0 off))).set (c+1) v).set (c+2) (ce .i64 k)).getD (c+1) (.b8 [])=v:=(gI (by omega)).trans (db (by simp;omega));have q4:(((t.set c (V.one (.ptr 0 0 off))).set (c+1) v).set (c+2) (ce .i64 k)).getD (c+2) (.b8 [])=ce .i64 k:=db (by simp;omega);have q5:((((t.set c (V.one (.ptr 0 0 off))).set (c+1) v).set (c+2) (ce .i64 k)).set (c+3) (ce .i64 k2)).getD (c+3) (.b8 [])=ce .i64 k2:=db (by simp;omega);let t1:=((((t.set c (V.one (.ptr 0 0 off))).set (c+1) v).set (c+2) (ce .i64 k)).set (c+3) (ce .i64 k2)).set 1 (ce .i64 k2);have r1:cj (cf Φ ext) (hgI c off g n f) ⟨t,[.box A]⟩=some ⟨t1,[.box A]⟩:=by simp only[hgI,cj,cS,dy,dX,Opd.ev,e2,put,ZJ,q1,dM,Yg,if_true,a6,q2,QX,Zt,Zy,q3,q4,hv,a7,YI,V.flat,L.flat,Yv,ZY,Zz,if_false,fb,ft,q5,t1]
 have l1:t1.length=t.length:=by simp[t1]
 have g1:t1[1]? =some (ce .i64 k2):=Zd (by simp;omega);have g2:t1[2]? =some (.one (.ptr 0 0 0)):=by simp only[t1];rw[Za (by omega),Za (by omega),Za (by omega),Za (by omega),Za (by omega)];exact h2
 have r2:=UD (call:=cf Φ ext) (lp:=lp) (h:=[.box A]) (c:=c+4) g1 (by omega) (by omega);refine⟨_,by simp only[cD,r1,r2];rfl,by simp;omega,?_,?_⟩;rw[Za (by omega),Za (by omega)];exact g1;rw[Za (by omega),Za (by omega)];exact g2
def HG :∀(ss:List MS),OR Φ ext mT ss->∀{c:Nat}{dn b:List PV}{k:Int}{t:List V},dW (kC ss) b->0<=k->(jk mT b k).2<=Bf->t[1]? =some (ce .i64 k)->t[2]? =some (.one (.ptr 0 0 0))->5<=c->hgN c ss<t.length->
 ∃t' h',cD (cf Φ ext) cR (hgC c dn.length ss) ⟨t,[.box ((dn++(jk mT b k).1).map .pv)]⟩=some (.ret,⟨t',h'⟩)/\ t'.getD 4 (.b8 [])=ce .i64 (jk mT b k).2
 |[],_,c,dn,b,k,t,hb,h0,hk,h1,h2,hc,hl=>by obtain rfl:=ja hb;simp only[hgN]at hl;have q2:(t.set c (ce .i64 k)).getD c (.b8 [])=ce .i64 k:=db hl;refine⟨(t.set c (ce .i64 k)).set 4 (ce .i64 k),[.box ((dn++(jk mT [] k).1).map .pv)],?_,by simp only[jk];exact db (by simp;omega)⟩;simp only[hgC,cD,cj,cS,dy,dX,Opd.ev,getD_some h1,put,q2]
 | .k ts::ss,a8,c,dn,b,k,t,hb,h0,hk,h1,h2,hc,hl=>by
  simp only[kC,MS.ts]at hb;obtain⟨x,y,rfl,hx,hy⟩:=oY (ts:=ts) hb;have flat:∀{ts:List PTy}{x:List PV},dW ts x->ts.all PTy.flatT=true->∀k,jk mT x k=(x,k):=by intro ts x h;refine jL (P:=fun ts x=>ts.all PTy.flatT=true->∀k,jk mT x k=(x,k)) (fun _ _=>rfl) ?_ ?_ ts x h;intro us rows ts ps _ _ _ ha;simp[PTy.flatT]at ha;intro t p ts ps _ ht hp _ ih ha;simp only[Zq,Zg]at ha;exact fun k=>by rw[vm mT hp,ih ha.2]
  have m0:=flat hx a8.1;rw[pD,m0]at hk⊢;have hlen:(dn++x).length=dn.length+ts.length:=by rw[Zv,nK hx]
  obtain⟨t',h',r1,r2⟩:=HG ss a8.2 (c:=c) (dn:=dn++x) hy h0 hk h1 h2 hc hl;rw[hlen,List.append_assoc]at r1;exact⟨t',h',r1,r2⟩
 | .s ts f::ss,a8,c,dn,b,k,t,hb,h0,hk,h1,h2,hc,hl=>by
  simp only[kC,MS.ts]at hb;obtain⟨x,y,rfl,hx,hy⟩:=oY (ts:=ts) hb;have hN:=E8 ss (c+6);simp only[hgN]at hl;rw[pD]at hk⊢;have hle:=qS mT y (jk mT x k).2;have av:=qS mT x k;have al:=UA mT hx k;simp only at hk hle;have a6:iZ true ts.length dn.length ((dn++((jk mT x k).1++(jk mT y (jk mT x k).2).1)).map .pv)=some (.agg ((jk mT x k).1.map .pv)):=by rw[<-al];exact ql (agg:=true) (.inl rfl)
  obtain⟨t1,a1,a2,a3,a4⟩:=Uo (Φ:=Φ) (ext:=ext) (lp:=cR) h1 h2 hc (by omega) (by omega) a6 (by simp only[cy,xy];rfl) (a8.1 x hx k h0 (by omega));have hlen:(dn++(jk mT x k).1).length=dn.length+ts.length:=by rw[Zv,al]
  obtain⟨t2,h',b1,b2⟩:=HG ss a8.2 (c:=c+6) (dn:=dn++(jk mT x k).1) (b:=y) (k:=(jk mT x k).2) (t:=t1) hy (by omega) hk a3 a4 (by omega) (by omega);refine⟨t2,h',?_,b2⟩;rw[hlen,List.append_assoc]at b1;simp only[cD]at a1;simp only[hgC,cD];split at a1;rename_i σ1 e1;simp only[e1,a1];exact b1;exact absurd a1 (by intro h;simp_all)
 | .l us f::ss,a8,c,dn,b,k,t,hb,h0,hk,h1,h2,hc,hl=>by
  simp only[kC,MS.ts]at hb;obtain⟨x,y,rfl,hx,hy⟩:=oY (ts:=[.lst us]) hb;have hN:=E8 ss (c+6);simp only[hgN]at hl;rw[pD]at hk⊢;have hle:=qS mT y (jk mT x k).2;have av:=qS mT x k;have al:=UA mT hx k;have aE:=hx;obtain⟨p,x',rfl,hp,hn⟩:=gY aE;obtain rfl:=ja hn;obtain⟨rows,rfl⟩:=sB hp;simp only[jk]at hk hle av al⊢;have a6:iZ false 1 dn.length ((dn++([PV.lst (fu mT rows k).1]++(jk mT y (fu mT rows k).2).1)).map .pv)=some (.one (.pv (.lst (fu mT rows k).1))):=ql (agg:=false) (a:=[.lst (fu mT rows k).1]) (.inr rfl);obtain⟨t1,a1,a2,a3,a4⟩:=Uo (Φ:=Φ) (ext:=ext) (lp:=cR) h1 h2 hc (by omega) (by omega) a6 rfl (a8.1 rows hp k h0 (by omega));have hlen:(dn++[PV.lst (fu mT rows k).1]).length=dn.length+1:=by simp
  obtain⟨t2,h',b1,b2⟩:=HG ss a8.2 (c:=c+6) (dn:=dn++[PV.lst (fu mT rows k).1]) (b:=y) (k:=(fu mT rows k).2) (t:=t1) hy (by omega) hk a3 a4 (by omega) (by omega);refine⟨t2,h',?_,b2⟩;rw[hlen,List.append_assoc]at b1;simp only[cD]at a1;simp only[hgC,cD];split at a1;rename_i σ1 e1;simp only[e1,a1];exact b1;exact absurd a1 (by intro h;simp_all)
def Dj {f:Nat}{ss:List MS}(hk:Φ f=some (Di ss))(a8:OR Φ ext mT ss):U6 Φ ext mT f (kC ss):=by
 intro row hr k h0 af;have hN:=E8 ss 5;obtain⟨m,hm⟩:∃m,hgN 5 ss+1-2=m+4:=⟨hgN 5 ss-5,by omega⟩;refine jg hk ?_;have aF:((jk mT row k).1.map L.pv).all plain=true:=by simp[plain]
 let t0:List V:= .agg ((jk mT row k).1.map .pv)::ce .i64 k:: .one (.ptr 0 0 0):: .b8 []::ce .i64 0::List.replicate (m+1) (.b8 []);have aC:t0.length=hgN 5 ss+1:=by simp[t0];omega
 obtain⟨t',h',a1,a2⟩:=HG (Φ:=Φ) (ext:=ext) ss a8 (c:=5) (dn:=[]) (b:=row) (k:=k) (t:=t0) hr h0 af rfl rfl (Zi _) (by omega);have ae:List.replicate (m+4) (V.b8 [])= .b8 []:: .b8 []:: .b8 []::List.replicate (m+1) (.b8 []):=rfl;have ad:iI Φ ext (Di ss).body (start (Di ss) [.agg ((jk mT row k).1.map .pv),ce .i64 k])=some (.ret,⟨t',h'⟩):=by simp only[t0,Zx,Zj]at a1;simp only[iI,Di,start,Zo,Zx,ZJ,Nat.reduceAdd,hm,Zh,Zj,ae,cD,cj,cS,dy,dX,eX,Opd.ev,put,Yz,V.cells,aF,if_true,Yf,ZP];exact a1
 rw[ad];simp only[done,Di,dd,cu,eY,a2,Y',YE,Zw,V.cells,ee,comp,cV,dS];rfl
end
end Gi
