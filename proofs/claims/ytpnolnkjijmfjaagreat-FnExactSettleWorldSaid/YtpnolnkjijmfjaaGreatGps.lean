/- Of this proof. -/
import Derived.Test.YtpnolnkjijmfjaaGreatGpq
set_option linter.all false
namespace Gi
open Go Go.RowKit
def ada :List Q7->Q7
 |[]=> .skip
 |[a]=>a
 |a::b::r=> .seq a (ada (b::r))
def Be (call:Nat->List V->Option V)(lp:(St->Option (Ex×St))->St->Option (Ex×St)):List Q7->St->Option St
 |[],Z=>some Z
 |a::r,Z=>match cD call lp a Z with
  |some (.normal,Z')=>Be call lp r Z'
  |_=>none
def R5 {call:Nat->List V->Option V}{lp:(St->Option (Ex×St))->St->Option (Ex×St)}:∀{xz:List Q7}{Z Z':St},Be call lp xz Z=some Z'->cD call lp (ada xz) Z=some (.normal,Z')
 |[],Z,Z',h=>by simp only[Be]at h;cases h;rfl
 |[a],Z,Z',h=>by simp only[Be]at h;split at h;rename_i σ1 h1;cases h;exact h1;cases h
 |a::b::r,Z,Z',h=>by rw[Be]at h;split at h;rename_i σ1 h1;have:=R5 (xz:=b::r) h;simp only[ada,cD,h1,this];cases h
def RZ {call:Nat->List V->Option V}{lp:(St->Option (Ex×St))->St->Option (Ex×St)}:∀{xz bs:List Q7}{Z Z':St},Be call lp xz Z=some Z'->Be call lp (xz++bs) Z=Be call lp bs Z'
 |[],bs,Z,Z',h=>by simp only[Be]at h;cases h;rfl
 |a::xz,bs,Z,Z',h=>by simp only[Be,Zh]at h⊢;split at h;rename_i σ1 h1;exact RZ h;cases h
def H4 (mt c:Nat):PTy->List X2
 | .int .i64=>[]
 | .int κ=>[⟨some (c+3), .conv κ (.tmp (c+2)),none⟩]
 | .str=>[⟨some (c+3), .call mt [.tmp (c+2)] true true,none⟩]
 | .bool=>[⟨some (c+3), .bin .rem (.tmp (c+2)) (.pv (.int .i64 3)),none⟩,⟨some (c+4), .bin .eql (.tmp (c+3)) (.pv (.int .i64 0)),none⟩]
 | .lst _=>[]
def af9 :Q7:= .seq (.region [⟨some 4, .mv (.pv (.int .i64 (-1))),none⟩]) .ret
def ldH (z c:Nat)(x:MC):List X2:=U1 c++(⟨some (c+2), .bH z (.tmp c) (.tmp (c+1)),none⟩::(xh (c+2) x.p++[⟨some (c+3+x.p.length), .load false 1 (.tmp (c+2+x.p.length)),none⟩,⟨some (c+4+x.p.length), .mv (.tmp 1),none⟩]))
def acK (z mt c:Nat)(t:PTy)(x:MC):List Q7:=
 let d:=c+2+x.p.length
 let v:=d+2+(H4 mt d t).length
 [.seq (.region (ldH z c x++(H4 mt d t++[⟨some (v+1),LY t (.tmp (d+1)) (.tmp v),none⟩]))) (.cond (.tmp (v+1)) af9 .skip), .region (Tv (v+2))]
def aei (z c:Nat)(x:MC):List Q7:=
 let d:=c+2+x.p.length
 [.region (ldH z c x++[⟨some (d+3), .call x.f [.tmp (d+1), .tmp (d+2)] true false,none⟩,⟨some 1, .mv (.tmp (d+3)),none⟩]),uo (d+4)]
def aeh (z mt c:Nat):PTy->MC->List Q7
 | .lst _,x=>aei z c x
 |t,x=>acK z mt c t x
def NR (mt c:Nat):PTy->MC->Nat
 | .lst _,x=>c+8+x.p.length
 |t,x=>c+8+(H4 mt (c+2+x.p.length) t).length+x.p.length
def acL (z mt:Nat):Nat->List PTy->List MC->List Q7
 |c,t::ts,x::xs=>aeh z mt c t x++acL z mt (NR mt c t x) ts xs
 |_,_,_=>[]
def vW (mt:Nat):Nat->List PTy->List MC->Nat
 |c,t::ts,x::xs=>vW mt (NR mt c t x) ts xs
 |c,_,_=>c
def Rn (mt:Nat)(ts:List PTy)(xs:List MC):Q7:= .seq (Mz 5 0 6) (.seq (.block 1 (ada (acL ts.length mt 12 ts xs))) (NP 5 10))
def mr (mt:Nat)(ts:List PTy)(xs:List MC):AFn:=⟨vW mt 12 ts xs+1,[.tmp 4], .seq (.region [⟨some 4, .mv (.pv (.int .i64 0)),none⟩]) (.seq (.seq (.region [⟨some 5, .mv (.pv (.int .i64 0)),none⟩]) (.block 0 (.loop (Rn mt ts xs)))) (.seq (.region [⟨some (vW mt 12 ts xs), .mv (.tmp 1),none⟩,⟨some 4, .mv (.tmp (vW mt 12 ts xs)),none⟩]) .ret))⟩
def PM {call:Nat->List V->Option V}{e:List PV}:∀{p:List Nat}{c j:Nat}{t:List V}{h:List Q0},t[c]? =some (.one (.ip e j))->c+p.length<t.length->
 ∃t',cj call (xh c p) ⟨t,h⟩=some ⟨t',h⟩/\ t'.length=t.length/\ t'[c+p.length]? =some (.one (.ip e (j+p.sum)))/\ ∀n≤c,t'[n]? =t[n]?
 |[],c,j,t,h,hc,hl=>⟨t,rfl,rfl,by simpa using hc,fun _ _=>rfl⟩
 |d::ds,c,j,t,h,hc,hl=>by simp only[Zo]at hl;obtain⟨t',e1,e2,e3,e4⟩:=PM (call:=call) (e:=e) (p:=ds) (c:=c+1) (j:=j+d) (t:=t.set (c+1) (.one (.ip e (j+d)))) (h:=h) (Zd (by omega)) (by simp;omega);refine⟨t',?_,by simpa using e2,?_,fun n hn=> ?_⟩;simp only[xh,cj,cT,dG,dY,Opd.ev,getD_some hc,put,e1];simp only[Zo,QZ];rw[show c+(ds.length+1)=c+1+ds.length by omega,e3,Nat.add_assoc];rw[e4 n (by omega),Za (by omega)]
section
variable {Φ:Nat->Option AFn}{ext:Nat->List V->Option V}{mT:Int->List UInt8}{mt:Nat}
def ab8 (hT:GT Φ ext mT mt){ty:PTy}{p:PV}(hp:mY ty p)(hf:ty.flatT=true){c:Nat}{k:Int}(h0:0<=k)(hk:k<Bz){t:List V}{h:List Q0}(h2:t[c+2]? =some (ce .i64 k))(hl:c+2+(H4 mt c ty).length<t.length):
 ∃t',cj (cf Φ ext) (H4 mt c ty) ⟨t,h⟩=some ⟨t',h⟩/\ t'.length=t.length/\ t'[c+2+(H4 mt c ty).length]? =some (.one (.pv (oS mT p k).1))/\ ∀n≤c+2,t'[n]? =t[n]? :=by
 have e2:=getD_some h2;by_cases hs:ty= .str;subst hs;obtain⟨s,rfl⟩:=qv hp;simp only[H4,ZJ]at hl⊢;refine⟨t.set (c+3) (fZ (mT k)),?_,by simp,by simp only[oS];exact Zd (by omega),fun n hn=>Za (by omega)⟩;simp only[cj,cT,dG,dY,Bool.or_self,YJ,if_true,Zt,Zy,Opd.ev,e2,cy,V.view,L.view,hT k h0 (by omega),V.flat,L.flat,Yv,ZY,ZA,if_false,fe,fv,put];have:H4 mt c ty=Bl mt c ty:=by
  cases ty with
  |int κ=>cases κ<;>rfl
  |str=>exact absurd rfl hs
  |_=>rfl
 rw[this]at hl⊢;exact Vv hT hp hf h0 hk h2 hl
def WH {ty:PTy}{p:PV}(hp:mY ty p)(hf:ty.flatT=true){k:Int}{t:List V}{a b:Nat}(ha:t[a]? =some (.one (.pv (oS mT p k).1)))(hb:t[b]? =some (.one (.pv (oS mT p k).1)))(call:Nat->List V->Option V)(h:List Q0):dY call ⟨t,h⟩ (LY ty (.tmp a) (.tmp b))=some (cL false):=by
 have e1:=getD_some ha;have e2:=getD_some hb;cases ty with
 |lst us=>cases hf
 |str=>obtain⟨s,rfl⟩:=qv hp;simp only[LY,dY,Opd.ev,e1,e2];exact J5 rfl
 |int κ=>obtain⟨s,rfl⟩:=qu hp;simp only[LY,dY,Opd.ev,e1,e2];exact J5 rfl
 |bool=>obtain⟨s,rfl⟩:=pg hp;simp only[LY,dY,Opd.ev,e1,e2,oS,isBool];cases k.tmod 3==0<;>rfl
structure QB (rows:List (List PV)) (i:Nat) (k:Int) (t:List V):Prop where
 t0:t[0]? =some (eW rows)
 t1:t[1]? =some (ce .i64 k)
 t5:t[5]? =some (ce .i64 i)
def UR {rows:List (List PV)}{e:List PV}{q:PV}{x:MC}{z i c:Nat}{k:Int}{t:List V}(s:QB rows i k t)(he:rows[i]? =some e)(hz:e.length=z)(hq:e[x.p.sum]? =some q)(hc:12<=c)(hl:c+4+x.p.length<t.length)(call:Nat->List V->Option V):
 ∃t',cj call (ldH z c x) ⟨t,[]⟩=some ⟨t',[]⟩/\ t'.length=t.length/\ t'[c+3+x.p.length]? =some (.one (.pv q))/\ t'[c+4+x.p.length]? =some (ce .i64 k)/\ ∀n<c,t'[n]? =t[n]? :=by
 let t1:=((t.set c (eW rows)).set (c+1) (ce .i64 i)).set (c+2) (.one (.ip e 0));have a0:cj call (U1 c++[⟨some (c+2), .bH z (.tmp c) (.tmp (c+1)),none⟩]) ⟨t,[]⟩=some ⟨t1,[]⟩:=by have e1:=getD_some s.t0;have e2:(t.set c (eW rows)).getD 5 (.b8 [])=ce .i64 i:=(gK (by omega)).trans (getD_some s.t5);have e3:((t.set c (eW rows)).set (c+1) (ce .i64 i)).getD c (.b8 [])=eW rows:=(gK (by omega)).trans (de (by omega));have e4:((t.set c (eW rows)).set (c+1) (ce .i64 i)).getD (c+1) (.b8 [])=ce .i64 i:=de (by simp;omega);simp only[U1,Zh,Zk,cj,cT,dG,dY,Opd.ev,e1,put,e2,e3,e4,isInt,Int.natCast_nonneg,if_true,Int.toNat_natCast,cN,he,hz,t1]
 have l1:t1.length=t.length:=by simp[t1]
 have g1:∀n,n<c->t1[n]? =t[n]? :=fun n hn=>by simp only[t1];rw[Za (by omega),Za (by omega),Za (by omega)]
 have ge:t1[c+2]? =some (.one (.ip e 0)):=by simp only[t1];exact Zd (by simp;omega)
 clear_value t1;obtain⟨t4,d1,d2,d3,d4⟩:=PM (call:=call) (e:=e) (p:=x.p) (c:=c+2) (j:=0) (t:=t1) (h:=[]) ge (by omega);rw[ZK]at d3;have a6:ja false 1 x.p.sum (e.map L.pv)=some (.one (.pv q)):=by have hlt:=(Zb.1 hq).1;unfold ja;rw[if_pos (by simp;omega)];simp[hq]
 have q1:(t4.set (c+3+x.p.length) (V.one (.pv q))).getD 1 (.b8 [])=ce .i64 k:=(gK (by omega)).trans (getD_some ((d4 1 (by omega)).trans ((g1 1 (by omega)).trans s.t1)));refine⟨(t4.set (c+3+x.p.length) (.one (.pv q))).set (c+4+x.p.length) (ce .i64 k),?_,by simp;omega,by rw[Za (by omega)];exact Zd (by omega),Zd (by simp;omega),fun n hn=>by rw[Za (by omega),Za (by omega),d4 n (by omega),g1 n hn]⟩;have ag:ldH z c x=(U1 c++[⟨some (c+2), .bH z (.tmp c) (.tmp (c+1)),none⟩])++(xh (c+2) x.p++[⟨some (c+3+x.p.length), .load false 1 (.tmp (c+2+x.p.length)),none⟩,⟨some (c+4+x.p.length), .mv (.tmp 1),none⟩]):=by simp only[ldH,List.append_assoc,Zh,Zk]
 rw[ag,fq _ _ _ a0,fq _ _ _ d1];simp only[cj,cT,dG,dY,Opd.ev,getD_some d3,dP,a6,put,q1]
def acM {call:Nat->List V->Option V}{rows:List (List PV)}{i c:Nat}{k:Int}{t:List V}{h:List Q0}(s:QB rows i k t)(h0:0<=k)(hk:k<Bz)(hc:6<=c)(hl:c+1<t.length):
 ∃t',cj call (Tv c) ⟨t,h⟩=some ⟨t',h⟩/\ t'.length=t.length/\ QB rows i (k+1) t':=by
 have e1:=getD_some s.t1;have e2:(t.set c (ce .i64 k)).getD c (.b8 [])=ce .i64 k:=de (by omega);have hw:IntKind.i64.wrap (k+1)=k+1:=by rw[IntKind.wrap_i64];unfold Bz at hk;omega
 have e3:((t.set c (ce .i64 k)).set (c+1) (ce .i64 (k+1))).getD (c+1) (.b8 [])=ce .i64 (k+1):=de (by simp;omega);refine⟨((t.set c (ce .i64 k)).set (c+1) (ce .i64 (k+1))).set 1 (ce .i64 (k+1)),?_,by simp,?_,?_,?_⟩;simp only[Tv,cj,cT,dG,dY,Opd.ev,e1,put,e2,bin,if_true,ft,hw,e3];rw[Za (by omega),Za (by omega),Za (by omega)];exact s.t0;exact Zd (by simp;omega);rw[Za (by omega),Za (by omega),Za (by omega)];exact s.t5
def abe (hT:GT Φ ext mT mt){rows:List (List PV)}{ty:PTy}{p:PV}{x:MC}{e:List PV}{z i c:Nat}{k:Int}{t:List V}(hp:mY ty p)(hf:ty.flatT=true)(s:QB rows i k t)(h0:0<=k)(hk:k<Bz)(hc:12<=c)(he:rows[i]? =some e)(hz:e.length=z)(hq:e[x.p.sum]? =some (oS mT p k).1)(hl:c+8+(H4 mt (c+2+x.p.length) ty).length+x.p.length<=t.length):
 ∃t',Be (cf Φ ext) cS (acK z mt c ty x) ⟨t,[]⟩=some ⟨t',[]⟩/\ t'.length=t.length/\ QB rows i (oS mT p k).2 t':=by
 obtain⟨t1,a1,a2,a3,a4,a5⟩:=UR s he hz hq hc (by omega) (cf Φ ext);generalize hd:c+2+x.p.length=d at*;rw[show c+3+x.p.length=d+1 by omega]at a3;rw[show c+4+x.p.length=d+2 by omega]at a4;obtain⟨t2,b1,b2,b3,b4⟩:=ab8 (h:=[]) hT hp hf h0 hk a4 (by omega);generalize hv:d+2+(H4 mt d ty).length=v at*;have b5:t2[d+1]? =some (.one (.pv (oS mT p k).1)):=(b4 (d+1) (by omega)).trans a3;have c1:=WH hp hf b5 b3 (cf Φ ext) [];have q1:(t2.set (v+1) (cL false)).getD (v+1) (.b8 [])=cL false:=de (by omega);have low:∀n,n<c->(t2.set (v+1) (cL false))[n]? =t[n]? :=fun n hn=>by rw[Za (by omega),b4 n (by omega),a5 n hn]
 obtain⟨t5,i1,i2,i3⟩:=acM (call:=cf Φ ext) (c:=v+2) (h:=[]) (⟨(low 0 (by omega)).trans s.t0,(low 1 (by omega)).trans s.t1,(low 5 (by omega)).trans s.t5⟩:QB rows i k (t2.set (v+1) (cL false))) h0 hk (by omega) (by simp;omega);have f3:=(DU (mT:=mT) hp hf k).2.2;refine⟨t5,?_,by rw[i2];simp;omega,by rw[f3];exact i3⟩;have aa:cj (cf Φ ext) (ldH z c x++(H4 mt d ty++[⟨some (v+1),LY ty (.tmp (d+1)) (.tmp v),none⟩])) ⟨t,[]⟩=some ⟨t2.set (v+1) (cL false),[]⟩:=by rw[fq _ _ _ a1,fq _ _ _ b1];simp only[cj,cT,dG,c1,put]
 simp only[acK,hd,hv,Be,cD,aa,Opd.ev,q1,isBool,ZA,if_false,i1]
def ko (Φ:Nat->Option AFn)(ext:Nat->List V->Option V)(mT:Int->List UInt8)(f:Nat)(ts:List PTy):Prop:=
 ∀rows:List (List PV),mY (.lst ts) (.lst rows)->∀k:Int,0<=k->(fA mT rows k).2<=Bz->cf Φ ext f [eW (fA mT rows k).1,ce .i64 k]=some (ce .i64 (fA mT rows k).2)
def abf {rows:List (List PV)}{us:List PTy}{ys:List (List PV)}{x:MC}{e:List PV}{z i c:Nat}{k:Int}{t:List V}(hO:ko Φ ext mT x.f us)(hp:mY (.lst us) (.lst ys))(s:QB rows i k t)(h0:0<=k)(hk:(fA mT ys k).2<=Bz)(hc:12<=c)(he:rows[i]? =some e)(hz:e.length=z)(hq:e[x.p.sum]? =some (oS mT (.lst ys) k).1)(hl:c+8+x.p.length<=t.length):
 ∃t',Be (cf Φ ext) cS (aei z c x) ⟨t,[]⟩=some ⟨t',[]⟩/\ t'.length=t.length/\ QB rows i (oS mT (.lst ys) k).2 t':=by
 obtain⟨t1,a1,a2,a3,a4,a5⟩:=UR s he hz hq hc (by omega) (cf Φ ext);have hle:=ud mT ys k;generalize hd:c+2+x.p.length=d at*;rw[show c+3+x.p.length=d+1 by omega]at a3;rw[show c+4+x.p.length=d+2 by omega]at a4;simp only[oS]at a3⊢;generalize af:(fA mT ys k).2=k2 at*;have a7:=hO ys hp k h0 (by omega);rw[af]at a7;generalize (fA mT ys k).1=ak at*;have e1:=getD_some a3;have e2:=getD_some a4;have q1:(t1.set (d+3) (ce .i64 k2)).getD (d+3) (.b8 [])=ce .i64 k2:=de (by omega);have an:cy [] [eW ak,ce .i64 k]=some [eW ak,ce .i64 k]:=rfl;let t2:=(t1.set (d+3) (ce .i64 k2)).set 1 (ce .i64 k2);have aa:cj (cf Φ ext) (ldH z c x++[⟨some (d+3), .call x.f [.tmp (d+1), .tmp (d+2)] true false,none⟩,⟨some 1, .mv (.tmp (d+3)),none⟩]) ⟨t,[]⟩=some ⟨t2,[]⟩:=by rw[fq _ _ _ a1];have aw:cy [] [V.one (L.pv (PV.lst ak)),ce .i64 k]=some [eW ak,ce .i64 k]:=rfl;simp only[cj,cT,dG,dY,QY,YJ,if_true,Zt,Zy,Opd.ev,e1,e2,aw,a7,V.flat,L.flat,Yv,ZY,ZA,if_false,fe,fv,put,q1,t2]
 have l2:t2.length=t.length:=by simp[t2];omega
 have q2:t2.getD 1 (.b8 [])=ce .i64 k2:=de (by simp;omega);have q3:(t2.set (d+4) (ce .i64 k2)).getD (d+4) (.b8 [])=ce .i64 k2:=de (by omega);have q4:((t2.set (d+4) (ce .i64 k2)).set (d+5) (cL false)).getD (d+5) (.b8 [])=cL false:=de (by simp;omega);have hlt:decide (k2<0)=false:=decide_eq_false (by omega);refine⟨(t2.set (d+4) (ce .i64 k2)).set (d+5) (cL false),?_,by simp;omega,?_,?_,?_⟩;have h5:d+4+1=d+5:=by omega
 simp only[aei,hd,Be,cD,aa,uo,cj,cT,dG,dY,Opd.ev,q2,put,q3,bin,if_true,ft,hlt,h5,q4,isBool,ZA,if_false];simp only[t2];rw[Za (by omega),Za (by omega),Za (by omega),Za (by omega)];exact(a5 0 (by omega)).trans s.t0;rw[Za (by omega),Za (by omega)];exact Zd (by simp;omega);simp only[t2];rw[Za (by omega),Za (by omega),Za (by omega),Za (by omega)];exact(a5 5 (by omega)).trans s.t5
def Me (Φ:Nat->Option AFn)(ext:Nat->List V->Option V)(mT:Int->List UInt8):Nat->List PTy->List MC->Prop
 |j, .lst us::ts,x::xs=>x.p.sum=j/\ ko Φ ext mT x.f us/\ Me Φ ext mT (j+1) ts xs
 |j,_::ts,x::xs=>x.p.sum=j/\ Me Φ ext mT (j+1) ts xs
 |_,[],[]=>True
 |_,_,_=>False
def H8 :∀(ts:List PTy)(xs:List MC)(c:Nat),c<=vW mt c ts xs
 |[],_,c=>Zi _
 |_::_,[],c=>Zi _
 |t::ts,x::xs,c=>by simp only[vW];refine Zc ?_ (H8 ts xs _);cases t<;>simp only[NR]<;>omega
def UO (hT:GT Φ ext mT mt){rows:List (List PV)}{z i:Nat}:∀(ts:List PTy)(xs:List MC){c:Nat}{dn row:List PV}{k:Int}{t:List V},Me Φ ext mT dn.length ts xs->dX ts row->rows[i]? =some (dn++(uA mT row k).1)->z=dn.length+ts.length->QB rows i k t->0<=k->(uA mT row k).2<=Bz->12<=c->vW mt c ts xs<=t.length->
 ∃t',Be (cf Φ ext) cS (acL z mt c ts xs) ⟨t,[]⟩=some ⟨t',[]⟩/\ t'.length=t.length/\ QB rows i (uA mT row k).2 t'
 |[],xs,c,dn,row,k,t,hm,hr,hE,hz,s,h0,hk,hc,hl=>by obtain rfl:=jT hr;cases xs<;>exact⟨t,rfl,rfl,by simpa only[uA]using s⟩
 |ty::ts,[],c,dn,row,k,t,hm,hr,hE,hz,s,h0,hk,hc,hl=>by cases ty<;>exact hm.elim
 |ty::ts,x::xs,c,dn,row,k,t,hm,hr,hE,hz,s,h0,hk,hc,hl=>by
  obtain⟨p,rest,rfl,hp,ao⟩:=ir hr;have hle:=FN mT rest (oS mT p k).2;have aq:=TF mT p k;simp only[uA]at hk hE;simp only[vW]at hl;have hN:=H8 (mt:=mt) ts xs (NR mt c ty x);have ah:Me Φ ext mT (dn++[(oS mT p k).1]).length ts xs:=by
   have:(dn++[(oS mT p k).1]).length=dn.length+1:=by simp
   rw[this];cases ty<;>first|exact hm.2|exact hm.2.2
  have hx:x.p.sum=dn.length:=by cases ty<;>exact hm.1
  have ar:(dn++(oS mT p k).1::(uA mT rest (oS mT p k).2).1).length=z:=by rw[hz,Zv,Zo,UX,nT ao];rfl
  have hq:(dn++(oS mT p k).1::(uA mT rest (oS mT p k).2).1)[x.p.sum]? =some (oS mT p k).1:=by rw[hx];exact H6
  have cell:∃t',Be (cf Φ ext) cS (aeh z mt c ty x) ⟨t,[]⟩=some ⟨t',[]⟩/\ t'.length=t.length/\ QB rows i (oS mT p k).2 t':=by
   by_cases hf:ty.flatT=true
   ·have hR:aeh z mt c ty x=acK z mt c ty x:=by cases ty<;>first|rfl|cases hf
    have ax:NR mt c ty x=c+8+(H4 mt (c+2+x.p.length) ty).length+x.p.length:=by cases ty<;>first|rfl|cases hf
    rw[hR];have:=(DU (mT:=mT) hp hf k).2.2;exact abe hT hp hf s h0 (by omega) hc hE ar hq (by omega)
   cases ty with
   |lst us=>
    obtain⟨ys,rfl⟩:=tk hp;have ax:NR mt c (.lst us) x=c+8+x.p.length:=rfl;have ay:(fA mT ys k).2<=Bz:=by simp only[oS]at hle hk;omega
    exact abf hm.2.1 hp s h0 ay hc hE ar hq (by omega)
   |_=>exact absurd rfl hf
  obtain⟨t1,e1,e2,e3⟩:=cell;have aG:c<=NR mt c ty x:=by cases ty<;>simp only[NR]<;>omega
  obtain⟨t2,f1,f2,f3⟩:=UO hT (rows:=rows) (z:=z) (i:=i) ts xs (c:=NR mt c ty x) (dn:=dn++[(oS mT p k).1]) (row:=rest) (k:=(oS mT p k).2) (t:=t1) ah ao (by rw[hE];simp) (by rw[hz];simp;omega) e3 (by omega) hk (by omega) (by omega);refine⟨t2,?_,by omega,by simp only[uA];exact f3⟩;simp only[acL];rw[RZ e1,f1]
def Wq (hT:GT Φ ext mT mt){ts:List PTy}{xs:List MC}(hm:Me Φ ext mT 0 ts xs){R:List (List PV)}(hR:R.length<=maxLen):∀(rest done:List (List PV))(k:Int)(t:List V),R=done++(fA mT rest k).1->QB R done.length k t->(∀r∈rest,dX ts r)->0<=k->(fA mT rest k).2<=Bz->vW mt 12 ts xs<=t.length->
 ∃t',cS (cD (cf Φ ext) cS (Rn mt ts xs)) ⟨t,[]⟩=some (.exit 0,⟨t',[]⟩)/\ t'.length=t.length/\ t'[1]? =some (ce .i64 (fA mT rest k).2):=by
 intro rest;have hN:=H8 (mt:=mt) ts xs 12;have head:∀(n:Nat)(k:Int)(t:List V),QB R n k t->vW mt 12 ts xs<=t.length->∃t',cD (cf Φ ext) cS (Mz 5 0 6) ⟨t,[]⟩=some (if n<R.length then .normal else .exit 0,⟨t',[]⟩)/\ t'.length=t.length/\ QB R n k t':=by
  intro n k t s hl;let t1:=(((t.set 6 (ce .i64 n)).set 7 (eW R)).set 8 (ce .i64 R.length)).set 9 (cL (decide (n<R.length)));have e0:=getD_some s.t5;have e1:(t.set 6 (ce .i64 n)).getD 0 (.b8 [])=eW R:=(gK (by omega)).trans (getD_some s.t0);have e2:((t.set 6 (ce .i64 n)).set 7 (eW R)).getD 7 (.b8 [])=eW R:=de (by simp;omega);have e3:(((t.set 6 (ce .i64 n)).set 7 (eW R)).set 8 (ce .i64 R.length)).getD 6 (.b8 [])=ce .i64 n:=(gK (by omega)).trans ((gK (by omega)).trans (de (by omega)));have e4:(((t.set 6 (ce .i64 n)).set 7 (eW R)).set 8 (ce .i64 R.length)).getD 8 (.b8 [])=ce .i64 R.length:=de (by simp;omega);have e5:t1.getD 9 (.b8 [])=cL (decide (n<R.length)):=de (by simp;omega);have e6:asList [] (eW R)=some R:=rfl;have e7:decide ((n:Int)<(R.length:Int))=decide (n<R.length):=by by_cases h:n<R.length;rw[decide_eq_true h,decide_eq_true (by omega)];rw[decide_eq_false h,decide_eq_false (by omega)]
  refine⟨t1,?_,by simp[t1],?_,?_,?_⟩;simp only[Mz,cD,cj,cT,dG,dY,Opd.ev,e0,put,e1,e2,e6,e3,e4,bin,if_true,ft,e7];have au:=e5;simp only[t1]at au;rw[au];by_cases h:n<R.length;simp only[isBool,h,decide_true,if_true,t1];simp only[isBool,h,decide_false,ZA,if_false,t1];simp only[t1];rw[Za (by omega),Za (by omega),Za (by omega),Za (by omega)];exact s.t0;simp only[t1];rw[Za (by omega),Za (by omega),Za (by omega),Za (by omega)];exact s.t1;simp only[t1];rw[Za (by omega),Za (by omega),Za (by omega),Za (by omega)];exact s.t5
 induction rest with
 |nil=>
  intro done k t ab s hr h0 hk hl;simp only[fA,Zw]at ab;obtain⟨t',a1,a2,a3⟩:=head done.length k t s hl;refine⟨t',mf ?_ (by simp),a2,by simp only[fA];exact a3.t1⟩;have:¬done.length<R.length:=by rw[ab];omega
  simp only[Rn,cD,a1,this,if_false]
 |cons r rest ih=>
  intro done k t ab s hr h0 hk hl;obtain⟨t1,a1,a2,a3⟩:=head done.length k t s hl;simp only[fA]at hk ab;have hle:=ud mT rest (uA mT r k).2;have aH:=FN mT r k;have hlt:done.length<R.length:=by rw[ab];simp
  obtain⟨t2,b1,b2,b3⟩:=UO hT (rows:=R) (z:=ts.length) (i:=done.length) ts xs (c:=12) (dn:=[]) (row:=r) (k:=k) (t:=t1) hm (hr r (by simp)) (by rw[ab,Zm (Zi _),YI];rfl) (by simp) a3 h0 (by omega) (Zi _) (by omega);have hw:=oA (k:=done.length) (by unfold maxLen at hR;omega);let t3:=((t2.set 10 (ce .i64 done.length)).set 11 (ce .i64 ((done.length:Int)+1))).set 5 (ce .i64 ((done.length:Int)+1));have f0:=getD_some b3.t5;have f1:(t2.set 10 (ce .i64 done.length)).getD 10 (.b8 [])=ce .i64 done.length:=de (by omega);have f2:((t2.set 10 (ce .i64 done.length)).set 11 (ce .i64 ((done.length:Int)+1))).getD 11 (.b8 [])=ce .i64 ((done.length:Int)+1):=de (by simp;omega);have f3:cD (cf Φ ext) cS (NP 5 10) ⟨t2,[]⟩=some (.normal,⟨t3,[]⟩):=by simp only[NP,cD,cj,cT,dG,dY,Opd.ev,f0,put,f1,bin,if_true,ft,hw,f2,t3]
  have s3:QB R (done++[(uA mT r k).1]).length (uA mT r k).2 t3:=by
   have ai:(done++[(uA mT r k).1]).length=done.length+1:=by simp
   rw[ai];refine⟨?_,?_,?_⟩;simp only[t3];rw[Za (by omega),Za (by omega),Za (by omega)];exact b3.t0;simp only[t3];rw[Za (by omega),Za (by omega),Za (by omega)];exact b3.t1;simp only[t3];exact Zd (by simp;omega)
  obtain⟨t4,g1,g2,g3⟩:=ih (done++[(uA mT r k).1]) (uA mT r k).2 t3 (by rw[ab];simp) s3 (fun r m=>hr r (by simp[m])) (by omega) hk (by simp[t3];omega);refine⟨t4,(jR (Z':=⟨t3,[]⟩) ?_).trans g1,by rw[g2];simp[t3];omega,by simp only[fA];exact g3⟩;have hb:=R5 b1;simp only[Rn,cD,a1,hlt,if_true,hb,f3]
def iQ (hT:GT Φ ext mT mt){f:Nat}{ts:List PTy}{xs:List MC}(hk:Φ f=some (mr mt ts xs))(hm:Me Φ ext mT 0 ts xs):ko Φ ext mT f ts:=by
 have hN:=H8 (mt:=mt) ts xs 12;obtain⟨m,az⟩:∃m,vW mt 12 ts xs+1-2=m+11:=⟨vW mt 12 ts xs-12,by omega⟩;intro rows h k h0 af;obtain⟨aA,hr⟩:=dM h;refine j0 hk ?_;have aB:start (mr mt ts xs) [eW (fA mT rows k).1,ce .i64 k]=⟨eW (fA mT rows k).1::ce .i64 k::List.replicate (m+11) (.b8 []),[]⟩:=by simp only[start,mr,Zo,Zx,Zh,Zk,az]
 let t0:List V:=eW (fA mT rows k).1::ce .i64 k:: .b8 []:: .b8 []::ce .i64 0::ce .i64 0::List.replicate (m+7) (.b8 []);have aC:t0.length=vW mt 12 ts xs+1:=by simp[t0];omega
 obtain⟨t',a1,a2,a3⟩:=Wq hT hm (R:=(fA mT rows k).1) (by rw[UY];exact aA) rows [] k t0 (by simp) ⟨rfl,rfl,rfl⟩ hr h0 af (by omega);have q1:t'.getD 1 (.b8 [])=ce .i64 (fA mT rows k).2:=getD_some a3;have q2:(t'.set (vW mt 12 ts xs) (ce .i64 (fA mT rows k).2)).getD (vW mt 12 ts xs) (.b8 [])=ce .i64 (fA mT rows k).2:=de (by omega);have aj:cD (cf Φ ext) cS (.seq (.region [⟨some (vW mt 12 ts xs), .mv (.tmp 1),none⟩,⟨some 4, .mv (.tmp (vW mt 12 ts xs)),none⟩]) .ret) ⟨t',[]⟩=some (.ret,⟨(t'.set (vW mt 12 ts xs) (ce .i64 (fA mT rows k).2)).set 4 (ce .i64 (fA mT rows k).2),[]⟩):=by simp only[cD,cj,cT,dG,dY,Opd.ev,q1,put,q2]
 have q3:((t'.set (vW mt 12 ts xs) (ce .i64 (fA mT rows k).2)).set 4 (ce .i64 (fA mT rows k).2)).getD 4 (.b8 [])=ce .i64 (fA mT rows k).2:=de (by simp;omega);have ad:iN Φ ext (mr mt ts xs).body (start (mr mt ts xs) [eW (fA mT rows k).1,ce .i64 k])=some (.ret,⟨(t'.set (vW mt 12 ts xs) (ce .i64 (fA mT rows k).2)).set 4 (ce .i64 (fA mT rows k).2),[]⟩):=by rw[aB];generalize aD:Q7.seq (.region [⟨some (vW mt 12 ts xs), .mv (.tmp 1),none⟩,⟨some 4, .mv (.tmp (vW mt 12 ts xs)),none⟩]) .ret=ec at aj;have ae:List.replicate (m+11) (V.b8 [])= .b8 []:: .b8 []:: .b8 []:: .b8 []::List.replicate (m+7) (.b8 []):=rfl;generalize aq:cS (cD (cf Φ ext) cS (Rn mt ts xs))=lp at a1;simp only[t0]at a1;simp only[iN,mr,aD,ae,cD,cj,cT,dG,dY,Opd.ev,put,Yf,ZP,aq,a1,if_true];exact aj
 rw[ad];simp only[done,mr,dd,cu,fb,q3,Y',YF,Zw,V.cells,eh,comp,cU,dS];rfl
end
def hgI (c off:Nat)(g:Bool)(n f:Nat):List X2:=[⟨some c, .bo (.tmp 2) off,none⟩,⟨some (c+1), .load g n (.tmp c),none⟩,⟨some (c+2), .mv (.tmp 1),none⟩,⟨some (c+3), .call f [.tmp (c+1), .tmp (c+2)] true false,none⟩,⟨some 1, .mv (.tmp (c+3)),none⟩]
def hgC :Nat->Nat->List MS->Q7
 |c,_,[]=> .seq (.region [⟨some c, .mv (.tmp 1),none⟩,⟨some 4, .mv (.tmp c),none⟩]) .ret
 |c,off, .k ts::ss=>hgC c (off+ts.length) ss
 |c,off, .s ts f::ss=> .seq (.region (hgI c off true ts.length f)) (.seq (uo (c+4)) (hgC (c+6) (off+ts.length) ss))
 |c,off, .l _ f::ss=> .seq (.region (hgI c off false 1 f)) (.seq (uo (c+4)) (hgC (c+6) (off+1) ss))
def hgN :Nat->List MS->Nat
 |c,[]=>c
 |c, .k _::ss=>hgN c ss
 |c,_::ss=>hgN (c+6) ss
def DA (ss:List MS):AFn:=⟨hgN 5 ss+1,[.tmp 4], .seq (.region [⟨some 2, .box (.tmp 0),none⟩,⟨some 4, .mv (.pv (.int .i64 0)),none⟩]) (hgC 5 0 ss)⟩
def Fx :∀(ss:List MS)(c:Nat),c<=hgN c ss
 |[],c=>Zi _
 | .k ts::ss,c=>Fx ss c
 | .s ts f::ss,c=>Zc (by omega) (Fx ss (c+6))
 | .l us f::ss,c=>Zc (by omega) (Fx ss (c+6))
def UZ (mT:Int->List UInt8){ts:List PTy}{ps:List PV}(h:dX ts ps):∀k,(jn mT ps k).1.length=ts.length:=by refine jP (P:=fun ts ps=>∀k,(jn mT ps k).1.length=ts.length) (fun _=>rfl) ?_ ?_ ts ps h;intro us rows ts ps _ _ ih k;simp only[jn,Zo,ih];intro t p ts ps _ ht hp _ ih k;rw[vD mT hp];simp only[Zo,ih]
section
variable {Φ:Nat->Option AFn}{ext:Nat->List V->Option V}{mT:Int->List UInt8}
def Vz (Φ:Nat->Option AFn)(ext:Nat->List V->Option V)(mT:Int->List UInt8)(f:Nat)(ts:List PTy):Prop:=
 ∀row:List PV,dX ts row->∀k:Int,0<=k->(jn mT row k).2<=Bz->cf Φ ext f [.agg ((jn mT row k).1.map .pv),ce .i64 k]=some (ce .i64 (jn mT row k).2)
def Po (Φ:Nat->Option AFn)(ext:Nat->List V->Option V)(mT:Int->List UInt8):List MS->Prop
 |[]=>True
 | .k ts::ss=>ts.all PTy.flatT=true/\ Po Φ ext mT ss
 | .s ts f::ss=>Vz Φ ext mT f ts/\ Po Φ ext mT ss
 | .l us f::ss=>ko Φ ext mT f us/\ Po Φ ext mT ss
def UN {g:Bool}{n f c:Nat}{A:List L}{off:Nat}{v:V}{k k2:Int}{t:List V}(h1:t[1]? =some (ce .i64 k))(h2:t[2]? =some (.one (.ptr 0 0 0)))(hc:5<=c)(hl:c+5<t.length)(af:0<=k2)
 (a6:ja g n off A=some v) (hv:cy [.box A] [v,ce .i64 k]=some [v,ce .i64 k]) (a7:cf Φ ext f [v,ce .i64 k]=some (ce .i64 k2)) {lp}:
 ∃t',cD (cf Φ ext) lp (.seq (.region (hgI c off g n f)) (uo (c+4))) ⟨t,[.box A]⟩=some (.normal,⟨t',[.box A]⟩)/\ t'.length=t.length/\ t'[1]? =some (ce .i64 k2)/\ t'[2]? =some (.one (.ptr 0 0 0)):=by
 have e1:=getD_some h1;have e2:=getD_some h2;have q1:(t.set c (V.one (.ptr 0 0 off))).getD c (.b8 [])= .one (.ptr 0 0 off):=de (by omega);have q2:((t.set c (V.one (.ptr 0 0 off))).set (c+1) v).getD 1 (.b8 [])=ce .i64 k:=(gK (by omega)).trans ((gK (by omega)).trans e1);have q3:(((t.set c (V.one (.ptr 0 0 off))).set (c+1) v).set (c+2) (ce .i64 k)).getD (c+1) (.b8 [])=v:=(gK (by omega)).trans (de (by simp;omega));have q4:(((t.set c (V.one (.ptr 0 0 off))).set (c+1) v).set (c+2) (ce .i64 k)).getD (c+2) (.b8 [])=ce .i64 k:=de (by simp;omega);have q5:((((t.set c (V.one (.ptr 0 0 off))).set (c+1) v).set (c+2) (ce .i64 k)).set (c+3) (ce .i64 k2)).getD (c+3) (.b8 [])=ce .i64 k2:=de (by simp;omega);let t1:=((((t.set c (V.one (.ptr 0 0 off))).set (c+1) v).set (c+2) (ce .i64 k)).set (c+3) (ce .i64 k2)).set 1 (ce .i64 k2);have r1:cj (cf Φ ext) (hgI c off g n f) ⟨t,[.box A]⟩=some ⟨t1,[.box A]⟩:=by simp only[hgI,cj,cT,dG,dY,Opd.ev,e2,put,ZK,q1,dP,Yh,if_true,a6,q2,QY,Zt,Zy,q3,q4,hv,a7,YJ,V.flat,L.flat,Yv,ZY,ZA,if_false,fe,fv,q5,t1]
 have l1:t1.length=t.length:=by simp[t1]
 have g1:t1[1]? =some (ce .i64 k2):=Zd (by simp;omega);have g2:t1[2]? =some (.one (.ptr 0 0 0)):=by simp only[t1];rw[Za (by omega),Za (by omega),Za (by omega),Za (by omega),Za (by omega)];exact h2
 have r2:=U2 (call:=cf Φ ext) (lp:=lp) (h:=[.box A]) (c:=c+4) g1 (by omega) (by omega);refine⟨_,by simp only[cD,r1,r2];rfl,by simp;omega,?_,?_⟩;rw[Za (by omega),Za (by omega)];exact g1;rw[Za (by omega),Za (by omega)];exact g2
def H7 :∀(ss:List MS),Po Φ ext mT ss->∀{c:Nat}{dn b:List PV}{k:Int}{t:List V},dX (kI ss) b->0<=k->(jn mT b k).2<=Bz->t[1]? =some (ce .i64 k)->t[2]? =some (.one (.ptr 0 0 0))->5<=c->hgN c ss<t.length->
 ∃t' h',cD (cf Φ ext) cS (hgC c dn.length ss) ⟨t,[.box ((dn++(jn mT b k).1).map .pv)]⟩=some (.ret,⟨t',h'⟩)/\ t'.getD 4 (.b8 [])=ce .i64 (jn mT b k).2
 |[],_,c,dn,b,k,t,hb,h0,hk,h1,h2,hc,hl=>by obtain rfl:=jT hb;simp only[hgN]at hl;have q2:(t.set c (ce .i64 k)).getD c (.b8 [])=ce .i64 k:=de hl;refine⟨(t.set c (ce .i64 k)).set 4 (ce .i64 k),[.box ((dn++(jn mT [] k).1).map .pv)],?_,by simp only[jn];exact de (by simp;omega)⟩;simp only[hgC,cD,cj,cT,dG,dY,Opd.ev,getD_some h1,put,q2]
 | .k ts::ss,a8,c,dn,b,k,t,hb,h0,hk,h1,h2,hc,hl=>by
  simp only[kI,MS.ts]at hb;obtain⟨x,y,rfl,hx,hy⟩:=pf (ts:=ts) hb;have flat:∀{ts:List PTy}{x:List PV},dX ts x->ts.all PTy.flatT=true->∀k,jn mT x k=(x,k):=by intro ts x h;refine jP (P:=fun ts x=>ts.all PTy.flatT=true->∀k,jn mT x k=(x,k)) (fun _ _=>rfl) ?_ ?_ ts x h;intro us rows ts ps _ _ _ ha;simp[PTy.flatT]at ha;intro t p ts ps _ ht hp _ ih ha;simp only[Zq,Zg]at ha;exact fun k=>by rw[vD mT hp,ih ha.2]
  have m0:=flat hx a8.1;rw[pM,m0]at hk⊢;have hlen:(dn++x).length=dn.length+ts.length:=by rw[Zv,nT hx]
  obtain⟨t',h',r1,r2⟩:=H7 ss a8.2 (c:=c) (dn:=dn++x) hy h0 hk h1 h2 hc hl;rw[hlen,List.append_assoc]at r1;exact⟨t',h',r1,r2⟩
 | .s ts f::ss,a8,c,dn,b,k,t,hb,h0,hk,h1,h2,hc,hl=>by
  simp only[kI,MS.ts]at hb;obtain⟨x,y,rfl,hx,hy⟩:=pf (ts:=ts) hb;have hN:=Fx ss (c+6);simp only[hgN]at hl;rw[pM]at hk⊢;have hle:=rj mT y (jn mT x k).2;have av:=rj mT x k;have al:=UZ mT hx k;simp only at hk hle;have a6:ja true ts.length dn.length ((dn++((jn mT x k).1++(jn mT y (jn mT x k).2).1)).map .pv)=some (.agg ((jn mT x k).1.map .pv)):=by rw[<-al];exact qz (agg:=true) (.inl rfl)
  obtain⟨t1,a1,a2,a3,a4⟩:=UN (Φ:=Φ) (ext:=ext) (lp:=cS) h1 h2 hc (by omega) (by omega) a6 (by simp only[cy,xR];rfl) (a8.1 x hx k h0 (by omega));have hlen:(dn++(jn mT x k).1).length=dn.length+ts.length:=by rw[Zv,al]
  obtain⟨t2,h',b1,b2⟩:=H7 ss a8.2 (c:=c+6) (dn:=dn++(jn mT x k).1) (b:=y) (k:=(jn mT x k).2) (t:=t1) hy (by omega) hk a3 a4 (by omega) (by omega);refine⟨t2,h',?_,b2⟩;rw[hlen,List.append_assoc]at b1;simp only[cD]at a1;simp only[hgC,cD];split at a1;rename_i σ1 e1;simp only[e1,a1];exact b1;exact absurd a1 (by intro h;simp_all)
 | .l us f::ss,a8,c,dn,b,k,t,hb,h0,hk,h1,h2,hc,hl=>by
  simp only[kI,MS.ts]at hb;obtain⟨x,y,rfl,hx,hy⟩:=pf (ts:=[.lst us]) hb;have hN:=Fx ss (c+6);simp only[hgN]at hl;rw[pM]at hk⊢;have hle:=rj mT y (jn mT x k).2;have av:=rj mT x k;have al:=UZ mT hx k;have aE:=hx;obtain⟨p,x',rfl,hp,hn⟩:=ir aE;obtain rfl:=jT hn;obtain⟨rows,rfl⟩:=tk hp;simp only[jn]at hk hle av al⊢;have a6:ja false 1 dn.length ((dn++([PV.lst (fA mT rows k).1]++(jn mT y (fA mT rows k).2).1)).map .pv)=some (.one (.pv (.lst (fA mT rows k).1))):=qz (agg:=false) (a:=[.lst (fA mT rows k).1]) (.inr rfl);obtain⟨t1,a1,a2,a3,a4⟩:=UN (Φ:=Φ) (ext:=ext) (lp:=cS) h1 h2 hc (by omega) (by omega) a6 rfl (a8.1 rows hp k h0 (by omega));have hlen:(dn++[PV.lst (fA mT rows k).1]).length=dn.length+1:=by simp
  obtain⟨t2,h',b1,b2⟩:=H7 ss a8.2 (c:=c+6) (dn:=dn++[PV.lst (fA mT rows k).1]) (b:=y) (k:=(fA mT rows k).2) (t:=t1) hy (by omega) hk a3 a4 (by omega) (by omega);refine⟨t2,h',?_,b2⟩;rw[hlen,List.append_assoc]at b1;simp only[cD]at a1;simp only[hgC,cD];split at a1;rename_i σ1 e1;simp only[e1,a1];exact b1;exact absurd a1 (by intro h;simp_all)
def DB {f:Nat}{ss:List MS}(hk:Φ f=some (DA ss))(a8:Po Φ ext mT ss):Vz Φ ext mT f (kI ss):=by
 intro row hr k h0 af;have hN:=Fx ss 5;obtain⟨m,hm⟩:∃m,hgN 5 ss+1-2=m+4:=⟨hgN 5 ss-5,by omega⟩;refine j0 hk ?_;have aF:((jn mT row k).1.map L.pv).all plain=true:=by simp[plain]
 let t0:List V:= .agg ((jn mT row k).1.map .pv)::ce .i64 k:: .one (.ptr 0 0 0):: .b8 []::ce .i64 0::List.replicate (m+1) (.b8 []);have aC:t0.length=hgN 5 ss+1:=by simp[t0];omega
 obtain⟨t',h',a1,a2⟩:=H7 (Φ:=Φ) (ext:=ext) ss a8 (c:=5) (dn:=[]) (b:=row) (k:=k) (t:=t0) hr h0 af rfl rfl (Zi _) (by omega);have ae:List.replicate (m+4) (V.b8 [])= .b8 []:: .b8 []:: .b8 []::List.replicate (m+1) (.b8 []):=rfl;have ad:iN Φ ext (DA ss).body (start (DA ss) [.agg ((jn mT row k).1.map .pv),ce .i64 k])=some (.ret,⟨t',h'⟩):=by simp only[t0,Zx,Zk]at a1;simp only[iN,DA,start,Zo,Zx,ZK,Nat.reduceAdd,hm,Zh,Zk,ae,cD,cj,cT,dG,dY,fa,Opd.ev,put,YA,V.cells,aF,if_true,Yf,ZP];exact a1
 rw[ad];simp only[done,DA,dd,cu,fb,a2,Y',YF,Zw,V.cells,eh,comp,cU,dS];rfl
end
end Gi
