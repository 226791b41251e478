/- Of this proof. -/
import Derived.Test.YtpnolnkjijmfjaaGreatGpb
set_option linter.all false
namespace Gi
open Go Go.RowKit
section
variable (mT:Int->List UInt8)
mutual
def oS :PV->Int->PV×Int
 | .int κ _,k=>(.int κ (κ.wrap k),k+1)
 | .bool _,k=>(.bool (k.tmod 3==0),k+1)
 | .str _,k=>(.str (mT k),k+1)
 | .lst rows,k=>(.lst (fA rows k).1,(fA rows k).2)
def uA :List PV->Int->List PV×Int
 |[],k=>([],k)
 |p::ps,k=>((oS p k).1::(uA ps (oS p k).2).1,(uA ps (oS p k).2).2)
def fA :List (List PV)->Int->List (List PV)×Int
 |[],k=>([],k)
 |r::rs,k=>((uA r k).1::(fA rs (uA r k).2).1,(fA rs (uA r k).2).2)
end
mutual
def TF :∀(p:PV)(k:Int),k<=(oS mT p k).2
 | .int κ _,k=>by simp only[oS];omega
 | .bool _,k=>by simp only[oS];omega
 | .str _,k=>by simp only[oS];omega
 | .lst rows,k=>by simp only[oS];exact ud rows k
def FN :∀(ps:List PV)(k:Int),k<=(uA mT ps k).2
 |[],k=>by simp only[uA];omega
 |p::ps,k=>by simp only[uA];have:=TF p k;have:=FN ps (oS mT p k).2;omega
def ud :∀(rs:List (List PV))(k:Int),k<=(fA mT rs k).2
 |[],k=>by simp only[fA];omega
 |r::rs,k=>by simp only[fA];have:=FN r k;have:=ud rs (uA mT r k).2;omega
end
def UY :∀(rs:List (List PV))(k:Int),(fA mT rs k).1.length=rs.length
 |[],k=>by simp only[fA]
 |r::rs,k=>by simp only[fA,Zo,UY rs]
def UX :∀(ps:List PV)(k:Int),(uA mT ps k).1.length=ps.length
 |[],k=>by simp only[uA]
 |p::ps,k=>by simp only[uA,Zo,UX ps]
end
structure MC where
 p:List Nat
 f:Nat
def U1 (c:Nat):List X2:=[⟨some c, .mv (.tmp 0),none⟩,⟨some (c+1), .mv (.tmp 5),none⟩]
def xh (c:Nat):List Nat->List X2
 |[]=>[]
 |d::ds=>⟨some (c+1), .bo (.tmp c) d,none⟩::xh (c+1) ds
def Tv (c:Nat):List X2:=[⟨some c, .mv (.tmp 1),none⟩,⟨some (c+1), .bin .add (.tmp c) (.pv (.int .i64 1)),none⟩,⟨some 1, .mv (.tmp (c+1)),none⟩]
def Bl (mt c:Nat):PTy->List X2
 | .int .i64=>[]
 | .int κ=>[⟨some (c+3), .conv κ (.tmp (c+2)),none⟩]
 | .str=>[⟨some (c+3), .bf mt [.tmp (c+2)],none⟩]
 | .bool=>[⟨some (c+3), .bin .rem (.tmp (c+2)) (.pv (.int .i64 3)),none⟩,⟨some (c+4), .bin .eql (.tmp (c+3)) (.pv (.int .i64 0)),none⟩]
 | .lst _=>[]
def Ix (z mt c:Nat)(t:PTy)(x:MC):List (List X2):=
 let v:=c+2+(Bl mt c t).length
 [U1 c++(⟨some (c+2), .mv (.tmp 1),none⟩::(Bl mt c t++(⟨some (v+1), .bN z (.tmp c) (.tmp (c+1)),none⟩::(xh (v+1) x.p++[⟨none, .bY 1 (.tmp (v+1+x.p.length)) (.tmp v),none⟩])))),Tv (v+2+x.p.length)]
def Mn (z c:Nat)(x:MC):List (List X2):=
 let e:=c+3+x.p.length
 [U1 c++(⟨some (c+2), .bN z (.tmp c) (.tmp (c+1)),none⟩::(xh (c+2) x.p++[⟨some e, .bq false 1 (.tmp (c+2+x.p.length)),none⟩,⟨some (e+1), .mv (.tmp 1),none⟩,⟨some (e+2), .bh x.f (.tmp e) (.tmp (e+1)),none⟩,⟨some 1, .mv (.tmp (e+2)),none⟩]))]
def Uw (z mt c:Nat):PTy->MC->List (List X2)
 | .lst _,x=>Mn z c x
 |t,x=>Ix z mt c t x
def CW (mt c:Nat):PTy->MC->Nat
 | .lst _,x=>c+6+x.p.length
 |t,x=>c+6+(Bl mt c t).length+x.p.length
def WQ (z mt:Nat):Nat->List PTy->List MC->List (List X2)
 |c,t::ts,x::xs=>Uw z mt c t x++WQ z mt (CW mt c t x) ts xs
 |_,_,_=>[]
def pq (mt:Nat):Nat->List PTy->List MC->Nat
 |c,t::ts,x::xs=>pq mt (CW mt c t x) ts xs
 |c,_,_=>c
def TR :List (List X2)->Q7
 |[]=> .skip
 |[a]=> .region a
 |a::b::r=> .seq (.region a) (TR (b::r))
def abd (i a t0:Nat):Q7:= .seq (.region [⟨some t0, .mv (.tmp i),none⟩,⟨some (t0+1), .mv (.tmp a),none⟩,⟨some (t0+2), .c3 (.tmp (t0+1)),none⟩,⟨some (t0+3), .bin .lss (.tmp t0) (.tmp (t0+2)),none⟩]) (.cond (.tmp (t0+3)) .skip (.exit 0))
def GA (mt:Nat)(ts:List PTy)(xs:List MC):Q7:= .seq (abd 5 0 6) (.seq (.block 1 (TR (WQ ts.length mt 12 ts xs))) (NP 5 10))
def jO (mt:Nat)(ts:List PTy)(xs:List MC):AFn:=⟨pq mt 12 ts xs+1,[.tmp 4], .seq (.region [⟨some 4, .mv (.pv (.int .i64 0)),none⟩]) (.seq (.seq (.region [⟨some 5, .mv (.pv (.int .i64 0)),none⟩]) (.block 0 (.loop (GA mt ts xs)))) (.seq (.region [⟨some (pq mt 12 ts xs), .mv (.tmp 1),none⟩,⟨some 4, .mv (.tmp (pq mt 12 ts xs)),none⟩]) .ret))⟩
def R6 {call:Nat->List V->Option V}{lp:(St->Option (Ex×St))->St->Option (Ex×St)}:∀{rs:List (List X2)}{Z Z':St},cj call rs.flatten Z=some Z'->cD call lp (TR rs) Z=some (.normal,Z')
 |[],Z,Z',h=>by simp[cj]at h;subst h;rfl
 |[a],Z,Z',h=>by simp only[Qq,List.flatten_nil,Zw]at h;simp only[TR,cD,h]
 |a::b::r,Z,Z',h=>by
  rw[Qq]at h;cases ha:cj call a Z with
  |none=>
   exfalso;have:∀(a b:List X2)(Z:St),cj call a Z=none->cj call (a++b) Z=none:=by
    intro a;induction a with
    |nil=>intro b Z h;simp[cj]at h
    |cons o a ih=>
     intro b Z h;simp only[Zh,cj]at h⊢;cases hs:cT call o Z with
     |none=>rfl
     |some σ1=>rw[hs]at h;exact ih b σ1 h
   rw[this a _ Z ha]at h;cases h
  |some σ1=>rw[fq call a _ ha]at h;have:=R6 (lp:=lp) (rs:=b::r) h;simp only[TR,cD,ha];exact this
def Eo {call:Nat->List V->Option V}{o i:Nat}:∀{p:List Nat}{c j:Nat}{t:List V}{h:List Q0},t[c]? =some (.one (.ptr o i j))->c+p.length<t.length->
 ∃t',cj call (xh c p) ⟨t,h⟩=some ⟨t',h⟩/\ t'.length=t.length/\ t'[c+p.length]? =some (.one (.ptr o i (j+p.sum)))/\ ∀n≤c,t'[n]? =t[n]?
 |[],c,j,t,h,hc,hl=>⟨t,rfl,rfl,by simpa using hc,fun _ _=>rfl⟩
 |d::ds,c,j,t,h,hc,hl=>by simp only[Zo]at hl;obtain⟨t',e1,e2,e3,e4⟩:=Eo (call:=call) (o:=o) (i:=i) (p:=ds) (c:=c+1) (j:=j+d) (t:=t.set (c+1) (.one (.ptr o i (j+d)))) (h:=h) (Zd (by omega)) (by simp;omega);refine⟨t',?_,by simpa using e2,?_,fun n hn=> ?_⟩;simp only[xh,cj,cT,dG,dY,Opd.ev,getD_some hc,put,e1];simp only[Zo,QZ];rw[show c+(ds.length+1)=c+1+ds.length by omega,e3,Nat.add_assoc];rw[e4 n (by omega),Za (by omega)]
section
variable {Φ:Nat->Option AFn}{ext:Nat->List V->Option V}{mT:Int->List UInt8}{mt:Nat}
def Bz :Int:=1099511627776
def uE (Φ:Nat->Option AFn)(ext:Nat->List V->Option V)(mT:Int->List UInt8)(f:Nat)(ts:List PTy):Prop:=
 (∀k:Int,cf Φ ext (f+iT) [eW [],ce .i64 k]=some (.b8 [(false,[.pv (.int .i64 k)])]))/\
 ∀rows:List (List PV),mY (.lst ts) (.lst rows)->∀k:Int,0<=k->(fA mT rows k).2<=Bz->cf Φ ext (f+iT) [.one (.down ts.length rows),ce .i64 k]=some (.b8 [(false,[.pv (.int .i64 (fA mT rows k).2)]),(false,[.down ts.length (fA mT rows k).1])])
def GT (Φ:Nat->Option AFn)(ext:Nat->List V->Option V)(mT:Int->List UInt8)(mt:Nat):Prop:=∀k:Int,0<=k->k<=Bz->cf Φ ext mt [ce .i64 k]=some (fZ (mT k))
def Vv (hT:GT Φ ext mT mt){ty:PTy}{p:PV}(hp:mY ty p)(hf:ty.flatT=true){c:Nat}{k:Int}(h0:0<=k)(hk:k<Bz){t:List V}{h:List Q0}(h2:t[c+2]? =some (ce .i64 k))(hl:c+2+(Bl mt c ty).length<t.length):
 ∃t',cj (cf Φ ext) (Bl mt c ty) ⟨t,h⟩=some ⟨t',h⟩/\ t'.length=t.length/\ t'[c+2+(Bl mt c ty).length]? =some (.one (.pv (oS mT p k).1))/\ ∀n≤c+2,t'[n]? =t[n]? :=by
 have e2:=getD_some h2;cases ty with
 |lst us=>cases hf
 |str=>obtain⟨s,rfl⟩:=qv hp;simp only[Bl,ZJ]at hl⊢;refine⟨t.set (c+3) (fZ (mT k)),?_,by simp,by simp only[oS];exact Zd (by omega),fun n hn=>Za (by omega)⟩;simp only[cj,cT,dG,dY,Zt,Zy,Opd.ev,e2,cy,V.view,L.view,hT k h0 (by omega),V.flat,L.flat,if_true,fe,fv,put]
 |bool=>
  obtain⟨b,rfl⟩:=pg hp;simp only[Bl,Zo,Zx]at hl⊢;have e3:(t.set (c+3) (ce .i64 (k.tmod 3))).getD (c+3) (.b8 [])=ce .i64 (k.tmod 3):=de (by omega);refine⟨(t.set (c+3) (ce .i64 (k.tmod 3))).set (c+4) (cL (k.tmod 3==0)),?_,by simp,by simp only[oS];exact Zd (by simp;omega),fun n hn=>by rw[Za (by omega),Za (by omega)]⟩;have h3:¬((3:Int)=0):=by decide
  simp only[cj,cT,dG,dY,Opd.ev,e2,bin,if_true,ft,if_neg h3,put,e3]
 |int κ=>
  obtain⟨n,rfl⟩:=qu hp;by_cases hκ:κ= .i64;subst hκ;have hw:IntKind.i64.wrap k=k:=by rw[IntKind.wrap_i64];unfold Bz at hk;omega
  refine⟨t,rfl,rfl,?_,fun _ _=>rfl⟩;simp only[Bl,Zx,Yx,oS,hw];exact h2
  ·have hv:Bl mt c (.int κ)=[⟨some (c+3), .conv κ (.tmp (c+2)),none⟩]:=by cases κ<;>first|rfl|exact absurd rfl hκ
   rw[hv]at hl⊢;simp only[ZJ]at hl⊢;refine⟨t.set (c+3) (ce κ (κ.wrap k)),?_,by simp,by simp only[oS];exact Zd (by omega),fun n hn=>Za (by omega)⟩;simp only[cj,cT,dG,dY,Opd.ev,e2,isInt,put]
def DU {ty:PTy}{p:PV}(hp:mY ty p)(hf:ty.flatT=true)(k:Int):p.flat=true/\ (oS mT p k).1.flat=true/\ (oS mT p k).2=k+1:=by
 cases ty with
 |lst us=>cases hf
 |str=>obtain⟨s,rfl⟩:=qv hp;simp[oS,PV.flat]
 |bool=>obtain⟨s,rfl⟩:=pg hp;simp[oS,PV.flat]
 |int κ=>obtain⟨s,rfl⟩:=qu hp;simp[oS,PV.flat]
def ady {z:Nat}{E:List (List PV)}{i:Nat}(hi:i<E.length)(call:Nat->List V->Option V){t:List V}{a b:Nat}(ha:t[a]? =some (.one (.arr 0)))(hb:t[b]? =some (ce .i64 i)):dY call ⟨t,[.bC z E]⟩ (.bN z (.tmp a) (.tmp b))=some (.one (.ptr 0 i 0)):=by simp only[dY,Opd.ev,getD_some ha,getD_some hb,isInt];simp[cN,lent,Q0.ba,hi]
structure QC (i:Nat) (k:Int) (t:List V):Prop where
 t0:t[0]? =some (.one (.arr 0))
 t1:t[1]? =some (ce .i64 k)
 t5:t[5]? =some (ce .i64 i)
def abl {call:Nat->List V->Option V}{i c:Nat}{k:Int}{t:List V}{h:List Q0}(s:QC i k t)(h0:0<=k)(hk:k<Bz)(hc:6<=c)(hl:c+1<t.length):
 ∃t',cj call (Tv c) ⟨t,h⟩=some ⟨t',h⟩/\ t'.length=t.length/\ QC i (k+1) t':=by
 have e1:=getD_some s.t1;have e2:(t.set c (ce .i64 k)).getD c (.b8 [])=ce .i64 k:=de (by omega);have hw:IntKind.i64.wrap (k+1)=k+1:=by rw[IntKind.wrap_i64];unfold Bz at hk;omega
 have e3:((t.set c (ce .i64 k)).set (c+1) (ce .i64 (k+1))).getD (c+1) (.b8 [])=ce .i64 (k+1):=de (by simp;omega);refine⟨((t.set c (ce .i64 k)).set (c+1) (ce .i64 (k+1))).set 1 (ce .i64 (k+1)),?_,by simp,?_,?_,?_⟩;simp only[Tv,cj,cT,dG,dY,Opd.ev,e1,put,e2,bin,if_true,ft,hw,e3];rw[Za (by omega),Za (by omega),Za (by omega)];exact s.t0;exact Zd (by simp;omega);rw[Za (by omega),Za (by omega),Za (by omega)];exact s.t5
def Vg {dn rest:List PV}{p q:PV}:(dn++p::rest).set dn.length q=dn++q::rest:=by rw[YQ _ _ (Zi _),YI,ZP]
def H6 {dn rest:List PV}{p:PV}:(dn++p::rest)[dn.length]? =some p:=by rw[Zm (Zi _),YI];rfl
def VU (hT:GT Φ ext mT mt){ty:PTy}{p:PV}{x:MC}{dn rest:List PV}{E:List (List PV)}{z i c:Nat}{k:Int}{t:List V}(hp:mY ty p)(hf:ty.flatT=true)(s:QC i k t)(h0:0<=k)(hk:k<Bz)(hc:12<=c)(hE:E[i]? =some (dn++p::rest))(hx:x.p.sum=dn.length)(hl:c+6+(Bl mt c ty).length+x.p.length<=t.length):
 ∃t',cj (cf Φ ext) (Ix z mt c ty x).flatten ⟨t,[.bC z E]⟩=some ⟨t',[.bC z (E.set i (dn++(oS mT p k).1::rest))]⟩/\ t'.length=t.length/\ QC i (oS mT p k).2 t':=by
 obtain⟨f1,f2,f3⟩:=DU (mT:=mT) hp hf k;have hi:i<E.length:=(Zb.1 hE).1;generalize hv:c+2+(Bl mt c ty).length=v at*;let t1:=((t.set c (.one (.arr 0))).set (c+1) (ce .i64 i)).set (c+2) (ce .i64 k);have a0:cj (cf Φ ext) (U1 c++[⟨some (c+2), .mv (.tmp 1),none⟩]) ⟨t,[.bC z E]⟩=some ⟨t1,[.bC z E]⟩:=by have e1:=getD_some s.t0;have e2:(t.set c (V.one (.arr 0))).getD 5 (.b8 [])=ce .i64 i:=(gK (by omega)).trans (getD_some s.t5);have e3:((t.set c (V.one (.arr 0))).set (c+1) (ce .i64 i)).getD 1 (.b8 [])=ce .i64 k:=(gK (by omega)).trans ((gK (by omega)).trans (getD_some s.t1));simp only[U1,Zh,Zk,cj,cT,dG,dY,Opd.ev,e1,put,e2,e3,t1]
 have l1:t1.length=t.length:=by simp[t1]
 have g1:∀n,n<c->t1[n]? =t[n]? :=fun n hn=>by simp only[t1];rw[Za (by omega),Za (by omega),Za (by omega)]
 have gc:t1[c]? =some (.one (.arr 0)):=by simp only[t1];rw[Za (by omega),Za (by omega)];exact Zd (by omega)
 have gd:t1[c+1]? =some (ce .i64 i):=by simp only[t1];rw[Za (by omega)];exact Zd (by simp;omega)
 have ge:t1[c+2]? =some (ce .i64 k):=by simp only[t1];exact Zd (by simp;omega)
 clear_value t1;obtain⟨t2,b1,b2,b3,b4⟩:=Vv (h:=[.bC z E]) hT hp hf h0 hk ge (by omega);rw[hv]at b3;let t3:=t2.set (v+1) (.one (.ptr 0 i 0));have c1:cj (cf Φ ext) [⟨some (v+1), .bN z (.tmp c) (.tmp (c+1)),none⟩] ⟨t2,[.bC z E]⟩=some ⟨t3,[.bC z E]⟩:=by simp only[cj,cT,dG,ady hi (cf Φ ext) (t:=t2) (a:=c) (b:=c+1) ((b4 c (by omega)).trans gc) ((b4 (c+1) (by omega)).trans gd),put,t3]
 have l3:t3.length=t.length:=by simp only[t3,ZC];omega
 obtain⟨t4,d1,d2,d3,d4⟩:=Eo (call:=cf Φ ext) (o:=0) (i:=i) (p:=x.p) (c:=v+1) (j:=0) (t:=t3) (h:=[.bC z E]) (Zd (by omega)) (by omega);have q3:t4[v]? =some (.one (.pv (oS mT p k).1)):=by rw[d4 v (by omega)];simp only[t3];rw[Za (by omega)];exact b3
 have low:∀n,n<c->t4[n]? =t[n]? :=fun n hn=>by rw[d4 n (by omega)];simp only[t3];rw[Za (by omega),b4 n (by omega),g1 n hn]
 rw[ZK,hx]at d3;have e1:cj (cf Φ ext) [⟨none, .bY 1 (.tmp (v+1+x.p.length)) (.tmp v),none⟩] ⟨t4,[.bC z E]⟩=some ⟨t4,[.bC z (E.set i (dn++(oS mT p k).1::rest))]⟩:=by simp only[cj,cT,dG,dY,fa,Opd.ev,getD_some d3,getD_some q3,yy,Yh,hE,H6,f1,f2,and_self,if_true,Vg,ZP,put]
 obtain⟨t5,i1,i2,i3⟩:=abl (call:=cf Φ ext) (c:=v+2+x.p.length) (h:=[.bC z (E.set i (dn++(oS mT p k).1::rest))]) (⟨(low 0 (by omega)).trans s.t0,(low 1 (by omega)).trans s.t1,(low 5 (by omega)).trans s.t5⟩:QC i k t4) h0 hk (by omega) (by omega);refine⟨t5,?_,by omega,by rw[f3];exact i3⟩;have a5:(Ix z mt c ty x).flatten=(U1 c++[⟨some (c+2), .mv (.tmp 1),none⟩])++(Bl mt c ty++([⟨some (v+1), .bN z (.tmp c) (.tmp (c+1)),none⟩]++(xh (v+1) x.p++([⟨none, .bY 1 (.tmp (v+1+x.p.length)) (.tmp v),none⟩]++Tv (v+2+x.p.length))))):=by simp only[Ix,hv,Qq,List.flatten_nil,Zw,List.append_assoc,Zh,Zk]
 rw[a5,fq _ _ _ a0,fq _ _ _ b1,fq _ _ _ c1,fq _ _ _ d1,fq _ _ _ e1,i1]
def acv {z i j:Nat}{E:List (List PV)}{e:List PV}{q:PV}(hE:E[i]? =some e)(hj:j<z)(hq:e[j]? =some q):BL z E (i*z+j)=some q:=by
 have h1:(i*z+j)/z=i:=by rw[YH,Qy (by omega),Qt hj];omega
 have h2:(i*z+j)%z=j:=by rw[YH,Nat.mul_add_mod,Nat.mod_eq_of_lt hj]
 simp only[BL,h1,h2,hE,hq]
def abD {z i j:Nat}{E:List (List PV)}{e:List PV}{q:PV}(hE:E[i]? =some e)(hj:j<z):iU z E (i*z+j) q=E.set i (e.set j q):=by
 have h1:(i*z+j)/z=i:=by rw[YH,Qy (by omega),Qt hj];omega
 have h2:(i*z+j)%z=j:=by rw[YH,Nat.mul_add_mod,Nat.mod_eq_of_lt hj]
 simp only[iU,h1,h2,hE,Ys]
def VV {us:List PTy}{rows:List (List PV)}{x:MC}{dn rest:List PV}{E:List (List PV)}{z i c:Nat}{k:Int}{t:List V}(hO:uE Φ ext mT x.f us)(hp:mY (.lst us) (.lst rows))(s:QC i k t)(h0:0<=k)(hk:(fA mT rows k).2<=Bz)(hc:12<=c)(hE:E[i]? =some (dn++ .lst rows::rest))(hz:dn.length<z)(hx:x.p.sum=dn.length)(hl:c+6+x.p.length<=t.length):
 ∃t',cj (cf Φ ext) (Mn z c x).flatten ⟨t,[.bC z E]⟩=some ⟨t',[.bC z (E.set i (dn++(oS mT (.lst rows) k).1::rest))]⟩/\ t'.length=t.length/\ QC i (oS mT (.lst rows) k).2 t':=by
 have hi:i<E.length:=(Zb.1 hE).1;let t1:=(t.set c (.one (.arr 0))).set (c+1) (ce .i64 i);have a0:cj (cf Φ ext) (U1 c) ⟨t,[.bC z E]⟩=some ⟨t1,[.bC z E]⟩:=by have e1:=getD_some s.t0;have e2:(t.set c (V.one (.arr 0))).getD 5 (.b8 [])=ce .i64 i:=(gK (by omega)).trans (getD_some s.t5);simp only[U1,cj,cT,dG,dY,Opd.ev,e1,put,e2,t1]
 have g1:∀n,n<c->t1[n]? =t[n]? :=fun n hn=>by simp only[t1];rw[Za (by omega),Za (by omega)]
 have gc:t1[c]? =some (.one (.arr 0)):=by simp only[t1];rw[Za (by omega)];exact Zd (by omega)
 have gd:t1[c+1]? =some (ce .i64 i):=by simp only[t1];exact Zd (by simp;omega)
 have l1:t1.length=t.length:=by simp[t1]
 clear_value t1;let t3:=t1.set (c+2) (.one (.ptr 0 i 0));have c1:cj (cf Φ ext) [⟨some (c+2), .bN z (.tmp c) (.tmp (c+1)),none⟩] ⟨t1,[.bC z E]⟩=some ⟨t3,[.bC z E]⟩:=by simp only[cj,cT,dG,ady hi (cf Φ ext) (t:=t1) (a:=c) (b:=c+1) gc gd,put,t3]
 have l3:t3.length=t.length:=by simp only[t3,ZC];omega
 obtain⟨t4,d1,d2,d3,d4⟩:=Eo (call:=cf Φ ext) (o:=0) (i:=i) (p:=x.p) (c:=c+2) (j:=0) (t:=t3) (h:=[.bC z E]) (Zd (by omega)) (by omega);have low:∀n,n<c->t4[n]? =t[n]? :=fun n hn=>by rw[d4 n (by omega)];simp only[t3];rw[Za (by omega),g1 n hn]
 rw[ZK,hx]at d3;generalize hw:c+3+x.p.length=w at*;have ax:c+2+x.p.length<w:=by omega
 let E':=E.set i (dn++(oS mT (.lst rows) k).1::rest);have aa:nV (cf Φ ext) [.bC z E] x.f (.one (.sub 0 (i*z+dn.length))) k=some (ce .i64 (fA mT rows k).2,[.bC z E']):=by
  have al:=acv (z:=z) hE hz H6;cases rows with
  |nil=>
   have ag:E'=E:=by simp only[E',oS,fA];refine YL fun n=> ?_;by_cases hn:n=i;subst hn;rw[Zd hi,hE];rw[Za (by omega)]
   rw[ag];simp only[nV,Yh,al,hO.1 k,L.flat,if_true,fA]
  |cons r rs=>
   have ah:wid (r::rs)=us.length:=by simp only[wid];exact nT ((dM hp).2 r (by simp))
   have:=hO.2 (r::rs) hp k h0 hk;have an:=abD (q:= .lst (fA mT (r::rs) k).1) hE hz;rw[Vg]at an;simp only[nV,Yh,al,ah,this,L.flat,and_self,if_true,an,ZP,E',oS]
 have r1:((t4.set w (V.one (.sub 0 (i*z+dn.length)))).set (w+1) (ce .i64 k)).getD w (.b8 [])= .one (.sub 0 (i*z+dn.length)):=(gK (by omega)).trans (de (by omega));have r2:((t4.set w (V.one (.sub 0 (i*z+dn.length)))).set (w+1) (ce .i64 k)).getD (w+1) (.b8 [])=ce .i64 k:=de (by simp;omega);have r3:(((t4.set w (V.one (.sub 0 (i*z+dn.length)))).set (w+1) (ce .i64 k)).set (w+2) (ce .i64 (fA mT rows k).2)).getD (w+2) (.b8 [])=ce .i64 (fA mT rows k).2:=de (by simp;omega);have r4:(t4.set w (V.one (.sub 0 (i*z+dn.length)))).getD 1 (.b8 [])=ce .i64 k:=(gK (by omega)).trans (getD_some ((low 1 (by omega)).trans s.t1));refine⟨(((t4.set w (V.one (.sub 0 (i*z+dn.length)))).set (w+1) (ce .i64 k)).set (w+2) (ce .i64 (fA mT rows k).2)).set 1 (ce .i64 (fA mT rows k).2),?_,by simp;omega,?_,?_,?_⟩;have a5:(Mn z c x).flatten=U1 c++([⟨some (c+2), .bN z (.tmp c) (.tmp (c+1)),none⟩]++(xh (c+2) x.p++[⟨some w, .bq false 1 (.tmp (c+2+x.p.length)),none⟩,⟨some (w+1), .mv (.tmp 1),none⟩,⟨some (w+2), .bh x.f (.tmp w) (.tmp (w+1)),none⟩,⟨some 1, .mv (.tmp (w+2)),none⟩])):=by simp only[Mn,hw,Qq,List.flatten_nil,Zw,List.append_assoc,Zh,Zk]
 rw[a5,fq _ _ _ a0,fq _ _ _ c1,fq _ _ _ d1];simp only[cj,cT,dG,dY,fa,Opd.ev,getD_some d3,vB,Yh,hE,H6,and_self,if_true,put,r4,r1,r2,aa,r3,E'];rw[Za (by omega),Za (by omega),Za (by omega),Za (by omega)];exact(low 0 (by omega)).trans s.t0;simp only[oS];exact Zd (by simp;omega);rw[Za (by omega),Za (by omega),Za (by omega),Za (by omega)];exact(low 5 (by omega)).trans s.t5
def Mg (Φ:Nat->Option AFn)(ext:Nat->List V->Option V)(mT:Int->List UInt8):Nat->List PTy->List MC->Prop
 |j, .lst us::ts,x::xs=>x.p.sum=j/\ uE Φ ext mT x.f us/\ Mg Φ ext mT (j+1) ts xs
 |j,_::ts,x::xs=>x.p.sum=j/\ Mg Φ ext mT (j+1) ts xs
 |_,[],[]=>True
 |_,_,_=>False
def Ii :∀(ts:List PTy)(xs:List MC)(c:Nat),c<=pq mt c ts xs
 |[],_,c=>Zi _
 |_::_,[],c=>Zi _
 |t::ts,x::xs,c=>by simp only[pq];refine Zc ?_ (Ii ts xs _);cases t<;>simp only[CW]<;>omega
def Vc (hT:GT Φ ext mT mt){z i:Nat}:∀(ts:List PTy)(xs:List MC){c:Nat}{dn row:List PV}{E:List (List PV)}{k:Int}{t:List V},Mg Φ ext mT dn.length ts xs->dX ts row->E[i]? =some (dn++row)->z=dn.length+ts.length->QC i k t->0<=k->(uA mT row k).2<=Bz->12<=c->pq mt c ts xs<=t.length->
 ∃t',cj (cf Φ ext) (WQ z mt c ts xs).flatten ⟨t,[.bC z E]⟩=some ⟨t',[.bC z (E.set i (dn++(uA mT row k).1))]⟩/\ t'.length=t.length/\ QC i (uA mT row k).2 t'
 |[],xs,c,dn,row,E,k,t,hm,hr,hE,hz,s,h0,hk,hc,hl=>by
  obtain rfl:=jT hr;have hi:i<E.length:=(Zb.1 hE).1;have ag:E.set i (dn++(uA mT [] k).1)=E:=by simp only[uA];refine YL fun n=> ?_;by_cases hn:n=i;subst hn;rw[Zd hi,hE];rw[Za (by omega)]
  rw[ag];cases xs<;>exact⟨t,rfl,rfl,by simpa only[uA]using s⟩
 |ty::ts,[],c,dn,row,E,k,t,hm,hr,hE,hz,s,h0,hk,hc,hl=>by cases ty<;>exact hm.elim
 |ty::ts,x::xs,c,dn,row,E,k,t,hm,hr,hE,hz,s,h0,hk,hc,hl=>by
  obtain⟨p,rest,rfl,hp,ar⟩:=ir hr;have hi:i<E.length:=(Zb.1 hE).1;have hle:=FN mT rest (oS mT p k).2;have ab:=TF mT p k;simp only[uA]at hk;simp only[pq]at hl;have hN:=Ii (mt:=mt) ts xs (CW mt c ty x);have ad:Mg Φ ext mT (dn++[(oS mT p k).1]).length ts xs:=by
   have:(dn++[(oS mT p k).1]).length=dn.length+1:=by simp
   rw[this];cases ty<;>first|exact hm.2|exact hm.2.2
  have hx:x.p.sum=dn.length:=by cases ty<;>exact hm.1
  have cell:∃t',cj (cf Φ ext) (Uw z mt c ty x).flatten ⟨t,[.bC z E]⟩=some ⟨t',[.bC z (E.set i (dn++(oS mT p k).1::rest))]⟩/\ t'.length=t.length/\ QC i (oS mT p k).2 t':=by
   by_cases hf:ty.flatT=true
   ·have hR:Uw z mt c ty x=Ix z mt c ty x:=by cases ty<;>first|rfl|cases hf
    have au:CW mt c ty x=c+6+(Bl mt c ty).length+x.p.length:=by cases ty<;>first|rfl|cases hf
    rw[hR];have:=(DU (mT:=mT) hp hf k).2.2;exact VU hT hp hf s h0 (by omega) hc hE hx (by omega)
   cases ty with
   |lst us=>obtain⟨rows,rfl⟩:=tk hp;have au:CW mt c (.lst us) x=c+6+x.p.length:=rfl;simp only[oS]at hle hk;exact VV hm.2.1 hp s h0 (by omega) hc hE (by rw[hz];simp) hx (by omega)
   |_=>exact absurd rfl hf
  obtain⟨t1,e1,e2,e3⟩:=cell;have ay:c<=CW mt c ty x:=by cases ty<;>simp only[CW]<;>omega
  obtain⟨t2,f1,f2,f3⟩:=Vc hT (z:=z) (i:=i) ts xs (c:=CW mt c ty x) (dn:=dn++[(oS mT p k).1]) (row:=rest) (E:=E.set i (dn++(oS mT p k).1::rest)) (k:=(oS mT p k).2) (t:=t1) ad ar (by rw[Zd hi];simp) (by rw[hz];simp;omega) e3 (by omega) hk (by omega) (by omega);refine⟨t2,?_,by omega,by simp only[uA];exact f3⟩;simp only[WQ,List.flatten_append];rw[fq _ _ _ e1,f1];simp only[List.set_set,uA,List.append_assoc,Zh,Zk]
def WG (hT:GT Φ ext mT mt){ts:List PTy}{xs:List MC}(hm:Mg Φ ext mT 0 ts xs):∀(rest done:List (List PV))(k:Int)(t:List V),QC done.length k t->(∀r∈rest,dX ts r)->0<=k->(fA mT rest k).2<=Bz->done.length+rest.length<=maxLen->pq mt 12 ts xs<=t.length->
 ∃t',cS (cD (cf Φ ext) cS (GA mt ts xs)) ⟨t,[.bC ts.length (done++rest)]⟩=some (.exit 0,⟨t',[.bC ts.length (done++(fA mT rest k).1)]⟩)/\ t'.length=t.length/\ t'[1]? =some (ce .i64 (fA mT rest k).2):=by
 intro rest;have hN:=Ii (mt:=mt) ts xs 12;have head:∀(done rest:List (List PV))(k:Int)(t:List V),QC done.length k t->pq mt 12 ts xs<=t.length->∃t',cD (cf Φ ext) cS (abd 5 0 6) ⟨t,[.bC ts.length (done++rest)]⟩=some (if 0<rest.length then .normal else .exit 0,⟨t',[.bC ts.length (done++rest)]⟩)/\ t'.length=t.length/\ QC done.length k t':=by
  intro done rest k t s hl;let t1:=(((t.set 6 (ce .i64 done.length)).set 7 (.one (.arr 0))).set 8 (ce .i64 (done++rest).length)).set 9 (cL (decide (0<rest.length)));have e0:=getD_some s.t5;have e1:(t.set 6 (ce .i64 done.length)).getD 0 (.b8 [])= .one (.arr 0):=(gK (by omega)).trans (getD_some s.t0);have e2:((t.set 6 (ce .i64 done.length)).set 7 (.one (.arr 0))).getD 7 (.b8 [])= .one (.arr 0):=de (by simp;omega);have e3:(((t.set 6 (ce .i64 done.length)).set 7 (.one (.arr 0))).set 8 (ce .i64 (done++rest).length)).getD 6 (.b8 [])=ce .i64 done.length:=(gK (by omega)).trans ((gK (by omega)).trans (de (by omega)));have e4:(((t.set 6 (ce .i64 done.length)).set 7 (.one (.arr 0))).set 8 (ce .i64 (done++rest).length)).getD 8 (.b8 [])=ce .i64 (done++rest).length:=de (by simp;omega);have e5:t1.getD 9 (.b8 [])=cL (decide (0<rest.length)):=de (by simp;omega);have e6:asList (lent [Q0.bC ts.length (done++rest)]) (.one (.arr 0))=some (done++rest):=rfl;have e7:decide ((done.length:Int)<((done++rest).length:Int))=decide (0<rest.length):=by simp only[Zv];by_cases h:0<rest.length;rw[decide_eq_true h,decide_eq_true (by omega)];rw[decide_eq_false h,decide_eq_false (by omega)]
  refine⟨t1,?_,by simp[t1],?_,?_,?_⟩;simp only[abd,cD,cj,cT,dG,dY,Opd.ev,e0,put,e1,e2,e6,e3,e4,bin,if_true,ft,e7];have ao:=e5;simp only[t1]at ao;rw[ao];by_cases h:0<rest.length;simp only[isBool,h,decide_true,if_true,t1];simp only[isBool,h,decide_false,ZA,if_false,t1];simp only[t1];rw[Za (by omega),Za (by omega),Za (by omega),Za (by omega)];exact s.t0;simp only[t1];rw[Za (by omega),Za (by omega),Za (by omega),Za (by omega)];exact s.t1;simp only[t1];rw[Za (by omega),Za (by omega),Za (by omega),Za (by omega)];exact s.t5
 induction rest with
 |nil=>intro done k t s hr h0 hk hlen hl;obtain⟨t',a1,a2,a3⟩:=head done [] k t s hl;refine⟨t',mf ?_ (by simp),a2,by simp only[fA];exact a3.t1⟩;simp only[GA,cD,a1,Zx,Nat.lt_irrefl,if_false,fA]
 |cons r rest ih=>
  intro done k t s hr h0 hk hlen hl;obtain⟨t1,a1,a2,a3⟩:=head done (r::rest) k t s hl;simp only[fA]at hk;have hle:=ud mT rest (uA mT r k).2;have az:=FN mT r k;obtain⟨t2,b1,b2,b3⟩:=Vc hT (z:=ts.length) (i:=done.length) ts xs (c:=12) (dn:=[]) (row:=r) (E:=done++r::rest) (k:=k) (t:=t1) hm (hr r (by simp)) (by rw[Zm (Zi _),YI];rfl) (by simp) a3 h0 (by omega) (Zi _) (by omega);have ai:(done++r::rest).set done.length ([]++(uA mT r k).1)=(done++[(uA mT r k).1])++rest:=by rw[YQ _ _ (Zi _),YI,ZP];simp
  rw[ai]at b1;simp only[Zo]at hlen;have hw:=oA (k:=done.length) (by unfold maxLen at hlen;omega);let t3:=((t2.set 10 (ce .i64 done.length)).set 11 (ce .i64 ((done.length:Int)+1))).set 5 (ce .i64 ((done.length:Int)+1));have f0:=getD_some b3.t5;have f1:(t2.set 10 (ce .i64 done.length)).getD 10 (.b8 [])=ce .i64 done.length:=de (by omega);have f2:((t2.set 10 (ce .i64 done.length)).set 11 (ce .i64 ((done.length:Int)+1))).getD 11 (.b8 [])=ce .i64 ((done.length:Int)+1):=de (by simp;omega);have f3:∀h,cD (cf Φ ext) cS (NP 5 10) ⟨t2,h⟩=some (.normal,⟨t3,h⟩):=fun h=>by simp only[NP,cD,cj,cT,dG,dY,Opd.ev,f0,put,f1,bin,if_true,ft,hw,f2,t3]
  have s3:QC (done++[(uA mT r k).1]).length (uA mT r k).2 t3:=by
   have ae:(done++[(uA mT r k).1]).length=done.length+1:=by simp
   rw[ae];refine⟨?_,?_,?_⟩;simp only[t3];rw[Za (by omega),Za (by omega),Za (by omega)];exact b3.t0;simp only[t3];rw[Za (by omega),Za (by omega),Za (by omega)];exact b3.t1;simp only[t3];exact Zd (by simp;omega)
  obtain⟨t4,g1,g2,g3⟩:=ih (done++[(uA mT r k).1]) (uA mT r k).2 t3 s3 (fun r m=>hr r (by simp[m])) (by omega) hk (by simp;omega) (by simp[t3];omega);refine⟨t4,(jR (Z':=⟨t3,[.bC ts.length (done++[(uA mT r k).1]++rest)]⟩) ?_).trans ?_,by rw[g2];simp[t3];omega,by simp only[fA];exact g3⟩;have hb:=R6 (lp:=cS) b1;simp only[GA,cD,a1,Zo,Nat.zero_lt_succ,if_true,hb,f3];rw[g1];simp only[fA,List.append_assoc,Zh,Zk]
end
def qj (ops:List X2):Bool:=ops.all fun o=>o.op.bb
def U3 (a b:List X2):qj (a++b)=(qj a&&qj b):=by simp[qj]
def J6 (a:X2)(b:List X2):qj (a::b)=(a.op.bb&&qj b):=by simp[qj]
def FQ :∀(p:List Nat)(c:Nat),qj (xh c p)=true
 |[],c=>rfl
 |d::ds,c=>by simp only[xh,J6,FQ ds,AOp.bb,ZH]
def ac0 (mt c:Nat)(t:PTy):qj (Bl mt c t)=true:=by
 cases t with
 |int κ=>cases κ<;>rfl
 |_=>rfl
def abz (z mt c:Nat)(t:PTy)(x:MC):∀r∈Uw z mt c t x,qj r=true:=by
 have nil:qj []=true:=rfl;have hS:∀t,∀r∈Ix z mt c t x,qj r=true:=by intro t r hr;simp only[Ix,ZG,List.not_mem_nil,or_false]at hr;rcases hr with rfl|rfl;simp only[U1,Zh,Zk,J6,U3,ac0,FQ,AOp.bb,nil,ZH];rfl
 have hT:∀r∈Mn z c x,qj r=true:=by intro r hr;simp only[Mn,ZG,List.not_mem_nil,or_false]at hr;subst hr;simp only[U1,Zh,Zk,J6,U3,FQ,AOp.bb,nil,ZH]
 cases t<;>first|exact hT|exact hS _
def U4 (z mt:Nat):∀(ts:List PTy)(xs:List MC)(c:Nat),∀r∈WQ z mt c ts xs,qj r=true
 |[],xs,c,r,hr=>by cases xs<;>cases hr
 |t::ts,[],c,r,hr=>by cases hr
 |t::ts,x::xs,c,r,hr=>by simp only[WQ,Ye]at hr;rcases hr with hr|hr;exact abz z mt c t x r hr;exact U4 z mt ts xs _ r hr
def RH :∀(rs:List (List X2)),(∀r∈rs,qj r=true)->(TR rs).bb=true
 |[],_=>rfl
 |[a],h=>h a (by simp)
 |a::b::r,h=>by have h1:=h a (by simp);have h2:=RH (b::r) (fun x m=>h x (by simp only[ZG]at m⊢;exact .inr m));simp only[TR,Q7.bb,h2,Yk];exact h1
def RG (mt:Nat)(ts:List PTy)(xs:List MC):(jO mt ts xs).body.bb=true:=by have:=RH _ (U4 ts.length mt ts xs 12);simp only[jO,GA,abd,NP,Q7.bb,this,Yk,Yj];rfl
section
variable {Φ:Nat->Option AFn}{ext:Nat->List V->Option V}{mT:Int->List UInt8}{mt:Nat}
def iS (hT:GT Φ ext mT mt){f:Nat}{ts:List PTy}{xs:List MC}(hk:Φ f=some (jO mt ts xs))(hn:Φ (f+iT)=none)(hm:Mg Φ ext mT 0 ts xs):uE Φ ext mT f ts:=by
 have hN:=Ii (mt:=mt) ts xs 12;obtain⟨m,aq⟩:∃m,pq mt 12 ts xs+1-2=m+11:=⟨pq mt 12 ts xs-12,by omega⟩;constructor;intro k;refine zg hn hk (RG mt ts xs) ?_;have e0:asList (lent []) (eW [])=some []:=rfl;have a7:∃t',iN Φ ext (jO mt ts xs).body (ml (jO mt ts xs) [eW [],ce .i64 k])=some (.ret,⟨t',[]⟩)/\ t'.getD 4 (.b8 [])=ce .i64 k:=by
  have aj:ml (jO mt ts xs) [eW [],ce .i64 k]=⟨eW []::ce .i64 k::List.replicate (m+11) (.b8 []),[]⟩:=by simp only[ml,gP,thaw,thawL,jO,Zo,Zx,Zy,Zh,Zk,aq]
  rw[aj];have hl:(eW []::ce .i64 k::List.replicate (m+11) (V.b8 [])).length=pq mt 12 ts xs+1:=by simp;omega
  generalize ab:cS (cD (cf Φ ext) cS (GA mt ts xs))=lp;have af:∀u2 u3 u4 u6 u7 u8 u9(r:List V),lp ⟨eW []::ce .i64 k::u2::u3::u4::ce .i64 0::u6::u7::u8::u9::r,[]⟩=some (.exit 0,⟨eW []::ce .i64 k::u2::u3::u4::ce .i64 0::ce .i64 0::eW []::ce .i64 0::cL false::r,[]⟩):=by intro u2 u3 u4 u6 u7 u8 u9 r;rw[<-ab];refine mf ?_ (by simp);simp[GA,abd,cD,cj,cT,dG,dY,Opd.ev,put,e0,bin,ft,isBool]
  have a8:List.replicate (m+11) (V.b8 [])= .b8 []:: .b8 []:: .b8 []:: .b8 []:: .b8 []:: .b8 []:: .b8 []:: .b8 []::List.replicate (m+3) (.b8 []):=rfl;rw[a8]at hl⊢;let w:List V:=eW []::ce .i64 k:: .b8 []:: .b8 []::ce .i64 0::ce .i64 0::ce .i64 0::eW []::ce .i64 0::cL false::List.replicate (m+3) (.b8 []);have aA:w.length=pq mt 12 ts xs+1:=by simp only[w,Zo,List.length_replicate]at hl⊢;omega
  have q1:w.getD 1 (.b8 [])=ce .i64 k:=rfl;have q2:(w.set (pq mt 12 ts xs) (ce .i64 k)).getD (pq mt 12 ts xs) (.b8 [])=ce .i64 k:=de (by omega);refine⟨(w.set (pq mt 12 ts xs) (ce .i64 k)).set 4 (ce .i64 k),?_,de (by simp;omega)⟩;have a6:cD (cf Φ ext) cS (.seq (.region [⟨some (pq mt 12 ts xs), .mv (.tmp 1),none⟩,⟨some 4, .mv (.tmp (pq mt 12 ts xs)),none⟩]) .ret) ⟨w,[]⟩=some (.ret,⟨(w.set (pq mt 12 ts xs) (ce .i64 k)).set 4 (ce .i64 k),[]⟩):=by simp only[cD,cj,cT,dG,dY,Opd.ev,q1,put,q2]
  generalize ak:Q7.seq (.region [⟨some (pq mt 12 ts xs), .mv (.tmp 1),none⟩,⟨some 4, .mv (.tmp (pq mt 12 ts xs)),none⟩]) .ret=ec at a6;simp only[iN,jO,ak,cD,cj,cT,dG,dY,Opd.ev,put,Yf,ZP,ab,af,if_true];exact a6
 obtain⟨t',r1,r2⟩:=a7;rw[r1];simp only[Bp,LL,jO,dd,cu,fb,r2,Y',YF,Zw,V.cells,eh,comp,cU,dS,gP,thaw,thawL,Zx,ZM,kJ,L.flat,if_true];rfl;intro rows h k h0 av;obtain⟨aw,hr⟩:=dM h;refine zg hn hk (RG mt ts xs) ?_;have aj:ml (jO mt ts xs) [.one (.down ts.length rows),ce .i64 k]=⟨.one (.arr 0)::ce .i64 k::List.replicate (m+11) (.b8 []),[.bC ts.length rows]⟩:=by simp only[ml,gP,thaw,thawL,jO,Zo,Zx,Zt,Zy,Zh,Zk,Q0.zone,aq]
 let t0:List V:= .one (.arr 0)::ce .i64 k:: .b8 []:: .b8 []::ce .i64 0::ce .i64 0::List.replicate (m+7) (.b8 []);have aB:t0.length=pq mt 12 ts xs+1:=by simp[t0];omega
 obtain⟨t',a1,a2,a3⟩:=WG hT hm rows [] k t0 ⟨rfl,rfl,rfl⟩ hr h0 av (by simpa using aw) (by omega);simp only[Zk]at a1;have q1:t'.getD 1 (.b8 [])=ce .i64 (fA mT rows k).2:=getD_some a3;have q2:(t'.set (pq mt 12 ts xs) (ce .i64 (fA mT rows k).2)).getD (pq mt 12 ts xs) (.b8 [])=ce .i64 (fA mT rows k).2:=de (by omega);have a6:cD (cf Φ ext) cS (.seq (.region [⟨some (pq mt 12 ts xs), .mv (.tmp 1),none⟩,⟨some 4, .mv (.tmp (pq mt 12 ts xs)),none⟩]) .ret) ⟨t',[.bC ts.length (fA mT rows k).1]⟩=some (.ret,⟨(t'.set (pq mt 12 ts xs) (ce .i64 (fA mT rows k).2)).set 4 (ce .i64 (fA mT rows k).2),[.bC ts.length (fA mT rows k).1]⟩):=by simp only[cD,cj,cT,dG,dY,Opd.ev,q1,put,q2]
 have q3:((t'.set (pq mt 12 ts xs) (ce .i64 (fA mT rows k).2)).set 4 (ce .i64 (fA mT rows k).2)).getD 4 (.b8 [])=ce .i64 (fA mT rows k).2:=de (by simp;omega);have a7:iN Φ ext (jO mt ts xs).body (ml (jO mt ts xs) [.one (.down ts.length rows),ce .i64 k])=some (.ret,⟨(t'.set (pq mt 12 ts xs) (ce .i64 (fA mT rows k).2)).set 4 (ce .i64 (fA mT rows k).2),[.bC ts.length (fA mT rows k).1]⟩):=by rw[aj];generalize ak:Q7.seq (.region [⟨some (pq mt 12 ts xs), .mv (.tmp 1),none⟩,⟨some 4, .mv (.tmp (pq mt 12 ts xs)),none⟩]) .ret=ec at a6;have a8:List.replicate (m+11) (V.b8 [])= .b8 []:: .b8 []:: .b8 []:: .b8 []::List.replicate (m+7) (.b8 []):=rfl;generalize ab:cS (cD (cf Φ ext) cS (GA mt ts xs))=lp at a1;simp only[t0]at a1;simp only[iN,jO,ak,a8,cD,cj,cT,dG,dY,Opd.ev,put,Yf,ZP,ab,a1,if_true];exact a6
 rw[a7];simp only[Bp,LL,jO,dd,cu,fb,q3,Y',YF,Zw,V.cells,eh,comp,cU,dS,gP,thaw,thawL,Zk,Zo,Zx,ZK,List.take_succ_cons,ZM,kJ,L.flat,if_true];rfl
end
end Gi
