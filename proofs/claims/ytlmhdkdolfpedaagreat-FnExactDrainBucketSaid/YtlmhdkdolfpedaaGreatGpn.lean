/- Of this proof. -/
import Derived.Test.YtlmhdkdolfpedaaGreatGpb
set_option linter.all false
namespace Gi
open Go Go.RowKit
section
variable (mT:Int->List UInt8)
mutual
def oK :PV->Int->PV×Int
 | .int κ _,k=>(.int κ (κ.wrap k),k+1)
 | .bool _,k=>(.bool (k.tmod 3==0),k+1)
 | .str _,k=>(.str (mT k),k+1)
 | .lst rows,k=>(.lst (fu rows k).1,(fu rows k).2)
def uj :List PV->Int->List PV×Int
 |[],k=>([],k)
 |p::ps,k=>((oK p k).1::(uj ps (oK p k).2).1,(uj ps (oK p k).2).2)
def fu :List (List PV)->Int->List (List PV)×Int
 |[],k=>([],k)
 |r::rs,k=>((uj r k).1::(fu rs (uj r k).2).1,(fu rs (uj r k).2).2)
end
mutual
def Te :∀(p:PV)(k:Int),k<=(oK mT p k).2
 | .int κ _,k=>by simp only[oK];omega
 | .bool _,k=>by simp only[oK];omega
 | .str _,k=>by simp only[oK];omega
 | .lst rows,k=>by simp only[oK];exact tV rows k
def Ft :∀(ps:List PV)(k:Int),k<=(uj mT ps k).2
 |[],k=>by simp only[uj];omega
 |p::ps,k=>by simp only[uj];have:=Te p k;have:=Ft ps (oK mT p k).2;omega
def tV :∀(rs:List (List PV))(k:Int),k<=(fu mT rs k).2
 |[],k=>by simp only[fu];omega
 |r::rs,k=>by simp only[fu];have:=Ft r k;have:=tV rs (uj mT r k).2;omega
end
def Uz :∀(rs:List (List PV))(k:Int),(fu mT rs k).1.length=rs.length
 |[],k=>by simp only[fu]
 |r::rs,k=>by simp only[fu,Zo,Uz rs]
def Uy :∀(ps:List PV)(k:Int),(uj mT ps k).1.length=ps.length
 |[],k=>by simp only[uj]
 |p::ps,k=>by simp only[uj,Zo,Uy ps]
end
structure MC where
 p:List Nat
 f:Nat
def UC (c:Nat):List X2:=[⟨some c, .mv (.tmp 0),none⟩,⟨some (c+1), .mv (.tmp 5),none⟩]
def wS (c:Nat):List Nat->List X2
 |[]=>[]
 |d::ds=>⟨some (c+1), .bj (.tmp c) d,none⟩::wS (c+1) ds
def S6 (c:Nat):List X2:=[⟨some c, .mv (.tmp 1),none⟩,⟨some (c+1), .bin .add (.tmp c) (.pv (.int .i64 1)),none⟩,⟨some 1, .mv (.tmp (c+1)),none⟩]
def AZ (mt c:Nat):PTy->List X2
 | .int .i64=>[]
 | .int κ=>[⟨some (c+3), .conv κ (.tmp (c+2)),none⟩]
 | .str=>[⟨some (c+3), .ba mt [.tmp (c+2)],none⟩]
 | .bool=>[⟨some (c+3), .bin .rem (.tmp (c+2)) (.pv (.int .i64 3)),none⟩,⟨some (c+4), .bin .eql (.tmp (c+3)) (.pv (.int .i64 0)),none⟩]
 | .lst _=>[]
def Ia (z mt c:Nat)(t:PTy)(x:MC):List (List X2):=
 let v:=c+2+(AZ mt c t).length
 [UC c++(⟨some (c+2), .mv (.tmp 1),none⟩::(AZ mt c t++(⟨some (v+1), .bL z (.tmp c) (.tmp (c+1)),none⟩::(wS (v+1) x.p++[⟨none, .bU 1 (.tmp (v+1+x.p.length)) (.tmp v),none⟩])))),S6 (v+2+x.p.length)]
def LY (z c:Nat)(x:MC):List (List X2):=
 let e:=c+3+x.p.length
 [UC c++(⟨some (c+2), .bL z (.tmp c) (.tmp (c+1)),none⟩::(wS (c+2) x.p++[⟨some e, .bm false 1 (.tmp (c+2+x.p.length)),none⟩,⟨some (e+1), .mv (.tmp 1),none⟩,⟨some (e+2), .bc x.f (.tmp e) (.tmp (e+1)),none⟩,⟨some 1, .mv (.tmp (e+2)),none⟩]))]
def T9 (z mt c:Nat):PTy->MC->List (List X2)
 | .lst _,x=>LY z c x
 |t,x=>Ia z mt c t x
def Cx (mt c:Nat):PTy->MC->Nat
 | .lst _,x=>c+6+x.p.length
 |t,x=>c+6+(AZ mt c t).length+x.p.length
def Wi (z mt:Nat):Nat->List PTy->List MC->List (List X2)
 |c,t::ts,x::xs=>T9 z mt c t x++Wi z mt (Cx mt c t x) ts xs
 |_,_,_=>[]
def pd (mt:Nat):Nat->List PTy->List MC->Nat
 |c,t::ts,x::xs=>pd mt (Cx mt c t x) ts xs
 |c,_,_=>c
def Ts :List (List X2)->Q6
 |[]=> .skip
 |[a]=> .region a
 |a::b::r=> .seq (.region a) (Ts (b::r))
def aaJ (i a t0:Nat):Q6:= .seq (.region [⟨some t0, .mv (.tmp i),none⟩,⟨some (t0+1), .mv (.tmp a),none⟩,⟨some (t0+2), .bw (.tmp (t0+1)),none⟩,⟨some (t0+3), .bin .lss (.tmp t0) (.tmp (t0+2)),none⟩]) (.cond (.tmp (t0+3)) .skip (.exit 0))
def Gb (mt:Nat)(ts:List PTy)(xs:List MC):Q6:= .seq (aaJ 5 0 6) (.seq (.block 1 (Ts (Wi ts.length mt 12 ts xs))) (Nv 5 10))
def jJ (mt:Nat)(ts:List PTy)(xs:List MC):AFn:=⟨pd mt 12 ts xs+1,[.tmp 4], .seq (.region [⟨some 4, .mv (.pv (.int .i64 0)),none⟩]) (.seq (.seq (.region [⟨some 5, .mv (.pv (.int .i64 0)),none⟩]) (.block 0 (.loop (Gb mt ts xs)))) (.seq (.region [⟨some (pd mt 12 ts xs), .mv (.tmp 1),none⟩,⟨some 4, .mv (.tmp (pd mt 12 ts xs)),none⟩]) .ret))⟩
def RA {call:Nat->List V->Option V}{lp:(St->Option (Ex×St))->St->Option (Ex×St)}:∀{rs:List (List X2)}{Z Z':St},cj call rs.flatten Z=some Z'->cD call lp (Ts rs) Z=some (.normal,Z')
 |[],Z,Z',h=>by simp[cj]at h;subst h;rfl
 |[a],Z,Z',h=>by simp only[Qp,List.flatten_nil,Zw]at h;simp only[Ts,cD,h]
 |a::b::r,Z,Z',h=>by
  rw[Qp]at h;cases ha:cj call a Z with
  |none=>
   exfalso;have:∀(a b:List X2)(Z:St),cj call a Z=none->cj call (a++b) Z=none:=by
    intro a;induction a with
    |nil=>intro b Z h;simp[cj]at h
    |cons o a ih=>
     intro b Z h;simp only[Zh,cj]at h⊢;cases hs:cS call o Z with
     |none=>rfl
     |some σ1=>rw[hs]at h;exact ih b σ1 h
   rw[this a _ Z ha]at h;cases h
  |some σ1=>rw[fe call a _ ha]at h;have:=RA (lp:=lp) (rs:=b::r) h;simp only[Ts,cD,ha];exact this
def D5 {call:Nat->List V->Option V}{o i:Nat}:∀{p:List Nat}{c j:Nat}{t:List V}{h:List Q0},t[c]? =some (.one (.ptr o i j))->c+p.length<t.length->
 ∃t',cj call (wS c p) ⟨t,h⟩=some ⟨t',h⟩/\ t'.length=t.length/\ t'[c+p.length]? =some (.one (.ptr o i (j+p.sum)))/\ ∀n≤c,t'[n]? =t[n]?
 |[],c,j,t,h,hc,hl=>⟨t,rfl,rfl,by simpa using hc,fun _ _=>rfl⟩
 |d::ds,c,j,t,h,hc,hl=>by simp only[Zo]at hl;obtain⟨t',e1,e2,e3,e4⟩:=D5 (call:=call) (o:=o) (i:=i) (p:=ds) (c:=c+1) (j:=j+d) (t:=t.set (c+1) (.one (.ptr o i (j+d)))) (h:=h) (Zd (by omega)) (by simp;omega);refine⟨t',?_,by simpa using e2,?_,fun n hn=> ?_⟩;simp only[wS,cj,cS,dy,dX,Opd.ev,getD_some hc,put,e1];simp only[Zo,QY];rw[show c+(ds.length+1)=c+1+ds.length by omega,e3,Nat.add_assoc];rw[e4 n (by omega),Za (by omega)]
section
variable {Φ:Nat->Option AFn}{ext:Nat->List V->Option V}{mT:Int->List UInt8}{mt:Nat}
def Bf :Int:=1099511627776
def uo (Φ:Nat->Option AFn)(ext:Nat->List V->Option V)(mT:Int->List UInt8)(f:Nat)(ts:List PTy):Prop:=
 (∀k:Int,cf Φ ext (f+iP) [eQ [],ce .i64 k]=some (.b8 [(false,[.pv (.int .i64 k)])]))/\
 ∀rows:List (List PV),qa (.lst ts) (.lst rows)->∀k:Int,0<=k->(fu mT rows k).2<=Bf->cf Φ ext (f+iP) [.one (.down ts.length rows),ce .i64 k]=some (.b8 [(false,[.pv (.int .i64 (fu mT rows k).2)]),(false,[.down ts.length (fu mT rows k).1])])
def Gx (Φ:Nat->Option AFn)(ext:Nat->List V->Option V)(mT:Int->List UInt8)(mt:Nat):Prop:=∀k:Int,0<=k->k<=Bf->cf Φ ext mt [ce .i64 k]=some (fY (mT k))
def U2 (hT:Gx Φ ext mT mt){ty:PTy}{p:PV}(hp:qa ty p)(hf:ty.flatT=true){c:Nat}{k:Int}(h0:0<=k)(hk:k<Bf){t:List V}{h:List Q0}(h2:t[c+2]? =some (ce .i64 k))(hl:c+2+(AZ mt c ty).length<t.length):
 ∃t',cj (cf Φ ext) (AZ mt c ty) ⟨t,h⟩=some ⟨t',h⟩/\ t'.length=t.length/\ t'[c+2+(AZ mt c ty).length]? =some (.one (.pv (oK mT p k).1))/\ ∀n≤c+2,t'[n]? =t[n]? :=by
 have e2:=getD_some h2;cases ty with
 |lst us=>cases hf
 |str=>obtain⟨s,rfl⟩:=oh hp;simp only[AZ,ZI]at hl⊢;refine⟨t.set (c+3) (fY (mT k)),?_,by simp,by simp only[oK];exact Zd (by omega),fun n hn=>Za (by omega)⟩;simp only[cj,cS,dy,dX,Zt,Zy,Opd.ev,e2,cy,V.view,L.view,hT k h0 (by omega),V.flat,L.flat,if_true,fb,ft,put]
 |bool=>
  obtain⟨b,rfl⟩:=oZ hp;simp only[AZ,Zo,Zx]at hl⊢;have e3:(t.set (c+3) (ce .i64 (k.tmod 3))).getD (c+3) (.b8 [])=ce .i64 (k.tmod 3):=db (by omega);refine⟨(t.set (c+3) (ce .i64 (k.tmod 3))).set (c+4) (cK (k.tmod 3==0)),?_,by simp,by simp only[oK];exact Zd (by simp;omega),fun n hn=>by rw[Za (by omega),Za (by omega)]⟩;have h3:¬((3:Int)=0):=by decide
  simp only[cj,cS,dy,dX,Opd.ev,e2,bin,if_true,ff,if_neg h3,put,e3]
 |int κ=>
  obtain⟨n,rfl⟩:=qh hp;by_cases hκ:κ= .i64;subst hκ;have hw:IntKind.i64.wrap k=k:=by rw[IntKind.wrap_i64];unfold Bf at hk;omega
  refine⟨t,rfl,rfl,?_,fun _ _=>rfl⟩;simp only[AZ,Zx,Yx,oK,hw];exact h2
  ·have hv:AZ mt c (.int κ)=[⟨some (c+3), .conv κ (.tmp (c+2)),none⟩]:=by cases κ<;>first|rfl|exact absurd rfl hκ
   rw[hv]at hl⊢;simp only[ZI]at hl⊢;refine⟨t.set (c+3) (ce κ (κ.wrap k)),?_,by simp,by simp only[oK];exact Zd (by omega),fun n hn=>Za (by omega)⟩;simp only[cj,cS,dy,dX,Opd.ev,e2,isInt,put]
def DA {ty:PTy}{p:PV}(hp:qa ty p)(hf:ty.flatT=true)(k:Int):p.flat=true/\ (oK mT p k).1.flat=true/\ (oK mT p k).2=k+1:=by
 cases ty with
 |lst us=>cases hf
 |str=>obtain⟨s,rfl⟩:=oh hp;simp[oK,PV.flat]
 |bool=>obtain⟨s,rfl⟩:=oZ hp;simp[oK,PV.flat]
 |int κ=>obtain⟨s,rfl⟩:=qh hp;simp[oK,PV.flat]
def acX {z:Nat}{E:List (List PV)}{i:Nat}(hi:i<E.length)(call:Nat->List V->Option V){t:List V}{a b:Nat}(ha:t[a]? =some (.one (.arr 0)))(hb:t[b]? =some (ce .i64 i)):dX call ⟨t,[.bB z E]⟩ (.bL z (.tmp a) (.tmp b))=some (.one (.ptr 0 i 0)):=by simp only[dX,Opd.ev,getD_some ha,getD_some hb,isInt];simp[cN,lent,Q0.bW,hi]
structure QC (i:Nat) (k:Int) (t:List V):Prop where
 t0:t[0]? =some (.one (.arr 0))
 t1:t[1]? =some (ce .i64 k)
 t5:t[5]? =some (ce .i64 i)
def aaR {call:Nat->List V->Option V}{i c:Nat}{k:Int}{t:List V}{h:List Q0}(s:QC i k t)(h0:0<=k)(hk:k<Bf)(hc:6<=c)(hl:c+1<t.length):
 ∃t',cj call (S6 c) ⟨t,h⟩=some ⟨t',h⟩/\ t'.length=t.length/\ QC i (k+1) t':=by
 have e1:=getD_some s.t1;have e2:(t.set c (ce .i64 k)).getD c (.b8 [])=ce .i64 k:=db (by omega);have hw:IntKind.i64.wrap (k+1)=k+1:=by rw[IntKind.wrap_i64];unfold Bf at hk;omega
 have e3:((t.set c (ce .i64 k)).set (c+1) (ce .i64 (k+1))).getD (c+1) (.b8 [])=ce .i64 (k+1):=db (by simp;omega);refine⟨((t.set c (ce .i64 k)).set (c+1) (ce .i64 (k+1))).set 1 (ce .i64 (k+1)),?_,by simp,?_,?_,?_⟩;simp only[S6,cj,cS,dy,dX,Opd.ev,e1,put,e2,bin,if_true,ff,hw,e3];rw[Za (by omega),Za (by omega),Za (by omega)];exact s.t0;exact Zd (by simp;omega);rw[Za (by omega),Za (by omega),Za (by omega)];exact s.t5
def UN {dn rest:List PV}{p q:PV}:(dn++p::rest).set dn.length q=dn++q::rest:=by rw[YP _ _ (Zi _),YH,ZP]
def HF {dn rest:List PV}{p:PV}:(dn++p::rest)[dn.length]? =some p:=by rw[Zm (Zi _),YH];rfl
def Vp (hT:Gx Φ ext mT mt){ty:PTy}{p:PV}{x:MC}{dn rest:List PV}{E:List (List PV)}{z i c:Nat}{k:Int}{t:List V}(hp:qa ty p)(hf:ty.flatT=true)(s:QC i k t)(h0:0<=k)(hk:k<Bf)(hc:12<=c)(hE:E[i]? =some (dn++p::rest))(hx:x.p.sum=dn.length)(hl:c+6+(AZ mt c ty).length+x.p.length<=t.length):
 ∃t',cj (cf Φ ext) (Ia z mt c ty x).flatten ⟨t,[.bB z E]⟩=some ⟨t',[.bB z (E.set i (dn++(oK mT p k).1::rest))]⟩/\ t'.length=t.length/\ QC i (oK mT p k).2 t':=by
 obtain⟨f1,f2,f3⟩:=DA (mT:=mT) hp hf k;have hi:i<E.length:=(Zb.1 hE).1;generalize hv:c+2+(AZ mt c ty).length=v at*;let t1:=((t.set c (.one (.arr 0))).set (c+1) (ce .i64 i)).set (c+2) (ce .i64 k);have a0:cj (cf Φ ext) (UC c++[⟨some (c+2), .mv (.tmp 1),none⟩]) ⟨t,[.bB z E]⟩=some ⟨t1,[.bB z E]⟩:=by have e1:=getD_some s.t0;have e2:(t.set c (V.one (.arr 0))).getD 5 (.b8 [])=ce .i64 i:=(gI (by omega)).trans (getD_some s.t5);have e3:((t.set c (V.one (.arr 0))).set (c+1) (ce .i64 i)).getD 1 (.b8 [])=ce .i64 k:=(gI (by omega)).trans ((gI (by omega)).trans (getD_some s.t1));simp only[UC,Zh,Zj,cj,cS,dy,dX,Opd.ev,e1,put,e2,e3,t1]
 have l1:t1.length=t.length:=by simp[t1]
 have g1:∀n,n<c->t1[n]? =t[n]? :=fun n hn=>by simp only[t1];rw[Za (by omega),Za (by omega),Za (by omega)]
 have gc:t1[c]? =some (.one (.arr 0)):=by simp only[t1];rw[Za (by omega),Za (by omega)];exact Zd (by omega)
 have gd:t1[c+1]? =some (ce .i64 i):=by simp only[t1];rw[Za (by omega)];exact Zd (by simp;omega)
 have ge:t1[c+2]? =some (ce .i64 k):=by simp only[t1];exact Zd (by simp;omega)
 clear_value t1;obtain⟨t2,b1,b2,b3,b4⟩:=U2 (h:=[.bB z E]) hT hp hf h0 hk ge (by omega);rw[hv]at b3;let t3:=t2.set (v+1) (.one (.ptr 0 i 0));have c1:cj (cf Φ ext) [⟨some (v+1), .bL z (.tmp c) (.tmp (c+1)),none⟩] ⟨t2,[.bB z E]⟩=some ⟨t3,[.bB z E]⟩:=by simp only[cj,cS,dy,acX hi (cf Φ ext) (t:=t2) (a:=c) (b:=c+1) ((b4 c (by omega)).trans gc) ((b4 (c+1) (by omega)).trans gd),put,t3]
 have l3:t3.length=t.length:=by simp only[t3,ZC];omega
 obtain⟨t4,d1,d2,d3,d4⟩:=D5 (call:=cf Φ ext) (o:=0) (i:=i) (p:=x.p) (c:=v+1) (j:=0) (t:=t3) (h:=[.bB z E]) (Zd (by omega)) (by omega);have q3:t4[v]? =some (.one (.pv (oK mT p k).1)):=by rw[d4 v (by omega)];simp only[t3];rw[Za (by omega)];exact b3
 have low:∀n,n<c->t4[n]? =t[n]? :=fun n hn=>by rw[d4 n (by omega)];simp only[t3];rw[Za (by omega),b4 n (by omega),g1 n hn]
 rw[ZJ,hx]at d3;have e1:cj (cf Φ ext) [⟨none, .bU 1 (.tmp (v+1+x.p.length)) (.tmp v),none⟩] ⟨t4,[.bB z E]⟩=some ⟨t4,[.bB z (E.set i (dn++(oK mT p k).1::rest))]⟩:=by simp only[cj,cS,dy,dX,eX,Opd.ev,getD_some d3,getD_some q3,ye,Yg,hE,HF,f1,f2,and_self,if_true,UN,ZP,put]
 obtain⟨t5,i1,i2,i3⟩:=aaR (call:=cf Φ ext) (c:=v+2+x.p.length) (h:=[.bB z (E.set i (dn++(oK mT p k).1::rest))]) (⟨(low 0 (by omega)).trans s.t0,(low 1 (by omega)).trans s.t1,(low 5 (by omega)).trans s.t5⟩:QC i k t4) h0 hk (by omega) (by omega);refine⟨t5,?_,by omega,by rw[f3];exact i3⟩;have a5:(Ia z mt c ty x).flatten=(UC c++[⟨some (c+2), .mv (.tmp 1),none⟩])++(AZ mt c ty++([⟨some (v+1), .bL z (.tmp c) (.tmp (c+1)),none⟩]++(wS (v+1) x.p++([⟨none, .bU 1 (.tmp (v+1+x.p.length)) (.tmp v),none⟩]++S6 (v+2+x.p.length))))):=by simp only[Ia,hv,Qp,List.flatten_nil,Zw,List.append_assoc,Zh,Zj]
 rw[a5,fe _ _ _ a0,fe _ _ _ b1,fe _ _ _ c1,fe _ _ _ d1,fe _ _ _ e1,i1]
def abZ {z i j:Nat}{E:List (List PV)}{e:List PV}{q:PV}(hE:E[i]? =some e)(hj:j<z)(hq:e[j]? =some q):Br z E (i*z+j)=some q:=by
 have h1:(i*z+j)/z=i:=by rw[YG,Qx (by omega),Qs hj];omega
 have h2:(i*z+j)%z=j:=by rw[YG,Nat.mul_add_mod,Xa hj]
 simp only[Br,h1,h2,hE,hq]
def aa8 {z i j:Nat}{E:List (List PV)}{e:List PV}{q:PV}(hE:E[i]? =some e)(hj:j<z):iQ z E (i*z+j) q=E.set i (e.set j q):=by
 have h1:(i*z+j)/z=i:=by rw[YG,Qx (by omega),Qs hj];omega
 have h2:(i*z+j)%z=j:=by rw[YG,Nat.mul_add_mod,Xa hj]
 simp only[iQ,h1,h2,hE,Ys]
def Vq {us:List PTy}{rows:List (List PV)}{x:MC}{dn rest:List PV}{E:List (List PV)}{z i c:Nat}{k:Int}{t:List V}(hO:uo Φ ext mT x.f us)(hp:qa (.lst us) (.lst rows))(s:QC i k t)(h0:0<=k)(hk:(fu mT rows k).2<=Bf)(hc:12<=c)(hE:E[i]? =some (dn++ .lst rows::rest))(hz:dn.length<z)(hx:x.p.sum=dn.length)(hl:c+6+x.p.length<=t.length):
 ∃t',cj (cf Φ ext) (LY z c x).flatten ⟨t,[.bB z E]⟩=some ⟨t',[.bB z (E.set i (dn++(oK mT (.lst rows) k).1::rest))]⟩/\ t'.length=t.length/\ QC i (oK mT (.lst rows) k).2 t':=by
 have hi:i<E.length:=(Zb.1 hE).1;let t1:=(t.set c (.one (.arr 0))).set (c+1) (ce .i64 i);have a0:cj (cf Φ ext) (UC c) ⟨t,[.bB z E]⟩=some ⟨t1,[.bB z E]⟩:=by have e1:=getD_some s.t0;have e2:(t.set c (V.one (.arr 0))).getD 5 (.b8 [])=ce .i64 i:=(gI (by omega)).trans (getD_some s.t5);simp only[UC,cj,cS,dy,dX,Opd.ev,e1,put,e2,t1]
 have g1:∀n,n<c->t1[n]? =t[n]? :=fun n hn=>by simp only[t1];rw[Za (by omega),Za (by omega)]
 have gc:t1[c]? =some (.one (.arr 0)):=by simp only[t1];rw[Za (by omega)];exact Zd (by omega)
 have gd:t1[c+1]? =some (ce .i64 i):=by simp only[t1];exact Zd (by simp;omega)
 have l1:t1.length=t.length:=by simp[t1]
 clear_value t1;let t3:=t1.set (c+2) (.one (.ptr 0 i 0));have c1:cj (cf Φ ext) [⟨some (c+2), .bL z (.tmp c) (.tmp (c+1)),none⟩] ⟨t1,[.bB z E]⟩=some ⟨t3,[.bB z E]⟩:=by simp only[cj,cS,dy,acX hi (cf Φ ext) (t:=t1) (a:=c) (b:=c+1) gc gd,put,t3]
 have l3:t3.length=t.length:=by simp only[t3,ZC];omega
 obtain⟨t4,d1,d2,d3,d4⟩:=D5 (call:=cf Φ ext) (o:=0) (i:=i) (p:=x.p) (c:=c+2) (j:=0) (t:=t3) (h:=[.bB z E]) (Zd (by omega)) (by omega);have low:∀n,n<c->t4[n]? =t[n]? :=fun n hn=>by rw[d4 n (by omega)];simp only[t3];rw[Za (by omega),g1 n hn]
 rw[ZJ,hx]at d3;generalize hw:c+3+x.p.length=w at*;have ax:c+2+x.p.length<w:=by omega
 let E':=E.set i (dn++(oK mT (.lst rows) k).1::rest);have aa:nM (cf Φ ext) [.bB z E] x.f (.one (.sub 0 (i*z+dn.length))) k=some (ce .i64 (fu mT rows k).2,[.bB z E']):=by
  have al:=abZ (z:=z) hE hz HF;cases rows with
  |nil=>
   have ag:E'=E:=by simp only[E',oK,fu];refine YK fun n=> ?_;by_cases hn:n=i;subst hn;rw[Zd hi,hE];rw[Za (by omega)]
   rw[ag];simp only[nM,Yg,al,hO.1 k,L.flat,if_true,fu]
  |cons r rs=>
   have ah:wid (r::rs)=us.length:=by simp only[wid];exact nK ((dJ hp).2 r (by simp))
   have:=hO.2 (r::rs) hp k h0 hk;have an:=aa8 (q:= .lst (fu mT (r::rs) k).1) hE hz;rw[UN]at an;simp only[nM,Yg,al,ah,this,L.flat,and_self,if_true,an,ZP,E',oK]
 have r1:((t4.set w (V.one (.sub 0 (i*z+dn.length)))).set (w+1) (ce .i64 k)).getD w (.b8 [])= .one (.sub 0 (i*z+dn.length)):=(gI (by omega)).trans (db (by omega));have r2:((t4.set w (V.one (.sub 0 (i*z+dn.length)))).set (w+1) (ce .i64 k)).getD (w+1) (.b8 [])=ce .i64 k:=db (by simp;omega);have r3:(((t4.set w (V.one (.sub 0 (i*z+dn.length)))).set (w+1) (ce .i64 k)).set (w+2) (ce .i64 (fu mT rows k).2)).getD (w+2) (.b8 [])=ce .i64 (fu mT rows k).2:=db (by simp;omega);have r4:(t4.set w (V.one (.sub 0 (i*z+dn.length)))).getD 1 (.b8 [])=ce .i64 k:=(gI (by omega)).trans (getD_some ((low 1 (by omega)).trans s.t1));refine⟨(((t4.set w (V.one (.sub 0 (i*z+dn.length)))).set (w+1) (ce .i64 k)).set (w+2) (ce .i64 (fu mT rows k).2)).set 1 (ce .i64 (fu mT rows k).2),?_,by simp;omega,?_,?_,?_⟩;have a5:(LY z c x).flatten=UC c++([⟨some (c+2), .bL z (.tmp c) (.tmp (c+1)),none⟩]++(wS (c+2) x.p++[⟨some w, .bm false 1 (.tmp (c+2+x.p.length)),none⟩,⟨some (w+1), .mv (.tmp 1),none⟩,⟨some (w+2), .bc x.f (.tmp w) (.tmp (w+1)),none⟩,⟨some 1, .mv (.tmp (w+2)),none⟩])):=by simp only[LY,hw,Qp,List.flatten_nil,Zw,List.append_assoc,Zh,Zj]
 rw[a5,fe _ _ _ a0,fe _ _ _ c1,fe _ _ _ d1];simp only[cj,cS,dy,dX,eX,Opd.ev,getD_some d3,vk,Yg,hE,HF,and_self,if_true,put,r4,r1,r2,aa,r3,E'];rw[Za (by omega),Za (by omega),Za (by omega),Za (by omega)];exact(low 0 (by omega)).trans s.t0;simp only[oK];exact Zd (by simp;omega);rw[Za (by omega),Za (by omega),Za (by omega),Za (by omega)];exact(low 5 (by omega)).trans s.t5
def LS (Φ:Nat->Option AFn)(ext:Nat->List V->Option V)(mT:Int->List UInt8):Nat->List PTy->List MC->Prop
 |j, .lst us::ts,x::xs=>x.p.sum=j/\ uo Φ ext mT x.f us/\ LS Φ ext mT (j+1) ts xs
 |j,_::ts,x::xs=>x.p.sum=j/\ LS Φ ext mT (j+1) ts xs
 |_,[],[]=>True
 |_,_,_=>False
def HU :∀(ts:List PTy)(xs:List MC)(c:Nat),c<=pd mt c ts xs
 |[],_,c=>Zi _
 |_::_,[],c=>Zi _
 |t::ts,x::xs,c=>by simp only[pd];refine Zc ?_ (HU ts xs _);cases t<;>simp only[Cx]<;>omega
def UK (hT:Gx Φ ext mT mt){z i:Nat}:∀(ts:List PTy)(xs:List MC){c:Nat}{dn row:List PV}{E:List (List PV)}{k:Int}{t:List V},LS Φ ext mT dn.length ts xs->dW ts row->E[i]? =some (dn++row)->z=dn.length+ts.length->QC i k t->0<=k->(uj mT row k).2<=Bf->12<=c->pd mt c ts xs<=t.length->
 ∃t',cj (cf Φ ext) (Wi z mt c ts xs).flatten ⟨t,[.bB z E]⟩=some ⟨t',[.bB z (E.set i (dn++(uj mT row k).1))]⟩/\ t'.length=t.length/\ QC i (uj mT row k).2 t'
 |[],xs,c,dn,row,E,k,t,hm,hr,hE,hz,s,h0,hk,hc,hl=>by
  obtain rfl:=ja hr;have hi:i<E.length:=(Zb.1 hE).1;have ag:E.set i (dn++(uj mT [] k).1)=E:=by simp only[uj];refine YK fun n=> ?_;by_cases hn:n=i;subst hn;rw[Zd hi,hE];rw[Za (by omega)]
  rw[ag];cases xs<;>exact⟨t,rfl,rfl,by simpa only[uj]using s⟩
 |ty::ts,[],c,dn,row,E,k,t,hm,hr,hE,hz,s,h0,hk,hc,hl=>by cases ty<;>exact hm.elim
 |ty::ts,x::xs,c,dn,row,E,k,t,hm,hr,hE,hz,s,h0,hk,hc,hl=>by
  obtain⟨p,rest,rfl,hp,ar⟩:=gY hr;have hi:i<E.length:=(Zb.1 hE).1;have hle:=Ft mT rest (oK mT p k).2;have ab:=Te mT p k;simp only[uj]at hk;simp only[pd]at hl;have hN:=HU (mt:=mt) ts xs (Cx mt c ty x);have ad:LS Φ ext mT (dn++[(oK mT p k).1]).length ts xs:=by
   have:(dn++[(oK mT p k).1]).length=dn.length+1:=by simp
   rw[this];cases ty<;>first|exact hm.2|exact hm.2.2
  have hx:x.p.sum=dn.length:=by cases ty<;>exact hm.1
  have cell:∃t',cj (cf Φ ext) (T9 z mt c ty x).flatten ⟨t,[.bB z E]⟩=some ⟨t',[.bB z (E.set i (dn++(oK mT p k).1::rest))]⟩/\ t'.length=t.length/\ QC i (oK mT p k).2 t':=by
   by_cases hf:ty.flatT=true
   ·have hR:T9 z mt c ty x=Ia z mt c ty x:=by cases ty<;>first|rfl|cases hf
    have au:Cx mt c ty x=c+6+(AZ mt c ty).length+x.p.length:=by cases ty<;>first|rfl|cases hf
    rw[hR];have:=(DA (mT:=mT) hp hf k).2.2;exact Vp hT hp hf s h0 (by omega) hc hE hx (by omega)
   cases ty with
   |lst us=>obtain⟨rows,rfl⟩:=sB hp;have au:Cx mt c (.lst us) x=c+6+x.p.length:=rfl;simp only[oK]at hle hk;exact Vq hm.2.1 hp s h0 (by omega) hc hE (by rw[hz];simp) hx (by omega)
   |_=>exact absurd rfl hf
  obtain⟨t1,e1,e2,e3⟩:=cell;have ay:c<=Cx mt c ty x:=by cases ty<;>simp only[Cx]<;>omega
  obtain⟨t2,f1,f2,f3⟩:=UK hT (z:=z) (i:=i) ts xs (c:=Cx mt c ty x) (dn:=dn++[(oK mT p k).1]) (row:=rest) (E:=E.set i (dn++(oK mT p k).1::rest)) (k:=(oK mT p k).2) (t:=t1) ad ar (by rw[Zd hi];simp) (by rw[hz];simp;omega) e3 (by omega) hk (by omega) (by omega);refine⟨t2,?_,by omega,by simp only[uj];exact f3⟩;simp only[Wi,List.flatten_append];rw[fe _ _ _ e1,f1];simp only[List.set_set,uj,List.append_assoc,Zh,Zj]
def Wa (hT:Gx Φ ext mT mt){ts:List PTy}{xs:List MC}(hm:LS Φ ext mT 0 ts xs):∀(rest done:List (List PV))(k:Int)(t:List V),QC done.length k t->(∀r∈rest,dW ts r)->0<=k->(fu mT rest k).2<=Bf->done.length+rest.length<=maxLen->pd mt 12 ts xs<=t.length->
 ∃t',cR (cD (cf Φ ext) cR (Gb mt ts xs)) ⟨t,[.bB ts.length (done++rest)]⟩=some (.exit 0,⟨t',[.bB ts.length (done++(fu mT rest k).1)]⟩)/\ t'.length=t.length/\ t'[1]? =some (ce .i64 (fu mT rest k).2):=by
 intro rest;have hN:=HU (mt:=mt) ts xs 12;have head:∀(done rest:List (List PV))(k:Int)(t:List V),QC done.length k t->pd mt 12 ts xs<=t.length->∃t',cD (cf Φ ext) cR (aaJ 5 0 6) ⟨t,[.bB ts.length (done++rest)]⟩=some (if 0<rest.length then .normal else .exit 0,⟨t',[.bB ts.length (done++rest)]⟩)/\ t'.length=t.length/\ QC done.length k t':=by
  intro done rest k t s hl;let t1:=(((t.set 6 (ce .i64 done.length)).set 7 (.one (.arr 0))).set 8 (ce .i64 (done++rest).length)).set 9 (cK (decide (0<rest.length)));have e0:=getD_some s.t5;have e1:(t.set 6 (ce .i64 done.length)).getD 0 (.b8 [])= .one (.arr 0):=(gI (by omega)).trans (getD_some s.t0);have e2:((t.set 6 (ce .i64 done.length)).set 7 (.one (.arr 0))).getD 7 (.b8 [])= .one (.arr 0):=db (by simp;omega);have e3:(((t.set 6 (ce .i64 done.length)).set 7 (.one (.arr 0))).set 8 (ce .i64 (done++rest).length)).getD 6 (.b8 [])=ce .i64 done.length:=(gI (by omega)).trans ((gI (by omega)).trans (db (by omega)));have e4:(((t.set 6 (ce .i64 done.length)).set 7 (.one (.arr 0))).set 8 (ce .i64 (done++rest).length)).getD 8 (.b8 [])=ce .i64 (done++rest).length:=db (by simp;omega);have e5:t1.getD 9 (.b8 [])=cK (decide (0<rest.length)):=db (by simp;omega);have e6:asList (lent [Q0.bB ts.length (done++rest)]) (.one (.arr 0))=some (done++rest):=rfl;have e7:decide ((done.length:Int)<((done++rest).length:Int))=decide (0<rest.length):=by simp only[Zv];by_cases h:0<rest.length;rw[decide_eq_true h,decide_eq_true (by omega)];rw[decide_eq_false h,decide_eq_false (by omega)]
  refine⟨t1,?_,by simp[t1],?_,?_,?_⟩;simp only[aaJ,cD,cj,cS,dy,dX,Opd.ev,e0,put,e1,e2,e6,e3,e4,bin,if_true,ff,e7];have ao:=e5;simp only[t1]at ao;rw[ao];by_cases h:0<rest.length;simp only[isBool,h,decide_true,if_true,t1];simp only[isBool,h,decide_false,Zz,if_false,t1];simp only[t1];rw[Za (by omega),Za (by omega),Za (by omega),Za (by omega)];exact s.t0;simp only[t1];rw[Za (by omega),Za (by omega),Za (by omega),Za (by omega)];exact s.t1;simp only[t1];rw[Za (by omega),Za (by omega),Za (by omega),Za (by omega)];exact s.t5
 induction rest with
 |nil=>intro done k t s hr h0 hk hlen hl;obtain⟨t',a1,a2,a3⟩:=head done [] k t s hl;refine⟨t',lW ?_ (by simp),a2,by simp only[fu];exact a3.t1⟩;simp only[Gb,cD,a1,Zx,Nat.lt_irrefl,if_false,fu]
 |cons r rest ih=>
  intro done k t s hr h0 hk hlen hl;obtain⟨t1,a1,a2,a3⟩:=head done (r::rest) k t s hl;simp only[fu]at hk;have hle:=tV mT rest (uj mT r k).2;have az:=Ft mT r k;obtain⟨t2,b1,b2,b3⟩:=UK hT (z:=ts.length) (i:=done.length) ts xs (c:=12) (dn:=[]) (row:=r) (E:=done++r::rest) (k:=k) (t:=t1) hm (hr r (by simp)) (by rw[Zm (Zi _),YH];rfl) (by simp) a3 h0 (by omega) (Zi _) (by omega);have ai:(done++r::rest).set done.length ([]++(uj mT r k).1)=(done++[(uj mT r k).1])++rest:=by rw[YP _ _ (Zi _),YH,ZP];simp
  rw[ai]at b1;simp only[Zo]at hlen;have hw:=oe (k:=done.length) (by unfold maxLen at hlen;omega);let t3:=((t2.set 10 (ce .i64 done.length)).set 11 (ce .i64 ((done.length:Int)+1))).set 5 (ce .i64 ((done.length:Int)+1));have f0:=getD_some b3.t5;have f1:(t2.set 10 (ce .i64 done.length)).getD 10 (.b8 [])=ce .i64 done.length:=db (by omega);have f2:((t2.set 10 (ce .i64 done.length)).set 11 (ce .i64 ((done.length:Int)+1))).getD 11 (.b8 [])=ce .i64 ((done.length:Int)+1):=db (by simp;omega);have f3:∀h,cD (cf Φ ext) cR (Nv 5 10) ⟨t2,h⟩=some (.normal,⟨t3,h⟩):=fun h=>by simp only[Nv,cD,cj,cS,dy,dX,Opd.ev,f0,put,f1,bin,if_true,ff,hw,f2,t3]
  have s3:QC (done++[(uj mT r k).1]).length (uj mT r k).2 t3:=by
   have ae:(done++[(uj mT r k).1]).length=done.length+1:=by simp
   rw[ae];refine⟨?_,?_,?_⟩;simp only[t3];rw[Za (by omega),Za (by omega),Za (by omega)];exact b3.t0;simp only[t3];rw[Za (by omega),Za (by omega),Za (by omega)];exact b3.t1;simp only[t3];exact Zd (by simp;omega)
  obtain⟨t4,g1,g2,g3⟩:=ih (done++[(uj mT r k).1]) (uj mT r k).2 t3 s3 (fun r m=>hr r (by simp[m])) (by omega) hk (by simp;omega) (by simp[t3];omega);refine⟨t4,(jN (Z':=⟨t3,[.bB ts.length (done++[(uj mT r k).1]++rest)]⟩) ?_).trans ?_,by rw[g2];simp[t3];omega,by simp only[fu];exact g3⟩;have hb:=RA (lp:=cR) b1;simp only[Gb,cD,a1,Zo,Nat.zero_lt_succ,if_true,hb,f3];rw[g1];simp only[fu,List.append_assoc,Zh,Zj]
end
def p8 (ops:List X2):Bool:=ops.all fun o=>o.op.bX
def UE (a b:List X2):p8 (a++b)=(p8 a&&p8 b):=by simp[p8]
def JJ (a:X2)(b:List X2):p8 (a::b)=(a.op.bX&&p8 b):=by simp[p8]
def Fv :∀(p:List Nat)(c:Nat),p8 (wS c p)=true
 |[],c=>rfl
 |d::ds,c=>by simp only[wS,JJ,Fv ds,AOp.bX,ZG]
def acr (mt c:Nat)(t:PTy):p8 (AZ mt c t)=true:=by
 cases t with
 |int κ=>cases κ<;>rfl
 |_=>rfl
def aa5 (z mt c:Nat)(t:PTy)(x:MC):∀r∈T9 z mt c t x,p8 r=true:=by
 have nil:p8 []=true:=rfl;have hS:∀t,∀r∈Ia z mt c t x,p8 r=true:=by intro t r hr;simp only[Ia,ZF,List.not_mem_nil,or_false]at hr;rcases hr with rfl|rfl;simp only[UC,Zh,Zj,JJ,UE,acr,Fv,AOp.bX,nil,ZG];rfl
 have hT:∀r∈LY z c x,p8 r=true:=by intro r hr;simp only[LY,ZF,List.not_mem_nil,or_false]at hr;subst hr;simp only[UC,Zh,Zj,JJ,UE,Fv,AOp.bX,nil,ZG]
 cases t<;>first|exact hT|exact hS _
def UF (z mt:Nat):∀(ts:List PTy)(xs:List MC)(c:Nat),∀r∈Wi z mt c ts xs,p8 r=true
 |[],xs,c,r,hr=>by cases xs<;>cases hr
 |t::ts,[],c,r,hr=>by cases hr
 |t::ts,x::xs,c,r,hr=>by simp only[Wi,Ye]at hr;rcases hr with hr|hr;exact aa5 z mt c t x r hr;exact UF z mt ts xs _ r hr
def Rg :∀(rs:List (List X2)),(∀r∈rs,p8 r=true)->(Ts rs).bX=true
 |[],_=>rfl
 |[a],h=>h a (by simp)
 |a::b::r,h=>by have h1:=h a (by simp);have h2:=Rg (b::r) (fun x m=>h x (by simp only[ZF]at m⊢;exact .inr m));simp only[Ts,Q6.bX,h2,Yj];exact h1
def Rf (mt:Nat)(ts:List PTy)(xs:List MC):(jJ mt ts xs).body.bX=true:=by have:=Rg _ (UF ts.length mt ts xs 12);simp only[jJ,Gb,aaJ,Nv,Q6.bX,this,Yj,Yi];rfl
section
variable {Φ:Nat->Option AFn}{ext:Nat->List V->Option V}{mT:Int->List UInt8}{mt:Nat}
def iO (hT:Gx Φ ext mT mt){f:Nat}{ts:List PTy}{xs:List MC}(hk:Φ f=some (jJ mt ts xs))(hn:Φ (f+iP)=none)(hm:LS Φ ext mT 0 ts xs):uo Φ ext mT f ts:=by
 have hN:=HU (mt:=mt) ts xs 12;obtain⟨m,aq⟩:∃m,pd mt 12 ts xs+1-2=m+11:=⟨pd mt 12 ts xs-12,by omega⟩;constructor;intro k;refine yO hn hk (Rf mt ts xs) ?_;have e0:asList (lent []) (eQ [])=some []:=rfl;have a7:∃t',iI Φ ext (jJ mt ts xs).body (ma (jJ mt ts xs) [eQ [],ce .i64 k])=some (.ret,⟨t',[]⟩)/\ t'.getD 4 (.b8 [])=ce .i64 k:=by
  have aj:ma (jJ mt ts xs) [eQ [],ce .i64 k]=⟨eQ []::ce .i64 k::List.replicate (m+11) (.b8 []),[]⟩:=by simp only[ma,gM,thaw,thawL,jJ,Zo,Zx,Zy,Zh,Zj,aq]
  rw[aj];have hl:(eQ []::ce .i64 k::List.replicate (m+11) (V.b8 [])).length=pd mt 12 ts xs+1:=by simp;omega
  generalize ab:cR (cD (cf Φ ext) cR (Gb mt ts xs))=lp;have af:∀u2 u3 u4 u6 u7 u8 u9(r:List V),lp ⟨eQ []::ce .i64 k::u2::u3::u4::ce .i64 0::u6::u7::u8::u9::r,[]⟩=some (.exit 0,⟨eQ []::ce .i64 k::u2::u3::u4::ce .i64 0::ce .i64 0::eQ []::ce .i64 0::cK false::r,[]⟩):=by intro u2 u3 u4 u6 u7 u8 u9 r;rw[<-ab];refine lW ?_ (by simp);simp[Gb,aaJ,cD,cj,cS,dy,dX,Opd.ev,put,e0,bin,ff,isBool]
  have a8:List.replicate (m+11) (V.b8 [])= .b8 []:: .b8 []:: .b8 []:: .b8 []:: .b8 []:: .b8 []:: .b8 []:: .b8 []::List.replicate (m+3) (.b8 []):=rfl;rw[a8]at hl⊢;let w:List V:=eQ []::ce .i64 k:: .b8 []:: .b8 []::ce .i64 0::ce .i64 0::ce .i64 0::eQ []::ce .i64 0::cK false::List.replicate (m+3) (.b8 []);have aA:w.length=pd mt 12 ts xs+1:=by simp only[w,Zo,List.length_replicate]at hl⊢;omega
  have q1:w.getD 1 (.b8 [])=ce .i64 k:=rfl;have q2:(w.set (pd mt 12 ts xs) (ce .i64 k)).getD (pd mt 12 ts xs) (.b8 [])=ce .i64 k:=db (by omega);refine⟨(w.set (pd mt 12 ts xs) (ce .i64 k)).set 4 (ce .i64 k),?_,db (by simp;omega)⟩;have a6:cD (cf Φ ext) cR (.seq (.region [⟨some (pd mt 12 ts xs), .mv (.tmp 1),none⟩,⟨some 4, .mv (.tmp (pd mt 12 ts xs)),none⟩]) .ret) ⟨w,[]⟩=some (.ret,⟨(w.set (pd mt 12 ts xs) (ce .i64 k)).set 4 (ce .i64 k),[]⟩):=by simp only[cD,cj,cS,dy,dX,Opd.ev,q1,put,q2]
  generalize ak:Q6.seq (.region [⟨some (pd mt 12 ts xs), .mv (.tmp 1),none⟩,⟨some 4, .mv (.tmp (pd mt 12 ts xs)),none⟩]) .ret=ec at a6;simp only[iI,jJ,ak,cD,cj,cS,dy,dX,Opd.ev,put,Yf,ZP,ab,af,if_true];exact a6
 obtain⟨t',r1,r2⟩:=a7;rw[r1];simp only[A5,Lm,jJ,dd,cu,eY,r2,Y',YE,Zw,V.cells,ee,comp,cV,dS,gM,thaw,thawL,Zx,ZM,kD,L.flat,if_true];rfl;intro rows h k h0 av;obtain⟨aw,hr⟩:=dJ h;refine yO hn hk (Rf mt ts xs) ?_;have aj:ma (jJ mt ts xs) [.one (.down ts.length rows),ce .i64 k]=⟨.one (.arr 0)::ce .i64 k::List.replicate (m+11) (.b8 []),[.bB ts.length rows]⟩:=by simp only[ma,gM,thaw,thawL,jJ,Zo,Zx,Zt,Zy,Zh,Zj,Q0.zone,aq]
 let t0:List V:= .one (.arr 0)::ce .i64 k:: .b8 []:: .b8 []::ce .i64 0::ce .i64 0::List.replicate (m+7) (.b8 []);have aB:t0.length=pd mt 12 ts xs+1:=by simp[t0];omega
 obtain⟨t',a1,a2,a3⟩:=Wa hT hm rows [] k t0 ⟨rfl,rfl,rfl⟩ hr h0 av (by simpa using aw) (by omega);simp only[Zj]at a1;have q1:t'.getD 1 (.b8 [])=ce .i64 (fu mT rows k).2:=getD_some a3;have q2:(t'.set (pd mt 12 ts xs) (ce .i64 (fu mT rows k).2)).getD (pd mt 12 ts xs) (.b8 [])=ce .i64 (fu mT rows k).2:=db (by omega);have a6:cD (cf Φ ext) cR (.seq (.region [⟨some (pd mt 12 ts xs), .mv (.tmp 1),none⟩,⟨some 4, .mv (.tmp (pd mt 12 ts xs)),none⟩]) .ret) ⟨t',[.bB ts.length (fu mT rows k).1]⟩=some (.ret,⟨(t'.set (pd mt 12 ts xs) (ce .i64 (fu mT rows k).2)).set 4 (ce .i64 (fu mT rows k).2),[.bB ts.length (fu mT rows k).1]⟩):=by simp only[cD,cj,cS,dy,dX,Opd.ev,q1,put,q2]
 have q3:((t'.set (pd mt 12 ts xs) (ce .i64 (fu mT rows k).2)).set 4 (ce .i64 (fu mT rows k).2)).getD 4 (.b8 [])=ce .i64 (fu mT rows k).2:=db (by simp;omega);have a7:iI Φ ext (jJ mt ts xs).body (ma (jJ mt ts xs) [.one (.down ts.length rows),ce .i64 k])=some (.ret,⟨(t'.set (pd mt 12 ts xs) (ce .i64 (fu mT rows k).2)).set 4 (ce .i64 (fu mT rows k).2),[.bB ts.length (fu mT rows k).1]⟩):=by rw[aj];generalize ak:Q6.seq (.region [⟨some (pd mt 12 ts xs), .mv (.tmp 1),none⟩,⟨some 4, .mv (.tmp (pd mt 12 ts xs)),none⟩]) .ret=ec at a6;have a8:List.replicate (m+11) (V.b8 [])= .b8 []:: .b8 []:: .b8 []:: .b8 []::List.replicate (m+7) (.b8 []):=rfl;generalize ab:cR (cD (cf Φ ext) cR (Gb mt ts xs))=lp at a1;simp only[t0]at a1;simp only[iI,jJ,ak,a8,cD,cj,cS,dy,dX,Opd.ev,put,Yf,ZP,ab,a1,if_true];exact a6
 rw[a7];simp only[A5,Lm,jJ,dd,cu,eY,q3,Y',YE,Zw,V.cells,ee,comp,cV,dS,gM,thaw,thawL,Zj,Zo,Zx,ZJ,List.take_succ_cons,ZM,kD,L.flat,if_true];rfl
end
end Gi
