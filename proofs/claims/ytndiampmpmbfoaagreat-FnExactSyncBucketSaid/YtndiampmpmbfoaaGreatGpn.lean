/- A part. -/
import Derived.Test.YtndiampmpmbfoaaGreatGpb
set_option linter.all false
namespace Gi
open Go Go.RowKit
section
variable (mT:Int->List UInt8)
mutual
def lN :PV->Int->PV×Int
 | .int κ _,k=>(.int κ (κ.wrap k),k+1)
 | .bool _,k=>(.bool (k.tmod 3==0),k+1)
 | .str _,k=>(.str (mT k),k+1)
 | .lst rows,k=>(.lst (cM rows k).1,(cM rows k).2)
def qe :List PV->Int->List PV×Int
 |[],k=>([],k)
 |p::ps,k=>((lN p k).1::(qe ps (lN p k).2).1,(qe ps (lN p k).2).2)
def cM :List (List PV)->Int->List (List PV)×Int
 |[],k=>([],k)
 |r::rs,k=>((qe r k).1::(cM rs (qe r k).2).1,(cM rs (qe r k).2).2)
end
mutual
def OO :∀(p:PV)(k:Int),k<=(lN mT p k).2
 | .int κ _,k=>by simp only[lN];omega
 | .bool _,k=>by simp only[lN];omega
 | .str _,k=>by simp only[lN];omega
 | .lst rows,k=>by simp only[lN];exact pW rows k
def Cq :∀(ps:List PV)(k:Int),k<=(qe mT ps k).2
 |[],k=>by simp only[qe];omega
 |p::ps,k=>by
  simp only[qe]
  have:=OO p k
  have:=Cq ps (lN mT p k).2
  omega
def pW :∀(rs:List (List PV))(k:Int),k<=(cM mT rs k).2
 |[],k=>by simp only[cM];omega
 |r::rs,k=>by
  simp only[cM]
  have:=Cq r k
  have:=pW rs (qe mT r k).2
  omega
end
def Qe :∀(rs:List (List PV))(k:Int),(cM mT rs k).1.length=rs.length
 |[],k=>by simp only[cM]
 |r::rs,k=>by simp only[cM,Zo,Qe rs]
def Qd :∀(ps:List PV)(k:Int),(qe mT ps k).1.length=ps.length
 |[],k=>by simp only[qe]
 |p::ps,k=>by simp only[qe,Zo,Qd ps]
end
structure MC where
 p:List Nat
 f:Nat
def Qh (c:Nat):List Z0:=[⟨some c, .mv (.tmp 0),none⟩,⟨some (c+1), .mv (.tmp 5),none⟩]
def tn (c:Nat):List Nat->List Z0
 |[]=>[]
 |d::ds=>⟨some (c+1), .bl (.tmp c) d,none⟩::tn (c+1) ds
def OG (c:Nat):List Z0:=[⟨some c, .mv (.tmp 1),none⟩,⟨some (c+1), .bin .add (.tmp c) (.pv (.int .i64 1)),none⟩,⟨some 1, .mv (.tmp (c+1)),none⟩]
def xy (mt c:Nat):PTy->List Z0
 | .int .i64=>[]
 | .int κ=>[⟨some (c+3), .conv κ (.tmp (c+2)),none⟩]
 | .str=>[⟨some (c+3), .bb mt [.tmp (c+2)],none⟩]
 | .bool=>[⟨some (c+3), .bin .rem (.tmp (c+2)) (.pv (.int .i64 3)),none⟩,⟨some (c+4), .bin .eql (.tmp (c+3)) (.pv (.int .i64 0)),none⟩]
 | .lst _=>[]
def Fb (z mt c:Nat)(t:PTy)(x:MC):List (List Z0):=
 let v:=c+2+(xy mt c t).length
 [Qh c++(⟨some (c+2), .mv (.tmp 1),none⟩::(xy mt c t++(⟨some (v+1), .bM z (.tmp c) (.tmp (c+1)),none⟩::(tn (v+1) x.p++[⟨none, .bV 1 (.tmp (v+1+x.p.length)) (.tmp v),none⟩])))),OG (v+2+x.p.length)]
def I5 (z c:Nat)(x:MC):List (List Z0):=
 let e:=c+3+x.p.length
 [Qh c++(⟨some (c+2), .bM z (.tmp c) (.tmp (c+1)),none⟩::(tn (c+2) x.p++[⟨some e, .bn false 1 (.tmp (c+2+x.p.length)),none⟩,⟨some (e+1), .mv (.tmp 1),none⟩,⟨some (e+2), .bd x.f (.tmp e) (.tmp (e+1)),none⟩,⟨some 1, .mv (.tmp (e+2)),none⟩]))]
def PO (z mt c:Nat):PTy->MC->List (List Z0)
 | .lst _,x=>I5 z c x
 |t,x=>Fb z mt c t x
def zr (mt c:Nat):PTy->MC->Nat
 | .lst _,x=>c+6+x.p.length
 |t,x=>c+6+(xy mt c t).length+x.p.length
def R5 (z mt:Nat):Nat->List PTy->List MC->List (List Z0)
 |c,t::ts,x::xs=>PO z mt c t x++R5 z mt (zr mt c t x) ts xs
 |_,_,_=>[]
def mf (mt:Nat):Nat->List PTy->List MC->Nat
 |c,t::ts,x::xs=>mf mt (zr mt c t x) ts xs
 |c,_,_=>c
def O3 :List (List Z0)->Y5
 |[]=> .skip
 |[a]=> .region a
 |a::b::r=> .seq (.region a) (O3 (b::r))
def Tv (i a t0:Nat):Y5:= .seq (.region [⟨some t0, .mv (.tmp i),none⟩,⟨some (t0+1), .mv (.tmp a),none⟩,⟨some (t0+2), .bx (.tmp (t0+1)),none⟩,⟨some (t0+3), .bin .lss (.tmp t0) (.tmp (t0+2)),none⟩]) (.cond (.tmp (t0+3)) .skip (.exit 0))
def Dd (mt:Nat)(ts:List PTy)(xs:List MC):Y5:= .seq (Tv 5 0 6) (.seq (.block 1 (O3 (R5 ts.length mt 12 ts xs))) (Kj 5 10))
def gC (mt:Nat)(ts:List PTy)(xs:List MC):AFn:=⟨mf mt 12 ts xs+1,[.tmp 4], .seq (.region [⟨some 4, .mv (.pv (.int .i64 0)),none⟩]) (.seq (.seq (.region [⟨some 5, .mv (.pv (.int .i64 0)),none⟩]) (.block 0 (.loop (Dd mt ts xs)))) (.seq (.region [⟨some (mf mt 12 ts xs), .mv (.tmp 1),none⟩,⟨some 4, .mv (.tmp (mf mt 12 ts xs)),none⟩]) .ret))⟩
def Nl {call:Nat->List V->Option V}{lp:(St->Option (Ex×St))->St->Option (Ex×St)}:∀{rs:List (List Z0)}{Z Z':St},ah call rs.flatten Z=some Z'->ap call lp (O3 rs) Z=some (.normal,Z')
 |[],Z,Z',h=>by simp[ah]at h;subst h;rfl
 |[a],Z,Z',h=>by
  simp only[List.flatten_cons,List.flatten_nil,Zw]at h
  simp only[O3,ap,h]
 |a::b::r,Z,Z',h=>by
  rw[List.flatten_cons]at h
  cases ha:ah call a Z with
  |none=>
   exfalso
   have:∀(a b:List Z0)(Z:St),ah call a Z=none->ah call (a++b) Z=none:=by
    intro a
    induction a with
    |nil=>intro b Z h;simp[ah]at h
    |cons o a ih=>
     intro b Z h
     simp only[Zg,ah]at h⊢
     cases hs:aG call o Z with
     |none=>rfl
     |some σ1=>rw[hs]at h;exact ih b σ1 h
   rw[this a _ Z ha]at h
   cases h
  |some σ1=>
   rw[cA call a _ ha]at h
   have:=Nl (lp:=lp) (rs:=b::r) h
   simp only[O3,ap,ha]
   exact this
def Bb {call:Nat->List V->Option V}{o i:Nat}:∀{p:List Nat}{c j:Nat}{t:List V}{h:List Y0},t[c]? =some (.one (.ptr o i j))->c+p.length<t.length->
 ∃t',ah call (tn c p) ⟨t,h⟩=some ⟨t',h⟩/\ t'.length=t.length/\ t'[c+p.length]? =some (.one (.ptr o i (j+p.sum)))/\ ∀n≤c,t'[n]? =t[n]?
 |[],c,j,t,h,hc,hl=>⟨t,rfl,rfl,by simpa using hc,fun _ _=>rfl⟩
 |d::ds,c,j,t,h,hc,hl=>by
  simp only[Zo]at hl
  obtain⟨t',e1,e2,e3,e4⟩:=Bb (call:=call) (o:=o) (i:=i) (p:=ds) (c:=c+1) (j:=j+d) (t:=t.set (c+1) (.one (.ptr o i (j+d)))) (h:=h) (Zd (by omega)) (by simp;omega)
  refine⟨t',?_,by simpa using e2,?_,fun n hn=> ?_⟩
  ·simp only[tn,ah,aG,bc,bG,Opd.ev,getD_some hc,put,e1]
  ·simp only[Zo,List.sum_cons]
   rw[show c+(ds.length+1)=c+1+ds.length by omega,e3,Zc3]
  ·rw[e4 n (by omega),Za (by omega)]
section
variable {Φ:Nat->Option AFn}{ext:Nat->List V->Option V}{mT:Int->List UInt8}{mt:Nat}
def xN :Int:=1099511627776
def qj (Φ:Nat->Option AFn)(ext:Nat->List V->Option V)(mT:Int->List UInt8)(f:Nat)(ts:List PTy):Prop:=
 (∀k:Int,ag Φ ext (f+fH) [bY [],aa .i64 k]=some (.b9 [(false,[.pv (.int .i64 k)])]))/\
 ∀rows:List (List PV),oq (.lst ts) (.lst rows)->∀k:Int,0<=k->(cM mT rows k).2<=xN->ag Φ ext (f+fH) [.one (.down ts.length rows),aa .i64 k]=some (.b9 [(false,[.pv (.int .i64 (cM mT rows k).2)]),(false,[.down ts.length (cM mT rows k).1])])
def Dw (Φ:Nat->Option AFn)(ext:Nat->List V->Option V)(mT:Int->List UInt8)(mt:Nat):Prop:=∀k:Int,0<=k->k<=xN->ag Φ ext mt [aa .i64 k]=some (eE (mT k))
def QH (hT:Dw Φ ext mT mt){ty:PTy}{p:PV}(hp:oq ty p)(hf:ty.flatT=true){c:Nat}{k:Int}(h0:0<=k)(hk:k<xN){t:List V}{h:List Y0}(h2:t[c+2]? =some (aa .i64 k))(hl:c+2+(xy mt c ty).length<t.length):
 ∃t',ah (ag Φ ext) (xy mt c ty) ⟨t,h⟩=some ⟨t',h⟩/\ t'.length=t.length/\ t'[c+2+(xy mt c ty).length]? =some (.one (.pv (lN mT p k).1))/\ ∀n≤c+2,t'[n]? =t[n]? :=by
 have e2:=getD_some h2
 cases ty with
 |lst us=>cases hf
 |str=>
  obtain⟨s,rfl⟩:=lu hp
  simp only[xy,ZN]at hl⊢
  refine⟨t.set (c+3) (eE (mT k)),?_,by simp,by simp only[lN];exact Zd (by omega),fun n hn=>Za (by omega)⟩
  simp only[ah,aG,bc,bG,Zv,Zz,Opd.ev,e2,al,V.view,L.view,hT k h0 (by omega),V.flat,L.flat,if_true,da,df,put]
 |bool=>
  obtain⟨b,rfl⟩:=ma hp
  simp only[xy,Zo,Zx]at hl⊢
  have e3:(t.set (c+3) (aa .i64 (k.tmod 3))).getD (c+3) (.b9 [])=aa .i64 (k.tmod 3):=aI (by omega)
  refine⟨(t.set (c+3) (aa .i64 (k.tmod 3))).set (c+4) (az (k.tmod 3==0)),?_,by simp,by simp only[lN];exact Zd (by simp;omega),fun n hn=>by rw[Za (by omega),Za (by omega)]⟩
  have h3:¬((3:Int)=0):=by decide
  simp only[ah,aG,bc,bG,Opd.ev,e2,bin,if_true,cG,if_neg h3,put,e3]
 |int κ=>
  obtain⟨n,rfl⟩:=mp hp
  by_cases hκ:κ= .i64
  ·subst hκ
   have hw:IntKind.i64.wrap k=k:=by rw[IntKind.wrap_i64];unfold xN at hk;omega
   refine⟨t,rfl,rfl,?_,fun _ _=>rfl⟩
   simp only[xy,Zx,Za7,lN,hw]
   exact h2
  ·have hv:xy mt c (.int κ)=[⟨some (c+3), .conv κ (.tmp (c+2)),none⟩]:=by
    cases κ<;>first|rfl|exact absurd rfl hκ
   rw[hv]at hl⊢
   simp only[ZN]at hl⊢
   refine⟨t.set (c+3) (aa κ (κ.wrap k)),?_,by simp,by simp only[lN];exact Zd (by omega),fun n hn=>Za (by omega)⟩
   simp only[ah,aG,bc,bG,Opd.ev,e2,isInt,put]
def AB {ty:PTy}{p:PV}(hp:oq ty p)(hf:ty.flatT=true)(k:Int):p.flat=true/\ (lN mT p k).1.flat=true/\ (lN mT p k).2=k+1:=by
 cases ty with
 |lst us=>cases hf
 |str=>obtain⟨s,rfl⟩:=lu hp;simp[lN,PV.flat]
 |bool=>obtain⟨s,rfl⟩:=ma hp;simp[lN,PV.flat]
 |int κ=>obtain⟨s,rfl⟩:=mp hp;simp[lN,PV.flat]
def VD {z:Nat}{E:List (List PV)}{i:Nat}(hi:i<E.length)(call:Nat->List V->Option V){t:List V}{a b:Nat}(ha:t[a]? =some (.one (.arr 0)))(hb:t[b]? =some (aa .i64 i)):bG call ⟨t,[.bB z E]⟩ (.bM z (.tmp a) (.tmp b))=some (.one (.ptr 0 i 0)):=by
 simp only[bG,Opd.ev,getD_some ha,getD_some hb,isInt]
 simp[aJ,lent,Y0.bX,hi]
structure YZ (i:Nat) (k:Int) (t:List V):Prop where
 t0:t[0]? =some (.one (.arr 0))
 t1:t[1]? =some (aa .i64 k)
 t5:t[5]? =some (aa .i64 i)
def TF {call:Nat->List V->Option V}{i c:Nat}{k:Int}{t:List V}{h:List Y0}(s:YZ i k t)(h0:0<=k)(hk:k<xN)(hc:6<=c)(hl:c+1<t.length):
 ∃t',ah call (OG c) ⟨t,h⟩=some ⟨t',h⟩/\ t'.length=t.length/\ YZ i (k+1) t':=by
 have e1:=getD_some s.t1
 have e2:(t.set c (aa .i64 k)).getD c (.b9 [])=aa .i64 k:=aI (by omega)
 have hw:IntKind.i64.wrap (k+1)=k+1:=by rw[IntKind.wrap_i64];unfold xN at hk;omega
 have e3:((t.set c (aa .i64 k)).set (c+1) (aa .i64 (k+1))).getD (c+1) (.b9 [])=aa .i64 (k+1):=aI (by simp;omega)
 refine⟨((t.set c (aa .i64 k)).set (c+1) (aa .i64 (k+1))).set 1 (aa .i64 (k+1)),?_,by simp,?_,?_,?_⟩
 ·simp only[OG,ah,aG,bc,bG,Opd.ev,e1,put,e2,bin,if_true,cG,hw,e3]
 ·rw[Za (by omega),Za (by omega),Za (by omega)];exact s.t0
 ·exact Zd (by simp;omega)
 ·rw[Za (by omega),Za (by omega),Za (by omega)];exact s.t5
def Qs {dn rest:List PV}{p q:PV}:(dn++p::rest).set dn.length q=dn++q::rest:=by
 rw[Zc6 _ _ (Zn _),Zb6,ZT]
def ED {dn rest:List PV}{p:PV}:(dn++p::rest)[dn.length]? =some p:=by
 rw[Zk (Zn _),Zb6];rfl
def Q4 (hT:Dw Φ ext mT mt){ty:PTy}{p:PV}{x:MC}{dn rest:List PV}{E:List (List PV)}{z i c:Nat}{k:Int}{t:List V}(hp:oq ty p)(hf:ty.flatT=true)(s:YZ i k t)(h0:0<=k)(hk:k<xN)(hc:12<=c)(hE:E[i]? =some (dn++p::rest))(hx:x.p.sum=dn.length)(hl:c+6+(xy mt c ty).length+x.p.length<=t.length):
 ∃t',ah (ag Φ ext) (Fb z mt c ty x).flatten ⟨t,[.bB z E]⟩=some ⟨t',[.bB z (E.set i (dn++(lN mT p k).1::rest))]⟩/\ t'.length=t.length/\ YZ i (lN mT p k).2 t':=by
 obtain⟨f1,f2,f3⟩:=AB (mT:=mT) hp hf k
 have hi:i<E.length:=(Zb.1 hE).1
 generalize hv:c+2+(xy mt c ty).length=v at*
 let t1:=((t.set c (.one (.arr 0))).set (c+1) (aa .i64 i)).set (c+2) (aa .i64 k)
 have a0:ah (ag Φ ext) (Qh c++[⟨some (c+2), .mv (.tmp 1),none⟩]) ⟨t,[.bB z E]⟩=some ⟨t1,[.bB z E]⟩:=by
  have e1:=getD_some s.t0
  have e2:(t.set c (V.one (.arr 0))).getD 5 (.b9 [])=aa .i64 i:=(dV (by omega)).trans (getD_some s.t5)
  have e3:((t.set c (V.one (.arr 0))).set (c+1) (aa .i64 i)).getD 1 (.b9 [])=aa .i64 k:=(dV (by omega)).trans ((dV (by omega)).trans (getD_some s.t1))
  simp only[Qh,Zg,Zi,ah,aG,bc,bG,Opd.ev,e1,put,e2,e3,t1]
 have l1:t1.length=t.length:=by simp[t1]
 have g1:∀n,n<c->t1[n]? =t[n]? :=fun n hn=>by simp only[t1];rw[Za (by omega),Za (by omega),Za (by omega)]
 have gc:t1[c]? =some (.one (.arr 0)):=by simp only[t1];rw[Za (by omega),Za (by omega)];exact Zd (by omega)
 have gd:t1[c+1]? =some (aa .i64 i):=by simp only[t1];rw[Za (by omega)];exact Zd (by simp;omega)
 have ge:t1[c+2]? =some (aa .i64 k):=by simp only[t1];exact Zd (by simp;omega)
 clear_value t1
 obtain⟨t2,b1,b2,b3,b4⟩:=QH (h:=[.bB z E]) hT hp hf h0 hk ge (by omega)
 rw[hv]at b3
 let t3:=t2.set (v+1) (.one (.ptr 0 i 0))
 have c1:ah (ag Φ ext) [⟨some (v+1), .bM z (.tmp c) (.tmp (c+1)),none⟩] ⟨t2,[.bB z E]⟩=some ⟨t3,[.bB z E]⟩:=by
  simp only[ah,aG,bc,VD hi (ag Φ ext) (t:=t2) (a:=c) (b:=c+1) ((b4 c (by omega)).trans gc) ((b4 (c+1) (by omega)).trans gd),put,t3]
 have l3:t3.length=t.length:=by simp only[t3,ZK];omega
 obtain⟨t4,d1,d2,d3,d4⟩:=Bb (call:=ag Φ ext) (o:=0) (i:=i) (p:=x.p) (c:=v+1) (j:=0) (t:=t3) (h:=[.bB z E]) (Zd (by omega)) (by omega)
 have q3:t4[v]? =some (.one (.pv (lN mT p k).1)):=by rw[d4 v (by omega)];simp only[t3];rw[Za (by omega)];exact b3
 have low:∀n,n<c->t4[n]? =t[n]? :=fun n hn=>by rw[d4 n (by omega)];simp only[t3];rw[Za (by omega),b4 n (by omega),g1 n hn]
 rw[ZO,hx]at d3
 have e1:ah (ag Φ ext) [⟨none, .bV 1 (.tmp (v+1+x.p.length)) (.tmp v),none⟩] ⟨t4,[.bB z E]⟩=some ⟨t4,[.bB z (E.set i (dn++(lN mT p k).1::rest))]⟩:=by
  simp only[ah,aG,bc,bG,cz,Opd.ev,getD_some d3,getD_some q3,uK,A',hE,ED,f1,f2,and_self,if_true,Qs,ZT,put]
 obtain⟨t5,i1,i2,i3⟩:=TF (call:=ag Φ ext) (c:=v+2+x.p.length) (h:=[.bB z (E.set i (dn++(lN mT p k).1::rest))]) (⟨(low 0 (by omega)).trans s.t0,(low 1 (by omega)).trans s.t1,(low 5 (by omega)).trans s.t5⟩:YZ i k t4) h0 hk (by omega) (by omega)
 refine⟨t5,?_,by omega,by rw[f3];exact i3⟩
 have a5:(Fb z mt c ty x).flatten=(Qh c++[⟨some (c+2), .mv (.tmp 1),none⟩])++(xy mt c ty++([⟨some (v+1), .bM z (.tmp c) (.tmp (c+1)),none⟩]++(tn (v+1) x.p++([⟨none, .bV 1 (.tmp (v+1+x.p.length)) (.tmp v),none⟩]++OG (v+2+x.p.length))))):=by
  simp only[Fb,hv,List.flatten_cons,List.flatten_nil,Zw,List.append_assoc,Zg,Zi]
 rw[a5,cA _ _ _ a0,cA _ _ _ b1,cA _ _ _ c1,cA _ _ _ d1,cA _ _ _ e1,i1]
def UI {z i j:Nat}{E:List (List PV)}{e:List PV}{q:PV}(hE:E[i]? =some e)(hj:j<z)(hq:e[j]? =some q):x5 z E (i*z+j)=some q:=by
 have h1:(i*z+j)/z=i:=by rw[Zb5,Nat.mul_add_div (by omega),Nat.div_eq_of_lt hj];omega
 have h2:(i*z+j)%z=j:=by rw[Zb5,Nat.mul_add_mod,Nat.mod_eq_of_lt hj]
 simp only[x5,h1,h2,hE,hq]
def TW {z i j:Nat}{E:List (List PV)}{e:List PV}{q:PV}(hE:E[i]? =some e)(hj:j<z):fI z E (i*z+j) q=E.set i (e.set j q):=by
 have h1:(i*z+j)/z=i:=by rw[Zb5,Nat.mul_add_div (by omega),Nat.div_eq_of_lt hj];omega
 have h2:(i*z+j)%z=j:=by rw[Zb5,Nat.mul_add_mod,Nat.mod_eq_of_lt hj]
 simp only[fI,h1,h2,hE,Za3]
def Q5 {us:List PTy}{rows:List (List PV)}{x:MC}{dn rest:List PV}{E:List (List PV)}{z i c:Nat}{k:Int}{t:List V}(hO:qj Φ ext mT x.f us)(hp:oq (.lst us) (.lst rows))(s:YZ i k t)(h0:0<=k)(hk:(cM mT rows k).2<=xN)(hc:12<=c)(hE:E[i]? =some (dn++ .lst rows::rest))(hz:dn.length<z)(hx:x.p.sum=dn.length)(hl:c+6+x.p.length<=t.length):
 ∃t',ah (ag Φ ext) (I5 z c x).flatten ⟨t,[.bB z E]⟩=some ⟨t',[.bB z (E.set i (dn++(lN mT (.lst rows) k).1::rest))]⟩/\ t'.length=t.length/\ YZ i (lN mT (.lst rows) k).2 t':=by
 have hi:i<E.length:=(Zb.1 hE).1
 let t1:=(t.set c (.one (.arr 0))).set (c+1) (aa .i64 i)
 have a0:ah (ag Φ ext) (Qh c) ⟨t,[.bB z E]⟩=some ⟨t1,[.bB z E]⟩:=by
  have e1:=getD_some s.t0
  have e2:(t.set c (V.one (.arr 0))).getD 5 (.b9 [])=aa .i64 i:=(dV (by omega)).trans (getD_some s.t5)
  simp only[Qh,ah,aG,bc,bG,Opd.ev,e1,put,e2,t1]
 have g1:∀n,n<c->t1[n]? =t[n]? :=fun n hn=>by simp only[t1];rw[Za (by omega),Za (by omega)]
 have gc:t1[c]? =some (.one (.arr 0)):=by simp only[t1];rw[Za (by omega)];exact Zd (by omega)
 have gd:t1[c+1]? =some (aa .i64 i):=by simp only[t1];exact Zd (by simp;omega)
 have l1:t1.length=t.length:=by simp[t1]
 clear_value t1
 let t3:=t1.set (c+2) (.one (.ptr 0 i 0))
 have c1:ah (ag Φ ext) [⟨some (c+2), .bM z (.tmp c) (.tmp (c+1)),none⟩] ⟨t1,[.bB z E]⟩=some ⟨t3,[.bB z E]⟩:=by
  simp only[ah,aG,bc,VD hi (ag Φ ext) (t:=t1) (a:=c) (b:=c+1) gc gd,put,t3]
 have l3:t3.length=t.length:=by simp only[t3,ZK];omega
 obtain⟨t4,d1,d2,d3,d4⟩:=Bb (call:=ag Φ ext) (o:=0) (i:=i) (p:=x.p) (c:=c+2) (j:=0) (t:=t3) (h:=[.bB z E]) (Zd (by omega)) (by omega)
 have low:∀n,n<c->t4[n]? =t[n]? :=fun n hn=>by rw[d4 n (by omega)];simp only[t3];rw[Za (by omega),g1 n hn]
 rw[ZO,hx]at d3
 generalize hw:c+3+x.p.length=w at*
 have aC:c+2+x.p.length<w:=by omega
 let E':=E.set i (dn++(lN mT (.lst rows) k).1::rest)
 have ab:kP (ag Φ ext) [.bB z E] x.f (.one (.sub 0 (i*z+dn.length))) k=some (aa .i64 (cM mT rows k).2,[.bB z E']):=by
  have ar:=UI (z:=z) hE hz ED
  cases rows with
  |nil=>
   have aj:E'=E:=by
    simp only[E',lN,cM]
    refine Zc0 fun n=> ?_
    by_cases hn:n=i
    ·subst hn;rw[Zd hi,hE]
    ·rw[Za (by omega)]
   rw[aj]
   simp only[kP,A',ar,hO.1 k,L.flat,if_true,cM]
  |cons r rs=>
   have ak:wid (r::rs)=us.length:=by simp only[wid];exact kN ((bi hp).2 r (by simp))
   have:=hO.2 (r::rs) hp k h0 hk
   have au:=TW (q:= .lst (cM mT (r::rs) k).1) hE hz
   rw[Qs]at au
   simp only[kP,A',ar,ak,this,L.flat,and_self,if_true,au,ZT,E',lN]
 have r1:((t4.set w (V.one (.sub 0 (i*z+dn.length)))).set (w+1) (aa .i64 k)).getD w (.b9 [])= .one (.sub 0 (i*z+dn.length)):=(dV (by omega)).trans (aI (by omega))
 have r2:((t4.set w (V.one (.sub 0 (i*z+dn.length)))).set (w+1) (aa .i64 k)).getD (w+1) (.b9 [])=aa .i64 k:=aI (by simp;omega)
 have r3:(((t4.set w (V.one (.sub 0 (i*z+dn.length)))).set (w+1) (aa .i64 k)).set (w+2) (aa .i64 (cM mT rows k).2)).getD (w+2) (.b9 [])=aa .i64 (cM mT rows k).2:=aI (by simp;omega)
 have r4:(t4.set w (V.one (.sub 0 (i*z+dn.length)))).getD 1 (.b9 [])=aa .i64 k:=(dV (by omega)).trans (getD_some ((low 1 (by omega)).trans s.t1))
 refine⟨(((t4.set w (V.one (.sub 0 (i*z+dn.length)))).set (w+1) (aa .i64 k)).set (w+2) (aa .i64 (cM mT rows k).2)).set 1 (aa .i64 (cM mT rows k).2),?_,by simp;omega,?_,?_,?_⟩
 ·have a5:(I5 z c x).flatten=Qh c++([⟨some (c+2), .bM z (.tmp c) (.tmp (c+1)),none⟩]++(tn (c+2) x.p++[⟨some w, .bn false 1 (.tmp (c+2+x.p.length)),none⟩,⟨some (w+1), .mv (.tmp 1),none⟩,⟨some (w+2), .bd x.f (.tmp w) (.tmp (w+1)),none⟩,⟨some 1, .mv (.tmp (w+2)),none⟩])):=by
   simp only[I5,hw,List.flatten_cons,List.flatten_nil,Zw,List.append_assoc,Zg,Zi]
  rw[a5,cA _ _ _ a0,cA _ _ _ c1,cA _ _ _ d1]
  simp only[ah,aG,bc,bG,cz,Opd.ev,getD_some d3,qZ,A',hE,ED,and_self,if_true,put,r4,r1,r2,ab,r3,E']
 ·rw[Za (by omega),Za (by omega),Za (by omega),Za (by omega)];exact(low 0 (by omega)).trans s.t0
 ·simp only[lN];exact Zd (by simp;omega)
 ·rw[Za (by omega),Za (by omega),Za (by omega),Za (by omega)];exact(low 5 (by omega)).trans s.t5
def IY (Φ:Nat->Option AFn)(ext:Nat->List V->Option V)(mT:Int->List UInt8):Nat->List PTy->List MC->Prop
 |j, .lst us::ts,x::xs=>x.p.sum=j/\ qj Φ ext mT x.f us/\ IY Φ ext mT (j+1) ts xs
 |j,_::ts,x::xs=>x.p.sum=j/\ IY Φ ext mT (j+1) ts xs
 |_,[],[]=>True
 |_,_,_=>False
def EP :∀(ts:List PTy)(xs:List MC)(c:Nat),c<=mf mt c ts xs
 |[],_,c=>Zn _
 |_::_,[],c=>Zn _
 |t::ts,x::xs,c=>by
  simp only[mf]
  refine Zc ?_ (EP ts xs _)
  cases t<;>simp only[zr]<;>omega
def Qp (hT:Dw Φ ext mT mt){z i:Nat}:∀(ts:List PTy)(xs:List MC){c:Nat}{dn row:List PV}{E:List (List PV)}{k:Int}{t:List V},IY Φ ext mT dn.length ts xs->bF ts row->E[i]? =some (dn++row)->z=dn.length+ts.length->YZ i k t->0<=k->(qe mT row k).2<=xN->12<=c->mf mt c ts xs<=t.length->
 ∃t',ah (ag Φ ext) (R5 z mt c ts xs).flatten ⟨t,[.bB z E]⟩=some ⟨t',[.bB z (E.set i (dn++(qe mT row k).1))]⟩/\ t'.length=t.length/\ YZ i (qe mT row k).2 t'
 |[],xs,c,dn,row,E,k,t,hm,hr,hE,hz,s,h0,hk,hc,hl=>by
  obtain rfl:=fv hr
  have hi:i<E.length:=(Zb.1 hE).1
  have aj:E.set i (dn++(qe mT [] k).1)=E:=by
   simp only[qe]
   refine Zc0 fun n=> ?_
   by_cases hn:n=i
   ·subst hn;rw[Zd hi,hE]
   ·rw[Za (by omega)]
  rw[aj]
  cases xs<;>exact⟨t,rfl,rfl,by simpa only[qe]using s⟩
 |ty::ts,[],c,dn,row,E,k,t,hm,hr,hE,hz,s,h0,hk,hc,hl=>by cases ty<;>exact hm.elim
 |ty::ts,x::xs,c,dn,row,E,k,t,hm,hr,hE,hz,s,h0,hk,hc,hl=>by
  obtain⟨p,rest,rfl,hp,ax⟩:=ee hr
  have hi:i<E.length:=(Zb.1 hE).1
  have hle:=Cq mT rest (lN mT p k).2
  have ad:=OO mT p k
  simp only[qe]at hk
  simp only[mf]at hl
  have hN:=EP (mt:=mt) ts xs (zr mt c ty x)
  have ae:IY Φ ext mT (dn++[(lN mT p k).1]).length ts xs:=by
   have:(dn++[(lN mT p k).1]).length=dn.length+1:=by simp
   rw[this]
   cases ty<;>first|exact hm.2|exact hm.2.2
  have hx:x.p.sum=dn.length:=by cases ty<;>exact hm.1
  have cell:∃t',ah (ag Φ ext) (PO z mt c ty x).flatten ⟨t,[.bB z E]⟩=some ⟨t',[.bB z (E.set i (dn++(lN mT p k).1::rest))]⟩/\ t'.length=t.length/\ YZ i (lN mT p k).2 t':=by
   by_cases hf:ty.flatT=true
   ·have hR:PO z mt c ty x=Fb z mt c ty x:=by cases ty<;>first|rfl|cases hf
    have ay:zr mt c ty x=c+6+(xy mt c ty).length+x.p.length:=by cases ty<;>first|rfl|cases hf
    rw[hR]
    have:=(AB (mT:=mT) hp hf k).2.2
    exact Q4 hT hp hf s h0 (by omega) hc hE hx (by omega)
   ·cases ty with
    |lst us=>
     obtain⟨rows,rfl⟩:=pg hp
     have ay:zr mt c (.lst us) x=c+6+x.p.length:=rfl
     simp only[lN]at hle hk
     exact Q5 hm.2.1 hp s h0 (by omega) hc hE (by rw[hz];simp) hx (by omega)
    |_=>exact absurd rfl hf
  obtain⟨t1,e1,e2,e3⟩:=cell
  have aD:c<=zr mt c ty x:=by cases ty<;>simp only[zr]<;>omega
  obtain⟨t2,f1,f2,f3⟩:=Qp hT (z:=z) (i:=i) ts xs (c:=zr mt c ty x) (dn:=dn++[(lN mT p k).1]) (row:=rest) (E:=E.set i (dn++(lN mT p k).1::rest)) (k:=(lN mT p k).2) (t:=t1) ae ax (by rw[Zd hi];simp) (by rw[hz];simp;omega) e3 (by omega) hk (by omega) (by omega)
  refine⟨t2,?_,by omega,by simp only[qe];exact f3⟩
  simp only[R5,List.flatten_append]
  rw[cA _ _ _ e1,f1]
  simp only[List.set_set,qe,List.append_assoc,Zg,Zi]
def RU (hT:Dw Φ ext mT mt){ts:List PTy}{xs:List MC}(hm:IY Φ ext mT 0 ts xs):∀(rest done:List (List PV))(k:Int)(t:List V),YZ done.length k t->(∀r∈rest,bF ts r)->0<=k->(cM mT rest k).2<=xN->done.length+rest.length<=maxLen->mf mt 12 ts xs<=t.length->
 ∃t',aF (ap (ag Φ ext) aF (Dd mt ts xs)) ⟨t,[.bB ts.length (done++rest)]⟩=some (.exit 0,⟨t',[.bB ts.length (done++(cM mT rest k).1)]⟩)/\ t'.length=t.length/\ t'[1]? =some (aa .i64 (cM mT rest k).2):=by
 intro rest
 have hN:=EP (mt:=mt) ts xs 12
 have head:∀(done rest:List (List PV))(k:Int)(t:List V),YZ done.length k t->mf mt 12 ts xs<=t.length->∃t',ap (ag Φ ext) aF (Tv 5 0 6) ⟨t,[.bB ts.length (done++rest)]⟩=some (if 0<rest.length then .normal else .exit 0,⟨t',[.bB ts.length (done++rest)]⟩)/\ t'.length=t.length/\ YZ done.length k t':=by
  intro done rest k t s hl
  let t1:=(((t.set 6 (aa .i64 done.length)).set 7 (.one (.arr 0))).set 8 (aa .i64 (done++rest).length)).set 9 (az (decide (0<rest.length)))
  have e0:=getD_some s.t5
  have e1:(t.set 6 (aa .i64 done.length)).getD 0 (.b9 [])= .one (.arr 0):=(dV (by omega)).trans (getD_some s.t0)
  have e2:((t.set 6 (aa .i64 done.length)).set 7 (.one (.arr 0))).getD 7 (.b9 [])= .one (.arr 0):=aI (by simp;omega)
  have e3:(((t.set 6 (aa .i64 done.length)).set 7 (.one (.arr 0))).set 8 (aa .i64 (done++rest).length)).getD 6 (.b9 [])=aa .i64 done.length:=(dV (by omega)).trans ((dV (by omega)).trans (aI (by omega)))
  have e4:(((t.set 6 (aa .i64 done.length)).set 7 (.one (.arr 0))).set 8 (aa .i64 (done++rest).length)).getD 8 (.b9 [])=aa .i64 (done++rest).length:=aI (by simp;omega)
  have e5:t1.getD 9 (.b9 [])=az (decide (0<rest.length)):=aI (by simp;omega)
  have e6:asList (lent [Y0.bB ts.length (done++rest)]) (.one (.arr 0))=some (done++rest):=rfl
  have e7:decide ((done.length:Int)<((done++rest).length:Int))=decide (0<rest.length):=by
   simp only[Zu]
   by_cases h:0<rest.length
   ·rw[decide_eq_true h,decide_eq_true (by omega)]
   ·rw[decide_eq_false h,decide_eq_false (by omega)]
  refine⟨t1,?_,by simp[t1],?_,?_,?_⟩
  ·simp only[Tv,ap,ah,aG,bc,bG,Opd.ev,e0,put,e1,e2,e6,e3,e4,bin,if_true,cG,e7]
   have av:=e5
   simp only[t1]at av
   rw[av]
   by_cases h:0<rest.length
   ·simp only[isBool,h,decide_true,if_true,t1]
   ·simp only[isBool,h,decide_false,Zy,if_false,t1]
  ·simp only[t1];rw[Za (by omega),Za (by omega),Za (by omega),Za (by omega)];exact s.t0
  ·simp only[t1];rw[Za (by omega),Za (by omega),Za (by omega),Za (by omega)];exact s.t1
  ·simp only[t1];rw[Za (by omega),Za (by omega),Za (by omega),Za (by omega)];exact s.t5
 induction rest with
 |nil=>
  intro done k t s hr h0 hk hlen hl
  obtain⟨t',a1,a2,a3⟩:=head done [] k t s hl
  refine⟨t',jt ?_ (by simp),a2,by simp only[cM];exact a3.t1⟩
  simp only[Dd,ap,a1,Zx,Nat.lt_irrefl,if_false,cM]
 |cons r rest ih=>
  intro done k t s hr h0 hk hlen hl
  obtain⟨t1,a1,a2,a3⟩:=head done (r::rest) k t s hl
  simp only[cM]at hk
  have hle:=pW mT rest (qe mT r k).2
  have aE:=Cq mT r k
  obtain⟨t2,b1,b2,b3⟩:=Qp hT (z:=ts.length) (i:=done.length) ts xs (c:=12) (dn:=[]) (row:=r) (E:=done++r::rest) (k:=k) (t:=t1) hm (hr r (by simp)) (by rw[Zk (Zn _),Zb6];rfl) (by simp) a3 h0 (by omega) (Zn _) (by omega)
  have an:(done++r::rest).set done.length ([]++(qe mT r k).1)=(done++[(qe mT r k).1])++rest:=by
   rw[Zc6 _ _ (Zn _),Zb6,ZT];simp
  rw[an]at b1
  simp only[Zo]at hlen
  have hw:=lm (k:=done.length) (by unfold maxLen at hlen;omega)
  let t3:=((t2.set 10 (aa .i64 done.length)).set 11 (aa .i64 ((done.length:Int)+1))).set 5 (aa .i64 ((done.length:Int)+1))
  have f0:=getD_some b3.t5
  have f1:(t2.set 10 (aa .i64 done.length)).getD 10 (.b9 [])=aa .i64 done.length:=aI (by omega)
  have f2:((t2.set 10 (aa .i64 done.length)).set 11 (aa .i64 ((done.length:Int)+1))).getD 11 (.b9 [])=aa .i64 ((done.length:Int)+1):=aI (by simp;omega)
  have f3:∀h,ap (ag Φ ext) aF (Kj 5 10) ⟨t2,h⟩=some (.normal,⟨t3,h⟩):=fun h=>by
   simp only[Kj,ap,ah,aG,bc,bG,Opd.ev,f0,put,f1,bin,if_true,cG,hw,f2,t3]
  have s3:YZ (done++[(qe mT r k).1]).length (qe mT r k).2 t3:=by
   have af:(done++[(qe mT r k).1]).length=done.length+1:=by simp
   rw[af]
   refine⟨?_,?_,?_⟩
   ·simp only[t3];rw[Za (by omega),Za (by omega),Za (by omega)];exact b3.t0
   ·simp only[t3];rw[Za (by omega),Za (by omega),Za (by omega)];exact b3.t1
   ·simp only[t3];exact Zd (by simp;omega)
  obtain⟨t4,g1,g2,g3⟩:=ih (done++[(qe mT r k).1]) (qe mT r k).2 t3 s3 (fun r m=>hr r (by simp[m])) (by omega) hk (by simp;omega) (by simp[t3];omega)
  refine⟨t4,(gF (Z':=⟨t3,[.bB ts.length (done++[(qe mT r k).1]++rest)]⟩) ?_).trans ?_,by rw[g2];simp[t3];omega,by simp only[cM];exact g3⟩
  ·have hb:=Nl (lp:=aF) b1
   simp only[Dd,ap,a1,Zo,Nat.zero_lt_succ,if_true,hb,f3]
  ·rw[g1]
   simp only[cM,List.append_assoc,Zg,Zi]
end
def nf (ops:List Z0):Bool:=ops.all fun o=>o.op.bY
def Qj (a b:List Z0):nf (a++b)=(nf a&&nf b):=by simp[nf]
def GU (a:Z0)(b:List Z0):nf (a::b)=(a.op.bY&&nf b):=by simp[nf]
def Cs :∀(p:List Nat)(c:Nat),nf (tn c p)=true
 |[],c=>rfl
 |d::ds,c=>by simp only[tn,GU,Cs ds,AOp.bY,ZU]
def U9 (mt c:Nat)(t:PTy):nf (xy mt c t)=true:=by
 cases t with
 |int κ=>cases κ<;>rfl
 |_=>rfl
def TT (z mt c:Nat)(t:PTy)(x:MC):∀r∈PO z mt c t x,nf r=true:=by
 have nil:nf []=true:=rfl
 have hS:∀t,∀r∈Fb z mt c t x,nf r=true:=by
  intro t r hr
  simp only[Fb,ZL,List.not_mem_nil,or_false]at hr
  rcases hr with rfl|rfl
  ·simp only[Qh,Zg,Zi,GU,Qj,U9,Cs,AOp.bY,nil,ZU]
  ·rfl
 have hT:∀r∈I5 z c x,nf r=true:=by
  intro r hr
  simp only[I5,ZL,List.not_mem_nil,or_false]at hr
  subst hr
  simp only[Qh,Zg,Zi,GU,Qj,Cs,AOp.bY,nil,ZU]
 cases t<;>first|exact hT|exact hS _
def Qk (z mt:Nat):∀(ts:List PTy)(xs:List MC)(c:Nat),∀r∈R5 z mt c ts xs,nf r=true
 |[],xs,c,r,hr=>by cases xs<;>cases hr
 |t::ts,[],c,r,hr=>by cases hr
 |t::ts,x::xs,c,r,hr=>by
  simp only[R5,H']at hr
  rcases hr with hr|hr
  ·exact TT z mt c t x r hr
  ·exact Qk z mt ts xs _ r hr
def MY :∀(rs:List (List Z0)),(∀r∈rs,nf r=true)->(O3 rs).bY=true
 |[],_=>rfl
 |[a],h=>h a (by simp)
 |a::b::r,h=>by
  have h1:=h a (by simp)
  have h2:=MY (b::r) (fun x m=>h x (by simp only[ZL]at m⊢;exact .inr m))
  simp only[O3,Y5.bY,h2,C']
  exact h1
def MX (mt:Nat)(ts:List PTy)(xs:List MC):(gC mt ts xs).body.bY=true:=by
 have:=MY _ (Qk ts.length mt ts xs 12)
 simp only[gC,Dd,Tv,Kj,Y5.bY,this,C',Za6]
 rfl
section
variable {Φ:Nat->Option AFn}{ext:Nat->List V->Option V}{mT:Int->List UInt8}{mt:Nat}
def fG (hT:Dw Φ ext mT mt){f:Nat}{ts:List PTy}{xs:List MC}(hk:Φ f=some (gC mt ts xs))(hn:Φ (f+fH)=none)(hm:IY Φ ext mT 0 ts xs):qj Φ ext mT f ts:=by
 have hN:=EP (mt:=mt) ts xs 12
 obtain⟨m,aw⟩:∃m,mf mt 12 ts xs+1-2=m+11:=⟨mf mt 12 ts xs-12,by omega⟩
 constructor
 ·intro k
  refine vq hn hk (MX mt ts xs) ?_
  have e0:asList (lent []) (bY [])=some []:=rfl
  have a7:∃t',fB Φ ext (gC mt ts xs).body (jx (gC mt ts xs) [bY [],aa .i64 k])=some (.ret,⟨t',[]⟩)/\ t'.getD 4 (.b9 [])=aa .i64 k:=by
   have ao:jx (gC mt ts xs) [bY [],aa .i64 k]=⟨bY []::aa .i64 k::List.replicate (m+11) (.b9 []),[]⟩:=by
    simp only[jx,ed,thaw,thawL,gC,Zo,Zx,Zz,Zg,Zi,aw]
   rw[ao]
   have hl:(bY []::aa .i64 k::List.replicate (m+11) (V.b9 [])).length=mf mt 12 ts xs+1:=by simp;omega
   generalize ad:aF (ap (ag Φ ext) aF (Dd mt ts xs))=lp
   have ai:∀u2 u3 u4 u6 u7 u8 u9(r:List V),lp ⟨bY []::aa .i64 k::u2::u3::u4::aa .i64 0::u6::u7::u8::u9::r,[]⟩=some (.exit 0,⟨bY []::aa .i64 k::u2::u3::u4::aa .i64 0::aa .i64 0::bY []::aa .i64 0::az false::r,[]⟩):=by
    intro u2 u3 u4 u6 u7 u8 u9 r
    rw[<-ad]
    refine jt ?_ (by simp)
    simp[Dd,Tv,ap,ah,aG,bc,bG,Opd.ev,put,e0,bin,cG,isBool]
   have a8:List.replicate (m+11) (V.b9 [])= .b9 []:: .b9 []:: .b9 []:: .b9 []:: .b9 []:: .b9 []:: .b9 []:: .b9 []::List.replicate (m+3) (.b9 []):=rfl
   rw[a8]at hl⊢
   let w:List V:=bY []::aa .i64 k:: .b9 []:: .b9 []::aa .i64 0::aa .i64 0::aa .i64 0::bY []::aa .i64 0::az false::List.replicate (m+3) (.b9 [])
   have aH:w.length=mf mt 12 ts xs+1:=by simp only[w,Zo,List.length_replicate]at hl⊢;omega
   have q1:w.getD 1 (.b9 [])=aa .i64 k:=rfl
   have q2:(w.set (mf mt 12 ts xs) (aa .i64 k)).getD (mf mt 12 ts xs) (.b9 [])=aa .i64 k:=aI (by omega)
   refine⟨(w.set (mf mt 12 ts xs) (aa .i64 k)).set 4 (aa .i64 k),?_,aI (by simp;omega)⟩
   have a6:ap (ag Φ ext) aF (.seq (.region [⟨some (mf mt 12 ts xs), .mv (.tmp 1),none⟩,⟨some 4, .mv (.tmp (mf mt 12 ts xs)),none⟩]) .ret) ⟨w,[]⟩=some (.ret,⟨(w.set (mf mt 12 ts xs) (aa .i64 k)).set 4 (aa .i64 k),[]⟩):=by
    simp only[ap,ah,aG,bc,bG,Opd.ev,q1,put,q2]
   generalize aq:Y5.seq (.region [⟨some (mf mt 12 ts xs), .mv (.tmp 1),none⟩,⟨some 4, .mv (.tmp (mf mt 12 ts xs)),none⟩]) .ret=ec at a6
   simp only[fB,gC,aq,ap,ah,aG,bc,bG,Opd.ev,put,U',ZT,ad,ai,if_true]
   exact a6
  obtain⟨t',r1,r2⟩:=a7
  rw[r1]
  simp only[xD,Iv,gC,aZ,am,cj,r2,Y',Zb3,Zw,V.cells,bS,comp,aO,bJ,ed,thaw,thawL,Zx,ZQ,iv,L.flat,if_true]
  rfl
 ·intro rows h k h0 aA
  obtain⟨aB,hr⟩:=bi h
  refine vq hn hk (MX mt ts xs) ?_
  have ao:jx (gC mt ts xs) [.one (.down ts.length rows),aa .i64 k]=⟨.one (.arr 0)::aa .i64 k::List.replicate (m+11) (.b9 []),[.bB ts.length rows]⟩:=by
   simp only[jx,ed,thaw,thawL,gC,Zo,Zx,Zv,Zz,Zg,Zi,Y0.zone,aw]
  let t0:List V:= .one (.arr 0)::aa .i64 k:: .b9 []:: .b9 []::aa .i64 0::aa .i64 0::List.replicate (m+7) (.b9 [])
  have aK:t0.length=mf mt 12 ts xs+1:=by simp[t0];omega
  obtain⟨t',a1,a2,a3⟩:=RU hT hm rows [] k t0 ⟨rfl,rfl,rfl⟩ hr h0 aA (by simpa using aB) (by omega)
  simp only[Zi]at a1
  have q1:t'.getD 1 (.b9 [])=aa .i64 (cM mT rows k).2:=getD_some a3
  have q2:(t'.set (mf mt 12 ts xs) (aa .i64 (cM mT rows k).2)).getD (mf mt 12 ts xs) (.b9 [])=aa .i64 (cM mT rows k).2:=aI (by omega)
  have a6:ap (ag Φ ext) aF (.seq (.region [⟨some (mf mt 12 ts xs), .mv (.tmp 1),none⟩,⟨some 4, .mv (.tmp (mf mt 12 ts xs)),none⟩]) .ret) ⟨t',[.bB ts.length (cM mT rows k).1]⟩=some (.ret,⟨(t'.set (mf mt 12 ts xs) (aa .i64 (cM mT rows k).2)).set 4 (aa .i64 (cM mT rows k).2),[.bB ts.length (cM mT rows k).1]⟩):=by
   simp only[ap,ah,aG,bc,bG,Opd.ev,q1,put,q2]
  have q3:((t'.set (mf mt 12 ts xs) (aa .i64 (cM mT rows k).2)).set 4 (aa .i64 (cM mT rows k).2)).getD 4 (.b9 [])=aa .i64 (cM mT rows k).2:=aI (by simp;omega)
  have a7:fB Φ ext (gC mt ts xs).body (jx (gC mt ts xs) [.one (.down ts.length rows),aa .i64 k])=some (.ret,⟨(t'.set (mf mt 12 ts xs) (aa .i64 (cM mT rows k).2)).set 4 (aa .i64 (cM mT rows k).2),[.bB ts.length (cM mT rows k).1]⟩):=by
   rw[ao]
   generalize aq:Y5.seq (.region [⟨some (mf mt 12 ts xs), .mv (.tmp 1),none⟩,⟨some 4, .mv (.tmp (mf mt 12 ts xs)),none⟩]) .ret=ec at a6
   have a8:List.replicate (m+11) (V.b9 [])= .b9 []:: .b9 []:: .b9 []:: .b9 []::List.replicate (m+7) (.b9 []):=rfl
   generalize ad:aF (ap (ag Φ ext) aF (Dd mt ts xs))=lp at a1
   simp only[t0]at a1
   simp only[fB,gC,aq,a8,ap,ah,aG,bc,bG,Opd.ev,put,U',ZT,ad,a1,if_true]
   exact a6
  rw[a7]
  simp only[xD,Iv,gC,aZ,am,cj,q3,Y',Zb3,Zw,V.cells,bS,comp,aO,bJ,ed,thaw,thawL,Zi,Zo,Zx,ZO,List.take_succ_cons,ZQ,iv,L.flat,if_true]
  rfl
end
end Gi
