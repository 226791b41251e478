/- Of this proof. -/
import Derived.Test.YtebnmoogdmpepaaGreatGpn
set_option linter.unusedSimpArgs false
set_option linter.unusedVariables false
namespace Gi
open Go Go.RowKit
section
variable (mT:Int→List UInt8)
def fL :List PV→Int→List PV×Int
 |[],k=>([],k)
 | .lst rows::ps,k=>(.lst (cN mT rows k).1::(fL ps (cN mT rows k).2).1,(fL ps (cN mT rows k).2).2)
 |p::ps,k=>(p::(fL ps k).1,(fL ps k).2)
end
theorem lW (mT:Int→List UInt8):∀(a b:List PV)(k:Int),fL mT (a++b) k=((fL mT a k).1++(fL mT b (fL mT a k).2).1,(fL mT b (fL mT a k).2).2)
 |[],b,k=>by simp only[Zi,fL]
 | .lst rows::a,b,k=>by simp only[Zg,fL,lW mT a b]
 | .int _ _::a,b,k=>by simp only[Zg,fL,lW mT a b]
 | .bool _::a,b,k=>by simp only[Zg,fL,lW mT a b]
 | .str _::a,b,k=>by simp only[Zg,fL,lW mT a b]
theorem nC (mT:Int→List UInt8):∀(a:List PV)(k:Int),k≤(fL mT a k).2
 |[],k=>by simp only[fL];omega
 | .lst rows::a,k=>by
  simp only[fL]
  have:=pq mT rows k
  have:=nC mT a (cN mT rows k).2
  omega
 | .int _ _::a,k=>by simp only[fL];exact nC mT a k
 | .bool _::a,k=>by simp only[fL];exact nC mT a k
 | .str _::a,k=>by simp only[fL];exact nC mT a k
def Kk :List PTy→List PV→List L
 | .lst us::ts, .lst rows::ps=> .down us.length rows::Kk ts ps
 |_::ts,p::ps=> .pv p::Kk ts ps
 |_,_=>[]
def iq :List PTy→List PV→List AObj
 | .lst us::ts, .lst rows::ps=> .zarr us.length rows::iq ts ps
 |_::ts,_::ps=>iq ts ps
 |_,_=>[]
def jN :Nat→List PTy→List PV→List L
 |j, .lst us::ts, .lst rows::ps=> .arr j::jN (j+1) ts ps
 |j,_::ts,p::ps=> .pv p::jN j ts ps
 |_,_,_=>[]
def QF :List PTy→List PV→List (Bool×List L)
 | .lst us::ts, .lst rows::ps=>(false,[.down us.length rows])::QF ts ps
 |_::ts,_::ps=>QF ts ps
 |_,_=>[]
theorem gy {P:List PTy→List PV→Prop}(nil:P [] [])(lst:∀us rows ts ps,oQ (.lst us) (.lst rows)→bM ts ps→P ts ps→P (.lst us::ts) (.lst rows::ps))(flat:∀t p ts ps,oQ t p→t.flatT=true→p.flat=true→bM ts ps→P ts ps→P (t::ts) (p::ps)):∀(ts:List PTy)(ps:List PV),bM ts ps→P ts ps
 |[],ps,h=>by rw[fF h];exact nil
 | .lst us::ts,ps,h=>by
  obtain⟨p,r,rfl,h1,h2⟩:=eD h
  obtain⟨rows,rfl⟩:=oE h1
  exact lst us rows ts r h1 h2 (gy nil lst flat ts r h2)
 | .int κ::ts,ps,h=>by
  obtain⟨p,r,rfl,h1,h2⟩:=eD h
  obtain⟨n,rfl⟩:=mP h1
  exact flat _ _ ts r h1 rfl rfl h2 (gy nil lst flat ts r h2)
 | .bool::ts,ps,h=>by
  obtain⟨p,r,rfl,h1,h2⟩:=eD h
  obtain⟨n,rfl⟩:=lB h1
  exact flat _ _ ts r h1 rfl rfl h2 (gy nil lst flat ts r h2)
 | .str::ts,ps,h=>by
  obtain⟨p,r,rfl,h1,h2⟩:=eD h
  obtain⟨n,rfl⟩:=kM h1
  exact flat _ _ ts r h1 rfl rfl h2 (gy nil lst flat ts r h2)
theorem KQ {t:PTy}{p:PV}{ts:List PTy}{ps:List PV}(ht:t.flatT=true):Kk (t::ts) (p::ps)= .pv p::Kk ts ps:=by cases t<;>first|rfl|cases ht
theorem iC {t:PTy}{p:PV}{ts:List PTy}{ps:List PV}(ht:t.flatT=true):iq (t::ts) (p::ps)=iq ts ps:=by cases t<;>first|rfl|cases ht
theorem mR {t:PTy}{p:PV}{ts:List PTy}{ps:List PV}{j:Nat}(ht:t.flatT=true):jN j (t::ts) (p::ps)= .pv p::jN j ts ps:=by cases t<;>first|rfl|cases ht
theorem LI {t:PTy}{p:PV}{ts:List PTy}{ps:List PV}(ht:t.flatT=true):QF (t::ts) (p::ps)=QF ts ps:=by cases t<;>first|rfl|cases ht
theorem qV (mT:Int→List UInt8){p:PV}{ps:List PV}{k:Int}(hp:p.flat=true):fL mT (p::ps) k=(p::(fL mT ps k).1,(fL mT ps k).2):=by cases p<;>first|rfl|cases hp
theorem IT {ts:List PTy}{ps:List PV}(h:bM ts ps):∀j,(jN j ts ps).length=ts.length:=by
 refine gy (P:=fun ts ps=>∀j,(jN j ts ps).length=ts.length) (fun j=>rfl) ?_ ?_ ts ps h
 ·intro us rows ts ps _ _ ih j
  simp only[jN,Zo,ih]
 ·intro t p ts ps _ ht hp _ ih j
  rw[mR ht]
  simp only[Zo,ih]
theorem TW {ts:List PTy}{ps:List PV}(h:bM ts ps):∀hh:List AObj,∃ds,thawL hh (Kk ts ps)=(jN hh.length ts ps,hh++ds)∧ds.map AObj.zone=iq ts ps:=by
 refine gy (P:=fun ts ps=>∀hh:List AObj,∃ds,thawL hh (Kk ts ps)=(jN hh.length ts ps,hh++ds)∧ds.map AObj.zone=iq ts ps) ?_ ?_ ?_ ts ps h
 ·intro hh;exact⟨[],by simp[Kk,thawL,jN],rfl⟩
 ·intro us rows ts ps _ _ ih hh
  obtain⟨ds,e1,e2⟩:=ih (hh++[.darr us.length rows])
  refine⟨.darr us.length rows::ds,?_,by simp only[Zv,e2,AObj.zone,iq]⟩
  simp only[Kk,thawL,e1,jN,Zw,Z7,Zp,Zg,Zi]
 ·intro t p ts ps _ ht hp _ ih hh
  obtain⟨ds,e1,e2⟩:=ih hh
  refine⟨ds,?_,by rw[e2,iC ht]⟩
  rw[KQ ht,mR ht]
  simp only[thawL,e1]
theorem PC {p:PV}(h:p.flat=true):p.bare=true:=by cases p<;>first|rfl|cases h
theorem OO {ts:List PTy}{ps:List PV}(h:bM ts ps):∀(pre post:List AObj),mG (pre++iq ts ps++post) (jN pre.length ts ps)=some (Kk ts ps):=by
 refine gy (P:=fun ts ps=>∀(pre post:List AObj),mG (pre++iq ts ps++post) (jN pre.length ts ps)=some (Kk ts ps)) (fun _ _=>rfl) ?_ ?_ ts ps h
 ·intro us rows ts ps _ _ ih pre post
  have:=ih (pre++[.zarr us.length rows]) post
  simp only[Zw,Z7,Zp,Zg,Zi]at this
  have hg:(pre++(AObj.zarr us.length rows::(iq ts ps++post)))[pre.length]? =some (.zarr us.length rows):=by
   rw[Zk (Zm _),Xi];rfl
  simp only[iq,jN,Kk,Zp,Zg,mG,zM,hg,this]
 ·intro t p ts ps _ ht hp _ ih pre post
  rw[KQ ht,mR ht,iC ht]
  have hb:PV.bare _=true:=PC hp
  simp only[mG,zM,hb,if_true,ih pre post]
theorem Tf {ts:List PTy}{ps:List PV}(h:bM ts ps):∀(j:Nat),(ai (jN j ts ps)).Nodup∧∀o∈ai (jN j ts ps),j≤o:=by
 refine gy (P:=fun ts ps=>∀(j:Nat),(ai (jN j ts ps)).Nodup∧∀o∈ai (jN j ts ps),j≤o) (fun j=>⟨List.nodup_nil,fun o ho=>by cases ho⟩) ?_ ?_ ts ps h
 ·intro us rows ts ps _ _ ih j
  obtain⟨h1,h2⟩:=ih (j+1)
  have e:ai (jN j (.lst us::ts) (.lst rows::ps))=j::ai (jN (j+1) ts ps):=by simp[jN,ai]
  rw[e]
  refine⟨Yz.2 ⟨fun hm=>by have:=h2 _ hm;omega,h1⟩,fun o ho=> ?_⟩
  rcases Z8.1 ho with rfl|ho
  ·exact Zm _
  ·have:=h2 o ho;omega
 ·intro t p ts ps _ ht hp _ ih j
  have e:ai (jN j (t::ts) (p::ps))=ai (jN j ts ps):=by rw[mR ht];simp[ai]
  rw[e];exact ih j
theorem UI (mT:Int→List UInt8){ts:List PTy}{ps:List PV}(h:bM ts ps):∀(pre post:List AObj)(k:Int),kV (pre++iq ts ps++post) (ai (jN pre.length ts ps)) (QF ts (fL mT ps k).1)=some (pre++iq ts (fL mT ps k).1++post):=by
 refine gy (P:=fun ts ps=>∀(pre post:List AObj)(k:Int),kV (pre++iq ts ps++post) (ai (jN pre.length ts ps)) (QF ts (fL mT ps k).1)=some (pre++iq ts (fL mT ps k).1++post)) (fun _ _ _=>rfl) ?_ ?_ ts ps h
 ·intro us rows ts ps _ _ ih pre post k
  have:=ih (pre++[.zarr us.length (cN mT rows k).1]) post (cN mT rows k).2
  simp only[Zw,Z7,Zp,Zg,Zi]at this
  have e:ai (jN pre.length (.lst us::ts) (.lst rows::ps))=pre.length::ai (jN (pre.length+1) ts ps):=by simp[jN,ai]
  rw[e]
  simp only[fL,iq,QF,kV,Zp,Zg]
  rw[List.set_append_right _ _ (Zm _),Xi,Ye,this]
 ·intro t p ts ps _ ht hp _ ih pre post k
  have e:ai (jN pre.length (t::ts) (p::ps))=ai (jN pre.length ts ps):=by rw[mR ht];simp[ai]
  rw[e,qV mT hp,iC ht,iC ht,LI ht]
  exact ih pre post k
theorem TP (mT:Int→List UInt8){ts:List PTy}{ps:List PV}(h:bM ts ps):∀k,ic (iq ts (fL mT ps k).1)=some (QF ts (fL mT ps k).1):=by
 refine gy (P:=fun ts ps=>∀k,ic (iq ts (fL mT ps k).1)=some (QF ts (fL mT ps k).1)) (fun _=>rfl) ?_ ?_ ts ps h
 ·intro us rows ts ps _ _ ih k
  simp only[fL,iq,ic,ih,QF]
 ·intro t p ts ps _ ht hp _ ih k
  rw[qV mT hp,iC ht,LI ht,ih]
theorem GI (mT:Int→List UInt8){ts:List PTy}{ps:List PV}(h:bM ts ps):∀k,(iq ts (fL mT ps k).1).length=(iq ts ps).length:=by
 refine gy (P:=fun ts ps=>∀k,(iq ts (fL mT ps k).1).length=(iq ts ps).length) (fun _=>rfl) ?_ ?_ ts ps h
 ·intro us rows ts ps _ _ ih k
  simp only[fL,iq,Zo,ih]
 ·intro t p ts ps _ ht hp _ ih k
  rw[qV mT hp,iC ht,iC ht,ih]
theorem Kj {ts us:List PTy}{a b:List PV}(h:bM ts a):iq (ts++us) (a++b)=iq ts a++iq us b:=by
 refine gy (P:=fun ts a=>iq (ts++us) (a++b)=iq ts a++iq us b) rfl ?_ ?_ ts a h
 ·intro us rows ts ps _ _ ih
  simp only[Zg,iq,ih]
 ·intro t p ts ps _ ht hp _ ih
  simp only[Zg]
  rw[iC ht,iC ht,ih]
theorem Ix (mT:Int→List UInt8){ts us:List PTy}{a b:List PV}(h:bM ts a):∀k,iq (ts++us) ((fL mT a k).1++b)=iq ts (fL mT a k).1++iq us b:=by
 refine gy (P:=fun ts a=>∀k,iq (ts++us) ((fL mT a k).1++b)=iq ts (fL mT a k).1++iq us b) (fun _=>rfl) ?_ ?_ ts a h
 ·intro us rows ts ps _ _ ih k
  simp only[fL,Zg,iq,ih]
 ·intro t p ts ps _ ht hp _ ih k
  rw[qV mT hp]
  simp only[Zg]
  rw[iC ht,iC ht,ih]
theorem M5 {ts us:List PTy}{a b:List PV}(h:bM ts a):∀j,jN j (ts++us) (a++b)=jN j ts a++jN (j+(iq ts a).length) us b:=by
 refine gy (P:=fun ts a=>∀j,jN j (ts++us) (a++b)=jN j ts a++jN (j+(iq ts a).length) us b) (fun j=>rfl) ?_ ?_ ts a h
 ·intro us rows ts ps _ _ ih j
  simp only[Zg,jN,iq,Zo,ih]
  rw[show j+1+(iq ts ps).length=j+((iq ts ps).length+1) by omega]
 ·intro t p ts ps _ ht hp _ ih j
  simp only[Zg]
  rw[mR ht,mR ht,iC ht,ih]
  rfl
theorem RA {ts:List PTy}{ps:List PV}(h:bM ts ps):∀j,(jN j ts ps).all plain=true:=by
 refine gy (P:=fun ts ps=>∀j,(jN j ts ps).all plain=true) (fun j=>rfl) ?_ ?_ ts ps h
 ·intro us rows ts ps _ _ ih j
  simp only[jN,Zr,ih,Y7];rfl
 ·intro t p ts ps _ ht hp _ ih j
  rw[mR ht]
  simp only[Zr,ih,Y7];rfl
inductive MS where
 |k (ts:List PTy)
 |s (ts:List PTy) (f:Nat)
 |l (us:List PTy) (f:Nat)
def MS.ts :MS→List PTy
 | .k ts=>ts
 | .s ts _=>ts
 | .l us _=>[.lst us]
def ib :List MS→List PTy
 |[]=>[]
 |s::ss=>s.ts++ib ss
def Vm (c off:Nat)(g:Bool)(n f:Nat):List AOper:=[⟨some c, .fieldA (.tmp 2) off,none⟩,⟨some (c+1), .loadZ g n (.tmp c),none⟩,⟨some (c+2), .mv (.tmp 1),none⟩,⟨some (c+3), .callM f (.tmp (c+1)) (.tmp (c+2)),none⟩,⟨some 1, .mv (.tmp (c+3)),none⟩]
def Rh :Nat→Nat→List MS→ACode
 |c,_,[]=> .seq (.region [⟨some c, .mv (.tmp 1),none⟩,⟨some 4, .mv (.tmp c),none⟩]) .ret
 |c,off, .k ts::ss=>Rh c (off+ts.length) ss
 |c,off, .s ts f::ss=> .seq (.region (Vm c off true ts.length f)) (Rh (c+4) (off+ts.length) ss)
 |c,off, .l _ f::ss=> .seq (.region (Vm c off false 1 f)) (Rh (c+4) (off+1) ss)
def Ri :Nat→List MS→Nat
 |c,[]=>c
 |c, .k _::ss=>Ri c ss
 |c,_::ss=>Ri (c+4) ss
def sa (ss:List MS):AFn:=⟨Ri 5 ss+1,[.tmp 4], .seq (.region [⟨some 2, .box (.tmp 0),none⟩,⟨some 4, .mv (.pv (.int .i64 0)),none⟩]) (Rh 5 0 ss)⟩
theorem DS :∀(ss:List MS)(c off:Nat),(Rh c off ss).noZ=true
 |[],c,off=>rfl
 | .k ts::ss,c,off=>DS ss c _
 | .s ts f::ss,c,off=>by simp only[Rh,ACode.noZ,DS ss,Y7];rfl
 | .l us f::ss,c,off=>by simp only[Rh,ACode.noZ,DS ss,Y7];rfl
theorem BJ :∀(ss:List MS)(c:Nat),c≤Ri c ss
 |[],c=>Zm _
 | .k ts::ss,c=>BJ ss c
 | .s ts f::ss,c=>Zc (by omega) (BJ ss (c+4))
 | .l us f::ss,c=>Zc (by omega) (BJ ss (c+4))
section
variable {Φ:Nat→Option AFn}{ext:Nat→List V→Option V}{mT:Int→List UInt8}{mt:Nat}
def Pt (Φ:Nat→Option AFn)(ext:Nat→List V→Option V)(mT:Int→List UInt8)(f:Nat)(ts:List PTy):Prop:=
 ∀row:List PV,bM ts row→∀k:Int,0≤k→(fL mT row k).2≤xk→ag Φ ext (f+jX) [.agg (Kk ts row),aa .i64 k]=some (.tup ((false,[.pv (.int .i64 (fL mT row k).2)])::QF ts (fL mT row k).1))
def Ko (Φ:Nat→Option AFn)(ext:Nat→List V→Option V)(mT:Int→List UInt8):List MS→Prop
 |[]=>True
 | .k ts::ss=>ts.all PTy.flatT=true∧Ko Φ ext mT ss
 | .s ts f::ss=>Pt Φ ext mT f ts∧Ko Φ ext mT ss
 | .l us f::ss=>qd Φ ext mT f us∧Ko Φ ext mT ss
theorem Ly {g:Bool}{n f c m:Nat}{C1 C2:List L}{Z1 Z2:List AObj}{ts:List PTy}{x:List PV}{v a:V}{k:Int}{t:List V}(hx:bM ts x)(h1:t[1]? =some (aa .i64 k))(h2:t[2]? =some (.one (.ptr m 0 0)))(hc:5≤c)(hl:c+3<t.length)
 (hb:(Z1++iq ts x++Z2)[m]? =some (.box (C1++C2))) (hcut:fR g n C1.length (C1++C2)=some v) (hv:v.cells=jN Z1.length ts x) (hsub:∀o c,v≠ .one (.sub o c)) (hlend:vo (Z1++iq ts x++Z2) v=some a) (hcall:ag Φ ext (f+jX) [a,aa .i64 k]=some (.tup ((false,[.pv (.int .i64 (fL mT x k).2)])::QF ts (fL mT x k).1))):
 ∃t',ah (ag Φ ext) (Vm c C1.length g n f) ⟨t,Z1++iq ts x++Z2⟩=some ⟨t',Z1++iq ts (fL mT x k).1++Z2⟩∧t'.length=t.length∧t'[1]? =some (aa .i64 (fL mT x k).2)∧t'[2]? =some (.one (.ptr m 0 0)):=by
 have e1:=getD_some h1
 have e2:=getD_some h2
 have q1:(t.set c (V.one (.ptr m 0 C1.length))).getD c (.tup [])= .one (.ptr m 0 C1.length):=aO (by omega)
 have q2:((t.set c (V.one (.ptr m 0 C1.length))).set (c+1) v).getD 1 (.tup [])=aa .i64 k:=(dQ (by omega)).trans ((dQ (by omega)).trans e1)
 have q3:(((t.set c (V.one (.ptr m 0 C1.length))).set (c+1) v).set (c+2) (aa .i64 k)).getD (c+1) (.tup [])=v:=(dQ (by omega)).trans (aO (by simp;omega))
 have q4:(((t.set c (V.one (.ptr m 0 C1.length))).set (c+1) v).set (c+2) (aa .i64 k)).getD (c+2) (.tup [])=aa .i64 k:=aO (by simp;omega)
 have q5:((((t.set c (V.one (.ptr m 0 C1.length))).set (c+1) v).set (c+2) (aa .i64 k)).set (c+3) (aa .i64 (fL mT x k).2)).getD (c+3) (.tup [])=aa .i64 (fL mT x k).2:=aO (by simp;omega)
 have hnd:(ai v.cells).Nodup:=by rw[hv];exact(Tf hx _).1
 have hput:=UI mT hx Z1 Z2 k
 rw[←hv]at hput
 have hM:k9 (ag Φ ext) (Z1++iq ts x++Z2) f v k=some (aa .i64 (fL mT x k).2,Z1++iq ts (fL mT x k).1++Z2):=by
  unfold k9
  split
  ·rename_i o cc;exact absurd rfl (hsub o cc)
  ·simp only[hnd,if_true,hlend,hcall,L.flat,hput]
 refine⟨((((t.set c (V.one (.ptr m 0 C1.length))).set (c+1) v).set (c+2) (aa .i64 k)).set (c+3) (aa .i64 (fL mT x k).2)).set 1 (aa .i64 (fL mT x k).2),?_,by simp,Zd (by simp;omega),by rw[Za (by omega),Za (by omega),Za (by omega),Za (by omega),Za (by omega)];exact h2⟩
 simp only[Vm,ah,aJ,bf,bJ,cI,Opd.ev,e2,put,Yc,q1,sN,hb,bA,if_true,hcut,q2,q3,q4,hM,q5]
theorem DR :∀(ss:List MS),Ko Φ ext mT ss→∀{c:Nat}{C1:List L}{Z1:List AObj}{b:List PV}{k:Int}{t:List V},bM (ib ss) b→0≤k→(fL mT b k).2≤xk→t[1]? =some (aa .i64 k)→t[2]? =some (.one (.ptr (Z1.length+(iq (ib ss) b).length) 0 0))→5≤c→Ri c ss<t.length→
 ∃t',aw (ag Φ ext) aL (Rh c C1.length ss) ⟨t,Z1++iq (ib ss) b++[.box (C1++jN Z1.length (ib ss) b)]⟩=some (.ret,⟨t',Z1++iq (ib ss) (fL mT b k).1++[.box (C1++jN Z1.length (ib ss) b)]⟩)∧t'.getD 4 (.tup [])=aa .i64 (fL mT b k).2
 |[],_,c,C1,Z1,b,k,t,hb,h0,hk,h1,h2,hc,hl=>by
  obtain rfl:=fF hb
  simp only[Ri]at hl
  have q2:(t.set c (aa .i64 k)).getD c (.tup [])=aa .i64 k:=aO hl
  refine⟨(t.set c (aa .i64 k)).set 4 (aa .i64 k),?_,by simp only[fL];exact aO (by simp;omega)⟩
  simp only[Rh,aw,ah,aJ,bf,bJ,Opd.ev,getD_some h1,put,q2,fL]
 | .k ts::ss,hss,c,C1,Z1,b,k,t,hb,h0,hk,h1,h2,hc,hl=>by
  simp only[ib,MS.ts]at hb h2⊢
  obtain⟨x,y,rfl,hx,hy⟩:=lA (ts:=ts) hb
  have flat:∀{ts:List PTy}{x:List PV},bM ts x→ts.all PTy.flatT=true→iq ts x=[]∧∀k,fL mT x k=(x,k):=by
   intro ts x h
   refine gy (P:=fun ts x=>ts.all PTy.flatT=true→iq ts x=[]∧∀k,fL mT x k=(x,k)) (fun _=>⟨rfl,fun _=>rfl⟩) ?_ ?_ ts x h
   ·intro us rows ts ps _ _ _ ha
    simp[PTy.flatT]at ha
   ·intro t p ts ps _ ht hp _ ih ha
    simp only[Zr,Zh]at ha
    obtain⟨i1,i2⟩:=ih ha.2
    exact⟨by rw[iC ht,i1],fun k=>by rw[qV mT hp,i2]⟩
  obtain⟨z0,m0⟩:=flat hx hss.1
  have hm:fL mT (x++y) k=(x++(fL mT y k).1,(fL mT y k).2):=by rw[lW,m0]
  have hlen:(C1++jN Z1.length ts x).length=C1.length+ts.length:=by rw[Zw,IT hx]
  rw[Kj hx,z0,Zi]at h2⊢
  rw[M5 hx,z0,hm]
  simp only[hm]at hk
  have hz2:∀y',iq (ts++ib ss) (x++y')=iq (ib ss) y':=fun y'=>by rw[Kj hx,z0,Zi]
  simp only[hz2,Z4,Xb]
  obtain⟨t',r1,r2⟩:=DR ss hss.2 (c:=c) (C1:=C1++jN Z1.length ts x) (Z1:=Z1) hy h0 hk h1 h2 hc hl
  rw[hlen]at r1
  simp only[Zp]at r1⊢
  exact⟨t',r1,r2⟩
 | .s ts f::ss,hss,c,C1,Z1,b,k,t,hb,h0,hk,h1,h2,hc,hl=>by
  simp only[ib,MS.ts]at hb h2⊢
  obtain⟨x,y,rfl,hx,hy⟩:=lA (ts:=ts) hb
  have hN:=BJ ss (c+4)
  simp only[Ri]at hl
  simp only[lW]at hk
  have hle:=nC mT y (fL mT x k).2
  have hlx:=nC mT x k
  have hcl:=IT hx Z1.length
  rw[Kj hx]at h2⊢
  rw[M5 hx]
  simp only[lW,Ix mT hx]
  generalize hC2:jN (Z1.length+(iq ts x).length) (ib ss) y=C2
  generalize hB:[AObj.box (C1++(jN Z1.length ts x++C2))]=B
  have hcut:fR true ts.length C1.length (C1++(jN Z1.length ts x++C2))=some (.agg (jN Z1.length ts x)):=by
   unfold fR
   rw[if_pos (by simp[hcl]),if_pos rfl,List.drop_left,←hcl,List.take_left]
  obtain⟨t1,a1,a2,a3,a4⟩:=Ly (Φ:=Φ) (ext:=ext) (mT:=mT) (g:=true) (n:=ts.length) (f:=f) (c:=c) (m:=Z1.length+(iq ts x++iq (ib ss) y).length) (C1:=C1) (C2:=jN Z1.length ts x++C2) (Z1:=Z1) (Z2:=iq (ib ss) y++B) (v:= .agg (jN Z1.length ts x)) (a:= .agg (Kk ts x)) hx h1 h2 hc (by omega) (by
   rw[←hB]
   have:Z1++iq ts x++(iq (ib ss) y++[AObj.box (C1++(jN Z1.length ts x++C2))])=(Z1++(iq ts x++iq (ib ss) y))++[AObj.box (C1++(jN Z1.length ts x++C2))]:=by simp
   rw[this,Zk (by simp)]
   simp) hcut rfl (fun _ _ h=>by cases h) (by
   have:=OO hx Z1 (iq (ib ss) y++B)
   simp only[vo,this]) (hss.1 x hx k h0 (by omega))
  obtain⟨t2,b1,b2⟩:=DR ss hss.2 (c:=c+4) (C1:=C1++jN Z1.length ts x) (Z1:=Z1++iq ts (fL mT x k).1) (b:=y) (k:=(fL mT x k).2) (t:=t1) hy (by omega) hk a3 (by rw[a4];simp only[Zw,GI mT hx];congr 3;omega) (by omega) (by omega)
  refine⟨t2,?_,b2⟩
  have hlen:(C1++jN Z1.length ts x).length=C1.length+ts.length:=by rw[Zw,hcl]
  have hpos:(Z1++iq ts (fL mT x k).1).length=Z1.length+(iq ts x).length:=by rw[Zw,GI mT hx]
  rw[hlen,hpos,hC2]at b1
  simp only[Rh,aw,Zp]at a1 b1⊢
  rw[hB]at b1
  rw[a1]
  exact b1
 | .l us f::ss,hss,c,C1,Z1,b,k,t,hb,h0,hk,h1,h2,hc,hl=>by
  simp only[ib,MS.ts]at hb h2⊢
  obtain⟨x,y,rfl,hx,hy⟩:=lA (ts:=[.lst us]) hb
  have hN:=BJ ss (c+4)
  simp only[Ri]at hl
  simp only[lW]at hk
  have hle:=nC mT y (fL mT x k).2
  have hlx:=nC mT x k
  have hcl:=IT hx Z1.length
  have hx':=hx
  obtain⟨p,x',rfl,hp,hn⟩:=eD hx'
  obtain rfl:=fF hn
  obtain⟨rows,rfl⟩:=oE hp
  rw[Kj hx]at h2⊢
  rw[M5 hx]
  simp only[lW,Ix mT hx]
  generalize hC2:jN (Z1.length+(iq [.lst us] [.lst rows]).length) (ib ss) y=C2
  generalize hB:[AObj.box (C1++(jN Z1.length [.lst us] [.lst rows]++C2))]=B
  have hcut:fR false 1 C1.length (C1++(jN Z1.length [.lst us] [.lst rows]++C2))=some (.one (.arr Z1.length)):=by
   simp[fR,jN]
  obtain⟨t1,a1,a2,a3,a4⟩:=Ly (Φ:=Φ) (ext:=ext) (mT:=mT) (g:=false) (n:=1) (f:=f) (c:=c) (m:=Z1.length+(iq [.lst us] [.lst rows]++iq (ib ss) y).length) (C1:=C1) (C2:=jN Z1.length [.lst us] [.lst rows]++C2) (Z1:=Z1) (Z2:=iq (ib ss) y++B) (v:= .one (.arr Z1.length)) (a:= .one (.down us.length rows)) hx h1 h2 hc (by omega) (by
   rw[←hB]
   have:Z1++iq [.lst us] [.lst rows]++(iq (ib ss) y++[AObj.box (C1++(jN Z1.length [.lst us] [.lst rows]++C2))])=(Z1++(iq [.lst us] [.lst rows]++iq (ib ss) y))++[AObj.box (C1++(jN Z1.length [.lst us] [.lst rows]++C2))]:=by simp
   rw[this,Zk (by simp)]
   simp) hcut rfl (fun _ _ h=>by cases h) (by
   have:=OO hx Z1 (iq (ib ss) y++B)
   simp only[jN,Kk,mG]at this
   split at this
   ·rename_i a b h1 h2
    cases this
    cases h2
    simp only[vo,h1]
   ·cases this) (by
   simp only[fL]at hle hlx hk⊢
   exact hss.1.2 rows hp k h0 (by omega))
  obtain⟨t2,b1,b2⟩:=DR ss hss.2 (c:=c+4) (C1:=C1++jN Z1.length [.lst us] [.lst rows]) (Z1:=Z1++iq [.lst us] (fL mT [.lst rows] k).1) (b:=y) (k:=(fL mT [.lst rows] k).2) (t:=t1) hy (by omega) hk a3 (by rw[a4];simp only[Zw,GI mT hx];congr 3;omega) (by omega) (by omega)
  refine⟨t2,?_,b2⟩
  have hlen:(C1++jN Z1.length [.lst us] [.lst rows]).length=C1.length+1:=by rw[Zw,hcl];rfl
  have hpos:(Z1++iq [.lst us] (fL mT [.lst rows] k).1).length=Z1.length+(iq [.lst us] [.lst rows]).length:=by rw[Zw,GI mT hx]
  rw[hlen,hpos,hC2]at b1
  simp only[Rh,aw,Zp]at a1 b1⊢
  rw[hB]at b1
  rw[a1]
  exact b1
theorem zQ {f:Nat}{ss:List MS}(hk:Φ f=some (sa ss))(hn:Φ (f+jX)=none)(hss:Ko Φ ext mT ss):Pt Φ ext mT f (ib ss):=by
 intro row hr k h0 hk2
 have hN:=BJ ss 5
 obtain⟨m,hm⟩:∃m,Ri 5 ss+1-2=m+4:=⟨Ri 5 ss-5,by omega⟩
 have hz:(sa ss).body.noZ=true:=by
  simp only[sa,ACode.noZ,DS,Y7]
  rfl
 refine uU hn hk hz ?_
 obtain⟨ds,d1,d2⟩:=TW hr []
 simp only[Z4,Zi]at d1
 have hA:dV [] [.agg (Kk (ib ss) row),aa .i64 k]=([.agg (jN 0 (ib ss) row),aa .i64 k],ds):=by
  simp only[dV,thaw,d1,thawL]
 have hst:ji (sa ss) [.agg (Kk (ib ss) row),aa .i64 k]=⟨.agg (jN 0 (ib ss) row)::aa .i64 k::List.replicate (m+4) (.tup []),iq (ib ss) row⟩:=by
  simp only[ji,hA,d2,sa,Zo,Z4,Zg,Zi,hm]
 have hlen:ds.length=(iq (ib ss) row).length:=by rw[←d2];simp
 let t0:List V:= .agg (jN 0 (ib ss) row)::aa .i64 k:: .one (.ptr (iq (ib ss) row).length 0 0):: .tup []::aa .i64 0::List.replicate (m+1) (.tup [])
 have hl0:t0.length=Ri 5 ss+1:=by simp[t0];omega
 obtain⟨t',a1,a2⟩:=DR (Φ:=Φ) (ext:=ext) ss hss (c:=5) (C1:=[]) (Z1:=[]) (b:=row) (k:=k) (t:=t0) hr h0 hk2 rfl (by simp[t0]) (Zm _) (by omega)
 simp only[Z4,Zi]at a1
 have hrun:f9 Φ ext (sa ss).body (ji (sa ss) [.agg (Kk (ib ss) row),aa .i64 k])=some (.ret,⟨t',iq (ib ss) (fL mT row k).1++[.box (jN 0 (ib ss) row)]⟩):=by
  rw[hst]
  have hrep:List.replicate (m+4) (V.tup [])= .tup []:: .tup []:: .tup []::List.replicate (m+1) (.tup []):=rfl
  simp only[t0]at a1
  simp only[f9,sa,hrep,aw,ah,aJ,bf,bJ,cI,Opd.ev,put,Xc,V.cells,RA hr,if_true,Ys,Ye]
  exact a1
 have htake:(iq (ib ss) (fL mT row k).1++[AObj.box (jN 0 (ib ss) row)]).take ds.length=iq (ib ss) (fL mT row k).1:=by
  rw[hlen,←GI mT hr k,List.take_left]
 rw[hrun]
 simp only[xb,Hm,sa,aW,am,cF,a2,Yn,Xf,Zx,V.cells,bS,comp,aQ,bI,hA,htake,TP mT hr,L.flat,if_true]
 rfl
end
def AG :Nat→Nat→List UInt8→List UInt8
 |0,_,o=>o
 |n+1,k,o=>if k=0 then o else AG n (k/10) (UInt8.ofNat (48+k%10)::o)
def az (k:Int):List UInt8:=if k≤0 then [109,48]else 109::AG 13 k.toNat []
theorem KP :∀(n k:Nat)(o:List UInt8),(AG n k o).length≤n+o.length
 |0,k,o=>by simp[AG]
 |n+1,k,o=>by
  simp only[AG]
  split
  ·omega
  ·have:=KP n (k/10) (UInt8.ofNat (48+k%10)::o)
   simp only[Zo]at this
   omega
def UX :ACode:= .seq (.seq (.region [⟨some 6, .mv (.tmp 0),none⟩,⟨some 7, .bin .gtr (.tmp 6) (.pv (.int .i64 0)),none⟩]) (.cond (.tmp 7) .skip (.exit 0))) (.block 1 (.seq (.region [⟨some 8, .mv (.tmp 0),none⟩,⟨some 9, .bin .rem (.tmp 8) (.pv (.int .i64 10)),none⟩,⟨some 10, .bin .add (.pv (.int .i64 48)) (.tmp 9),none⟩,⟨some 11, .conv .u8 (.tmp 10),none⟩,⟨some 12, .buildS 1 [.tmp 11],none⟩,⟨some 13, .b2s (.tmp 12),none⟩,⟨some 14, .mv (.tmp 3),none⟩,⟨some 15, .bin .add (.tmp 13) (.tmp 14),none⟩,⟨some 3, .mv (.tmp 15),none⟩]) (.region [⟨some 16, .mv (.tmp 0),none⟩,⟨some 17, .bin .quo (.tmp 16) (.pv (.int .i64 10)),none⟩,⟨some 0, .mv (.tmp 17),none⟩])))
def VB :AFn:=⟨20,[.tmp 2], .seq (.region [⟨some 2, .mv (.pv (.str [])),none⟩]) (.seq (.seq (.region [⟨some 4, .mv (.tmp 0),none⟩,⟨some 5, .bin .leq (.tmp 4) (.pv (.int .i64 0)),none⟩]) (.cond (.tmp 5) (.seq (.region [⟨some 2, .mv (.pv (.str [109,48])),none⟩]) .ret) .skip)) (.seq (.region [⟨some 3, .mv (.pv (.str [])),none⟩]) (.seq (.block 0 (.loop UX)) (.seq (.region [⟨some 18, .mv (.tmp 3),none⟩,⟨some 19, .bin .add (.pv (.str [109])) (.tmp 18),none⟩,⟨some 2, .mv (.tmp 19),none⟩]) .ret))))⟩
section
variable {Φ:Nat→Option AFn}{ext:Nat→List V→Option V}
theorem TY :∀(n k:Nat),k<10^n→k<9223372036854775807→∀(o:List UInt8),o.length+n≤1000→∀(u1 u2 u4 u5 u6 u7 u8 u9 u10 u11 u12 u13 u14 u15 u16 u17 u18 u19:V)(h:List AObj),
 ∃w1 w2 w4 w5 w6 w7 w8 w9 w10 w11 w12 w13 w14 w15 w16 w17 w18 w19 h',aL (aw (ag Φ ext) aL UX) ⟨[aa .i64 k,u1,u2,eB o,u4,u5,u6,u7,u8,u9,u10,u11,u12,u13,u14,u15,u16,u17,u18,u19],h⟩=some (.exit 0,⟨[aa .i64 0,w1,w2,eB (AG n k o),w4,w5,w6,w7,w8,w9,w10,w11,w12,w13,w14,w15,w16,w17,w18,w19],h'⟩):=by
 intro n
 induction n with
 |zero=>
  intro k hk hk2 o ho u1 u2 u4 u5 u6 u7 u8 u9 u10 u11 u12 u13 u14 u15 u16 u17 u18 u19 h
  obtain rfl:k=0:=by simpa using hk
  refine⟨u1,u2,u4,u5,aa .i64 0,aA false,u8,u9,u10,u11,u12,u13,u14,u15,u16,u17,u18,u19,h,je ?_ (by simp)⟩
  simp[UX,aw,ah,aJ,bf,bJ,Opd.ev,put,bin,cK,isBool,AG]
 |succ n ih=>
  intro k hk hk2 o ho u1 u2 u4 u5 u6 u7 u8 u9 u10 u11 u12 u13 u14 u15 u16 u17 u18 u19 h
  by_cases h0:k=0
  ·subst h0
   refine⟨u1,u2,u4,u5,aa .i64 0,aA false,u8,u9,u10,u11,u12,u13,u14,u15,u16,u17,u18,u19,h,je ?_ (by simp)⟩
   simp[UX,aw,ah,aJ,bf,bJ,Opd.ev,put,bin,cK,isBool,AG]
  ·have hpos:(0:Int)<(k:Int):=by omega
   have hm:(k:Int).tmod 10=((k%10:Nat):Int):=by
    rw[Int.tmod_eq_emod_of_nonneg (by omega)];omega
   have hq:(k:Int).tdiv 10=((k/10:Nat):Int):=by
    rw[Int.tdiv_eq_ediv_of_nonneg (by omega)];omega
   have hw1:IntKind.i64.wrap (48+((k%10:Nat):Int))=((48+k%10:Nat):Int):=by rw[IntKind.wrap_i64];omega
   have hw2:IntKind.u8.wrap ((48+k%10:Nat):Int)=((48+k%10:Nat):Int):=by rw[IntKind.wrap_u8];omega
   have hw3:IntKind.i64.wrap ((k/10:Nat):Int)=((k/10:Nat):Int):=by rw[IntKind.wrap_i64];omega
   have hlt:k/10<10^n:=by
    rw[Nat.pow_succ]at hk
    omega
   have hlen:([UInt8.ofNat (48+k%10)]:List UInt8).length+o.length≤9223372036854775807:=by simp;omega
   obtain⟨w1,w2,w4,w5,w6,w7,w8,w9,w10,w11,w12,w13,w14,w15,w16,w17,w18,w19,h',e⟩:=ih (k/10) hlt (by omega) (UInt8.ofNat (48+k%10)::o) (by simp;omega) u1 u2 u4 u5 (aa .i64 k) (aA true) (aa .i64 k) (aa .i64 ((k%10:Nat):Int)) (aa .i64 ((48+k%10:Nat):Int)) (aa .u8 ((48+k%10:Nat):Int)) (.one (.arr h.length)) (eB [UInt8.ofNat (48+k%10)]) (eB o) (eB (UInt8.ofNat (48+k%10)::o)) (aa .i64 k) (aa .i64 ((k/10:Nat):Int)) u18 u19 (h++[.arr 1 [[.int .u8 ((48+k%10:Nat):Int)]]])
   refine⟨w1,w2,w4,w5,w6,w7,w8,w9,w10,w11,w12,w13,w14,w15,w16,w17,w18,w19,h',(gB ?_).trans (e.trans ?_)⟩
   ·have hbs:rI [[PV.int .u8 ((48+k%10:Nat):Int)]]=some [UInt8.ofNat (48+k%10)]:=by
     simp only[rI,Int.toNat_natCast]
    have hvr:aP h [aa .u8 ((48+k%10:Nat):Int)]=some [[.int .u8 ((48+k%10:Nat):Int)]]:=rfl
    have hfz:freezeVs h [aa .u8 ((48+k%10:Nat):Int)]=h:=rfl
    have hal:asList (h++[AObj.arr 1 [[.int .u8 ((48+k%10:Nat):Int)]]]) (.one (.arr h.length))=some [[.int .u8 ((48+k%10:Nat):Int)]]:=by
     simp[asList,L.view]
    have hbp:decide ((0:Int)<(k:Int))=true:=decide_eq_true hpos
    have h10:¬((10:Int)=0):=by decide
    have hc1:(([aa .u8 ((48+k%10:Nat):Int)]:List V).all (fun v=>v.cells.length==1)&&decide (0<1)&&decide (([aa .u8 ((48+k%10:Nat):Int)]:List V).length*1≤16777216))=true:=rfl
    simp only[UX,aw,ah,aJ,bf,bJ,cI,Opd.ev,put,Xc,List.getD_cons_succ,Ys,Ye,bin,cK,jx,if_true,if_neg h10,hbp,isBool,isInt,Zv,Z5,hm,hw1,hw2,hc1,hvr,hfz,hal,hbs,hlen,hq,hw3,Zg,Zi]
   ·simp only[AG,if_neg h0]
theorem UQ {f:Nat}(hk:Φ f=some VB):CB Φ ext az f:=by
 intro k h0 hM
 refine fJ hk ?_
 by_cases hz:k≤0
 ·have hb:decide (k≤0)=true:=decide_eq_true hz
  simp[VB,start,f9,aw,ah,aJ,bf,bJ,Opd.ev,put,bin,cK,hb,isBool,done,aW,am,cF,bS,comp,aQ,bI,ai,V.cells,az,hz]
 ·have hb:decide (k≤0)=false:=decide_eq_false hz
  obtain⟨n,rfl⟩:∃n:Nat,k=n:=⟨k.toNat,by omega⟩
  unfold xk at hM
  have hdl:=KP 13 n []
  have hlen:([109]:List UInt8).length+(AG 13 n []).length≤9223372036854775807:=by simp at hdl⊢;omega
  have hlen':1+(AG 13 n []).length≤9223372036854775807:=by simpa using hlen
  generalize hlp:aL (aw (ag Φ ext) aL UX)=lp
  have hloop:∀u1 u2 u4 u5 u6 u7 u8 u9 u10 u11 u12 u13 u14 u15 u16 u17 u18 u19 h,∃w1 w2 w4 w5 w6 w7 w8 w9 w10 w11 w12 w13 w14 w15 w16 w17 w18 w19 h',lp ⟨[aa .i64 n,u1,u2,eB [],u4,u5,u6,u7,u8,u9,u10,u11,u12,u13,u14,u15,u16,u17,u18,u19],h⟩=some (.exit 0,⟨[aa .i64 0,w1,w2,eB (AG 13 n []),w4,w5,w6,w7,w8,w9,w10,w11,w12,w13,w14,w15,w16,w17,w18,w19],h'⟩):=by
   rw[←hlp]
   exact TY (Φ:=Φ) (ext:=ext) 13 n (by omega) (by omega) [] (by simp)
  obtain⟨w1,w2,w4,w5,w6,w7,w8,w9,w10,w11,w12,w13,w14,w15,w16,w17,w18,w19,h',e⟩:=hloop (.tup []) (eB []) (aa .i64 n) (aA false) (.tup []) (.tup []) (.tup []) (.tup []) (.tup []) (.tup []) (.tup []) (.tup []) (.tup []) (.tup []) (.tup []) (.tup []) (.tup []) (.tup []) []
  have hm:az (n:Int)=109::AG 13 n []:=by simp only[az,if_neg hz,Int.toNat_natCast]
  rw[hm]
  simp only[VB,start,f9,aw,hlp,Z7,Nat.reduceSub,List.replicate,Zg,Zi,ah,aJ,bf,bJ,Opd.ev,put,Xc,List.getD_cons_succ,Ys,Ye,bin,cK,hb,if_true,isBool,Zy,if_false,e,jx,hlen]
  simp[hlen',done,aW,am,cF,bS,comp,aQ,bI,ai,V.cells]
end
end Gi
