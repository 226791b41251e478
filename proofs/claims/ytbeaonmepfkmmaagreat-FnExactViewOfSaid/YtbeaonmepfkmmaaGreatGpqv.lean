/- Of this proof. -/
import Derived.Test.YtbeaonmepfkmmaaGreatGpnv
set_option linter.unusedSimpArgs false
set_option linter.unusedVariables false
namespace Gi
open Go Go.RowKit
section
variable (mT:Int→List UInt8)
def ij :List PV→Int→List PV×Int
 |[],k=>([],k)
 | .lst rows::ps,k=>(.lst (gM mT rows k).1::(ij ps (gM mT rows k).2).1,(ij ps (gM mT rows k).2).2)
 |p::ps,k=>(p::(ij ps k).1,(ij ps k).2)
end
theorem oQ (mT:Int→List UInt8):∀(a b:List PV)(k:Int),ij mT (a++b) k=((ij mT a k).1++(ij mT b (ij mT a k).2).1,(ij mT b (ij mT a k).2).2)
 |[],b,k=>by simp only[Zt,ij]
 | .lst rows::a,b,k=>by simp only[Zr,ij,oQ mT a b]
 | .int _ _::a,b,k=>by simp only[Zr,ij,oQ mT a b]
 | .bool _::a,b,k=>by simp only[Zr,ij,oQ mT a b]
 | .str _::a,b,k=>by simp only[Zr,ij,oQ mT a b]
theorem sS (mT:Int→List UInt8):∀(a:List PV)(k:Int),k≤(ij mT a k).2
 |[],k=>by simp only[ij];omega
 | .lst rows::a,k=>by
  simp only[ij]
  have:=wz mT rows k
  have:=sS mT a (gM mT rows k).2
  omega
 | .int _ _::a,k=>by simp only[ij];exact sS mT a k
 | .bool _::a,k=>by simp only[ij];exact sS mT a k
 | .str _::a,k=>by simp only[ij];exact sS mT a k
def I9 :List PTy→List PV→List L
 | .lst us::ts, .lst rows::ps=> .down us.length rows::I9 ts ps
 |_::ts,p::ps=> .pv p::I9 ts ps
 |_,_=>[]
def gO :List PTy→List PV→List AObj
 | .lst us::ts, .lst rows::ps=> .zarr us.length rows::gO ts ps
 |_::ts,_::ps=>gO ts ps
 |_,_=>[]
def jp :Nat→List PTy→List PV→List L
 |j, .lst us::ts, .lst rows::ps=> .arr j::jp (j+1) ts ps
 |j,_::ts,p::ps=> .pv p::jp j ts ps
 |_,_,_=>[]
def PS :List PTy→List PV→List (Bool×List L)
 | .lst us::ts, .lst rows::ps=>(false,[.down us.length rows])::PS ts ps
 |_::ts,_::ps=>PS ts ps
 |_,_=>[]
theorem gI {P:List PTy→List PV→Prop}(nil:P [] [])(lst:∀us rows ts ps,oI (.lst us) (.lst rows)→bF ts ps→P ts ps→P (.lst us::ts) (.lst rows::ps))(flat:∀t p ts ps,oI t p→t.flatT=true→p.flat=true→bF ts ps→P ts ps→P (t::ts) (p::ps)):∀(ts:List PTy)(ps:List PV),bF ts ps→P ts ps
 |[],ps,h=>by rw[fL h];exact nil
 | .lst us::ts,ps,h=>by
  obtain⟨p,r,rfl,h1,h2⟩:=dO h
  obtain⟨rows,rfl⟩:=oJ h1
  exact lst us rows ts r h1 h2 (gI nil lst flat ts r h2)
 | .int κ::ts,ps,h=>by
  obtain⟨p,r,rfl,h1,h2⟩:=dO h
  obtain⟨n,rfl⟩:=lX h1
  exact flat _ _ ts r h1 rfl rfl h2 (gI nil lst flat ts r h2)
 | .bool::ts,ps,h=>by
  obtain⟨p,r,rfl,h1,h2⟩:=dO h
  obtain⟨n,rfl⟩:=kH h1
  exact flat _ _ ts r h1 rfl rfl h2 (gI nil lst flat ts r h2)
 | .str::ts,ps,h=>by
  obtain⟨p,r,rfl,h1,h2⟩:=dO h
  obtain⟨n,rfl⟩:=jY h1
  exact flat _ _ ts r h1 rfl rfl h2 (gI nil lst flat ts r h2)
theorem JC {t:PTy}{p:PV}{ts:List PTy}{ps:List PV}(ht:t.flatT=true):I9 (t::ts) (p::ps)= .pv p::I9 ts ps:=by cases t<;>first|rfl|cases ht
theorem hX {t:PTy}{p:PV}{ts:List PTy}{ps:List PV}(ht:t.flatT=true):gO (t::ts) (p::ps)=gO ts ps:=by cases t<;>first|rfl|cases ht
theorem lY {t:PTy}{p:PV}{ts:List PTy}{ps:List PV}{j:Nat}(ht:t.flatT=true):jp j (t::ts) (p::ps)= .pv p::jp j ts ps:=by cases t<;>first|rfl|cases ht
theorem Kw {t:PTy}{p:PV}{ts:List PTy}{ps:List PV}(ht:t.flatT=true):PS (t::ts) (p::ps)=PS ts ps:=by cases t<;>first|rfl|cases ht
theorem tY (mT:Int→List UInt8){p:PV}{ps:List PV}{k:Int}(hp:p.flat=true):ij mT (p::ps) k=(p::(ij mT ps k).1,(ij mT ps k).2):=by cases p<;>first|rfl|cases hp
theorem Hn {ts:List PTy}{ps:List PV}(h:bF ts ps):∀j,(jp j ts ps).length=ts.length:=by
 refine gI (P:=fun ts ps=>∀j,(jp j ts ps).length=ts.length) (fun j=>rfl) ?_ ?_ ts ps h
 ·intro us rows ts ps _ _ ih j
  simp only[jp,Zo,ih]
 ·intro t p ts ps _ ht hp _ ih j
  rw[lY ht]
  simp only[Zo,ih]
theorem Tw {ts:List PTy}{ps:List PV}(h:bF ts ps):∀hh:List AObj,∃ds,thawL hh (I9 ts ps)=(jp hh.length ts ps,hh++ds)∧ds.map AObj.zone=gO ts ps:=by
 refine gI (P:=fun ts ps=>∀hh:List AObj,∃ds,thawL hh (I9 ts ps)=(jp hh.length ts ps,hh++ds)∧ds.map AObj.zone=gO ts ps) ?_ ?_ ?_ ts ps h
 ·intro hh;exact⟨[],by simp[I9,thawL,jp],rfl⟩
 ·intro us rows ts ps _ _ ih hh
  obtain⟨ds,e1,e2⟩:=ih (hh++[.darr us.length rows])
  refine⟨.darr us.length rows::ds,?_,by simp only[Zu,e2,AObj.zone,gO]⟩
  simp only[I9,thawL,e1,jp,Zp,Z0,Zn,Zr,Zt]
 ·intro t p ts ps _ ht hp _ ih hh
  obtain⟨ds,e1,e2⟩:=ih hh
  refine⟨ds,?_,by rw[e2,hX ht]⟩
  rw[JC ht,lY ht]
  simp only[thawL,e1]
theorem OF {p:PV}(h:p.flat=true):p.bare=true:=by cases p<;>first|rfl|cases h
theorem NN {ts:List PTy}{ps:List PV}(h:bF ts ps):∀(pre post:List AObj),mD (pre++gO ts ps++post) (jp pre.length ts ps)=some (I9 ts ps):=by
 refine gI (P:=fun ts ps=>∀(pre post:List AObj),mD (pre++gO ts ps++post) (jp pre.length ts ps)=some (I9 ts ps)) (fun _ _=>rfl) ?_ ?_ ts ps h
 ·intro us rows ts ps _ _ ih pre post
  have:=ih (pre++[.zarr us.length rows]) post
  simp only[Zp,Z0,Zn,Zr,Zt]at this
  have hg:(pre++(AObj.zarr us.length rows::(gO ts ps++post)))[pre.length]? =some (.zarr us.length rows):=by
   rw[Zj (Zk _),Nat.sub_self];rfl
  simp only[gO,jp,I9,Zn,Zr,mD,AO,hg,this]
 ·intro t p ts ps _ ht hp _ ih pre post
  rw[JC ht,lY ht,hX ht]
  have hb:PV.bare _=true:=OF hp
  simp only[mD,AO,hb,if_true,ih pre post]
theorem SB {ts:List PTy}{ps:List PV}(h:bF ts ps):∀(j:Nat),(ar (jp j ts ps)).Nodup∧∀o∈ar (jp j ts ps),j≤o:=by
 refine gI (P:=fun ts ps=>∀(j:Nat),(ar (jp j ts ps)).Nodup∧∀o∈ar (jp j ts ps),j≤o) (fun j=>⟨List.nodup_nil,fun o ho=>by cases ho⟩) ?_ ?_ ts ps h
 ·intro us rows ts ps _ _ ih j
  obtain⟨h1,h2⟩:=ih (j+1)
  have e:ar (jp j (.lst us::ts) (.lst rows::ps))=j::ar (jp (j+1) ts ps):=by simp[jp,ar]
  rw[e]
  refine⟨List.nodup_cons.2 ⟨fun hm=>by have:=h2 _ hm;omega,h1⟩,fun o ho=> ?_⟩
  rcases Z6.1 ho with rfl|ho
  ·exact Zk _
  ·have:=h2 o ho;omega
 ·intro t p ts ps _ ht hp _ ih j
  have e:ar (jp j (t::ts) (p::ps))=ar (jp j ts ps):=by rw[lY ht];simp[ar]
  rw[e];exact ih j
theorem Us (mT:Int→List UInt8){ts:List PTy}{ps:List PV}(h:bF ts ps):∀(pre post:List AObj)(k:Int),kY (pre++gO ts ps++post) (ar (jp pre.length ts ps)) (PS ts (ij mT ps k).1)=some (pre++gO ts (ij mT ps k).1++post):=by
 refine gI (P:=fun ts ps=>∀(pre post:List AObj)(k:Int),kY (pre++gO ts ps++post) (ar (jp pre.length ts ps)) (PS ts (ij mT ps k).1)=some (pre++gO ts (ij mT ps k).1++post)) (fun _ _ _=>rfl) ?_ ?_ ts ps h
 ·intro us rows ts ps _ _ ih pre post k
  have:=ih (pre++[.zarr us.length (gM mT rows k).1]) post (gM mT rows k).2
  simp only[Zp,Z0,Zn,Zr,Zt]at this
  have e:ar (jp pre.length (.lst us::ts) (.lst rows::ps))=pre.length::ar (jp (pre.length+1) ts ps):=by simp[jp,ar]
  rw[e]
  simp only[ij,gO,PS,kY,Zn,Zr]
  rw[List.set_append_right _ _ (Zk _),Nat.sub_self,List.set_cons_zero,this]
 ·intro t p ts ps _ ht hp _ ih pre post k
  have e:ar (jp pre.length (t::ts) (p::ps))=ar (jp pre.length ts ps):=by rw[lY ht];simp[ar]
  rw[e,tY mT hp,hX ht,hX ht,Kw ht]
  exact ih pre post k
theorem Tn (mT:Int→List UInt8){ts:List PTy}{ps:List PV}(h:bF ts ps):∀k,gJ (gO ts (ij mT ps k).1)=some (PS ts (ij mT ps k).1):=by
 refine gI (P:=fun ts ps=>∀k,gJ (gO ts (ij mT ps k).1)=some (PS ts (ij mT ps k).1)) (fun _=>rfl) ?_ ?_ ts ps h
 ·intro us rows ts ps _ _ ih k
  simp only[ij,gO,gJ,ih,PS]
 ·intro t p ts ps _ ht hp _ ih k
  rw[tY mT hp,hX ht,Kw ht,ih]
theorem Fa (mT:Int→List UInt8){ts:List PTy}{ps:List PV}(h:bF ts ps):∀k,(gO ts (ij mT ps k).1).length=(gO ts ps).length:=by
 refine gI (P:=fun ts ps=>∀k,(gO ts (ij mT ps k).1).length=(gO ts ps).length) (fun _=>rfl) ?_ ?_ ts ps h
 ·intro us rows ts ps _ _ ih k
  simp only[ij,gO,Zo,ih]
 ·intro t p ts ps _ ht hp _ ih k
  rw[tY mT hp,hX ht,hX ht,ih]
theorem I8 {ts us:List PTy}{a b:List PV}(h:bF ts a):gO (ts++us) (a++b)=gO ts a++gO us b:=by
 refine gI (P:=fun ts a=>gO (ts++us) (a++b)=gO ts a++gO us b) rfl ?_ ?_ ts a h
 ·intro us rows ts ps _ _ ih
  simp only[Zr,gO,ih]
 ·intro t p ts ps _ ht hp _ ih
  simp only[Zr]
  rw[hX ht,hX ht,ih]
theorem G3 (mT:Int→List UInt8){ts us:List PTy}{a b:List PV}(h:bF ts a):∀k,gO (ts++us) ((ij mT a k).1++b)=gO ts (ij mT a k).1++gO us b:=by
 refine gI (P:=fun ts a=>∀k,gO (ts++us) ((ij mT a k).1++b)=gO ts (ij mT a k).1++gO us b) (fun _=>rfl) ?_ ?_ ts a h
 ·intro us rows ts ps _ _ ih k
  simp only[ij,Zr,gO,ih]
 ·intro t p ts ps _ ht hp _ ih k
  rw[tY mT hp]
  simp only[Zr]
  rw[hX ht,hX ht,ih]
theorem LP {ts us:List PTy}{a b:List PV}(h:bF ts a):∀j,jp j (ts++us) (a++b)=jp j ts a++jp (j+(gO ts a).length) us b:=by
 refine gI (P:=fun ts a=>∀j,jp j (ts++us) (a++b)=jp j ts a++jp (j+(gO ts a).length) us b) (fun j=>rfl) ?_ ?_ ts a h
 ·intro us rows ts ps _ _ ih j
  simp only[Zr,jp,gO,Zo,ih]
  rw[show j+1+(gO ts ps).length=j+((gO ts ps).length+1) by omega]
 ·intro t p ts ps _ ht hp _ ih j
  simp only[Zr]
  rw[lY ht,lY ht,hX ht,ih]
  rfl
theorem QO {ts:List PTy}{ps:List PV}(h:bF ts ps):∀j,(jp j ts ps).all plain=true:=by
 refine gI (P:=fun ts ps=>∀j,(jp j ts ps).all plain=true) (fun j=>rfl) ?_ ?_ ts ps h
 ·intro us rows ts ps _ _ ih j
  simp only[jp,Zq,ih,Bool.and_true];rfl
 ·intro t p ts ps _ ht hp _ ih j
  rw[lY ht]
  simp only[Zq,ih,Bool.and_true];rfl
inductive MS where
 |k (ts:List PTy)
 |s (ts:List PTy) (f:Nat)
 |l (us:List PTy) (f:Nat)
def MS.ts :MS→List PTy
 | .k ts=>ts
 | .s ts _=>ts
 | .l us _=>[.lst us]
def iN :List MS→List PTy
 |[]=>[]
 |s::ss=>s.ts++iN ss
def Vc (c off:Nat)(g:Bool)(n f:Nat):List AOper:=[⟨some c, .fieldA (.tmp 2) off,none⟩,⟨some (c+1), .loadZ g n (.tmp c),none⟩,⟨some (c+2), .mv (.tmp 1),none⟩,⟨some (c+3), .callM f (.tmp (c+1)) (.tmp (c+2)),none⟩,⟨some 1, .mv (.tmp (c+3)),none⟩]
def Qu :Nat→Nat→List MS→ACode
 |c,_,[]=> .seq (.region [⟨some c, .mv (.tmp 1),none⟩,⟨some 4, .mv (.tmp c),none⟩]) .ret
 |c,off, .k ts::ss=>Qu c (off+ts.length) ss
 |c,off, .s ts f::ss=> .seq (.region (Vc c off true ts.length f)) (Qu (c+4) (off+ts.length) ss)
 |c,off, .l _ f::ss=> .seq (.region (Vc c off false 1 f)) (Qu (c+4) (off+1) ss)
def Qv :Nat→List MS→Nat
 |c,[]=>c
 |c, .k _::ss=>Qv c ss
 |c,_::ss=>Qv (c+4) ss
def qH (ss:List MS):AFn:=⟨Qv 5 ss+1,[.tmp 4], .seq (.region [⟨some 2, .box (.tmp 0),none⟩,⟨some 4, .mv (.pv (.int .i64 0)),none⟩]) (Qu 5 0 ss)⟩
theorem Ci :∀(ss:List MS)(c off:Nat),(Qu c off ss).noZ=true
 |[],c,off=>rfl
 | .k ts::ss,c,off=>Ci ss c _
 | .s ts f::ss,c,off=>by simp only[Qu,ACode.noZ,Ci ss,Bool.and_true];rfl
 | .l us f::ss,c,off=>by simp only[Qu,ACode.noZ,Ci ss,Bool.and_true];rfl
theorem Ae :∀(ss:List MS)(c:Nat),c≤Qv c ss
 |[],c=>Zk _
 | .k ts::ss,c=>Ae ss c
 | .s ts f::ss,c=>Zc (by omega) (Ae ss (c+4))
 | .l us f::ss,c=>Zc (by omega) (Ae ss (c+4))
section
variable {Φ:Nat→Option AFn}{ext:Nat→List V→Option V}{mT:Int→List UInt8}{mt:Nat}
def OA (Φ:Nat→Option AFn)(ext:Nat→List V→Option V)(mT:Int→List UInt8)(f:Nat)(ts:List PTy):Prop:=
 ∀row:List PV,bF ts row→∀k:Int,0≤k→(ij mT row k).2≤BX→ah Φ ext (f+nN) [.agg (I9 ts row),ae .i64 k]=some (.tup ((false,[.pv (.int .i64 (ij mT row k).2)])::PS ts (ij mT row k).1))
def Jb (Φ:Nat→Option AFn)(ext:Nat→List V→Option V)(mT:Int→List UInt8):List MS→Prop
 |[]=>True
 | .k ts::ss=>ts.all PTy.flatT=true∧Jb Φ ext mT ss
 | .s ts f::ss=>OA Φ ext mT f ts∧Jb Φ ext mT ss
 | .l us f::ss=>pE Φ ext mT f us∧Jb Φ ext mT ss
theorem Kj {g:Bool}{n f c m:Nat}{C1 C2:List L}{Z1 Z2:List AObj}{ts:List PTy}{x:List PV}{v a:V}{k:Int}{t:List V}(hx:bF ts x)(h1:t[1]? =some (ae .i64 k))(h2:t[2]? =some (.one (.ptr m 0 0)))(hc:5≤c)(hl:c+3<t.length)
 (hb:(Z1++gO ts x++Z2)[m]? =some (.box (C1++C2))) (hcut:fT g n C1.length (C1++C2)=some v) (hv:v.cells=jp Z1.length ts x) (hsub:∀o c,v≠ .one (.sub o c)) (hlend:vC (Z1++gO ts x++Z2) v=some a) (hcall:ah Φ ext (f+nN) [a,ae .i64 k]=some (.tup ((false,[.pv (.int .i64 (ij mT x k).2)])::PS ts (ij mT x k).1))):
 ∃t',am (ah Φ ext) (Vc c C1.length g n f) ⟨t,Z1++gO ts x++Z2⟩=some ⟨t',Z1++gO ts (ij mT x k).1++Z2⟩∧t'.length=t.length∧t'[1]? =some (ae .i64 (ij mT x k).2)∧t'[2]? =some (.one (.ptr m 0 0)):=by
 have e1:=getD_some h1
 have e2:=getD_some h2
 have q1:(t.set c (V.one (.ptr m 0 C1.length))).getD c (.tup [])= .one (.ptr m 0 C1.length):=aN (by omega)
 have q2:((t.set c (V.one (.ptr m 0 C1.length))).set (c+1) v).getD 1 (.tup [])=ae .i64 k:=(dM (by omega)).trans ((dM (by omega)).trans e1)
 have q3:(((t.set c (V.one (.ptr m 0 C1.length))).set (c+1) v).set (c+2) (ae .i64 k)).getD (c+1) (.tup [])=v:=(dM (by omega)).trans (aN (by simp;omega))
 have q4:(((t.set c (V.one (.ptr m 0 C1.length))).set (c+1) v).set (c+2) (ae .i64 k)).getD (c+2) (.tup [])=ae .i64 k:=aN (by simp;omega)
 have q5:((((t.set c (V.one (.ptr m 0 C1.length))).set (c+1) v).set (c+2) (ae .i64 k)).set (c+3) (ae .i64 (ij mT x k).2)).getD (c+3) (.tup [])=ae .i64 (ij mT x k).2:=aN (by simp;omega)
 have hnd:(ar v.cells).Nodup:=by rw[hv];exact(SB hx _).1
 have hput:=Us mT hx Z1 Z2 k
 rw[←hv]at hput
 have hM:la (ah Φ ext) (Z1++gO ts x++Z2) f v k=some (ae .i64 (ij mT x k).2,Z1++gO ts (ij mT x k).1++Z2):=by
  unfold la
  split
  ·rename_i o cc;exact absurd rfl (hsub o cc)
  ·simp only[hnd,if_true,hlend,hcall,L.flat,hput]
 refine⟨((((t.set c (V.one (.ptr m 0 C1.length))).set (c+1) v).set (c+2) (ae .i64 k)).set (c+3) (ae .i64 (ij mT x k).2)).set 1 (ae .i64 (ij mT x k).2),?_,by simp,Zd (by simp;omega),by rw[Za (by omega),Za (by omega),Za (by omega),Za (by omega),Za (by omega)];exact h2⟩
 simp only[Vc,am,aK,aW,bo,cj,Opd.ev,e2,put,Nat.zero_add,q1,sQ,hb,bi,if_true,hcut,q2,q3,q4,hM,q5]
theorem Cg :∀(ss:List MS),Jb Φ ext mT ss→∀{c:Nat}{C1:List L}{Z1:List AObj}{b:List PV}{k:Int}{t:List V},bF (iN ss) b→0≤k→(ij mT b k).2≤BX→t[1]? =some (ae .i64 k)→t[2]? =some (.one (.ptr (Z1.length+(gO (iN ss) b).length) 0 0))→5≤c→Qv c ss<t.length→
 ∃t',aB (ah Φ ext) aG (Qu c C1.length ss) ⟨t,Z1++gO (iN ss) b++[.box (C1++jp Z1.length (iN ss) b)]⟩=some (.ret,⟨t',Z1++gO (iN ss) (ij mT b k).1++[.box (C1++jp Z1.length (iN ss) b)]⟩)∧t'.getD 4 (.tup [])=ae .i64 (ij mT b k).2
 |[],_,c,C1,Z1,b,k,t,hb,h0,hk,h1,h2,hc,hl=>by
  obtain rfl:=fL hb
  simp only[Qv]at hl
  have q2:(t.set c (ae .i64 k)).getD c (.tup [])=ae .i64 k:=aN hl
  refine⟨(t.set c (ae .i64 k)).set 4 (ae .i64 k),?_,by simp only[ij];exact aN (by simp;omega)⟩
  simp only[Qu,aB,am,aK,aW,bo,Opd.ev,getD_some h1,put,q2,ij]
 | .k ts::ss,hss,c,C1,Z1,b,k,t,hb,h0,hk,h1,h2,hc,hl=>by
  simp only[iN,MS.ts]at hb h2⊢
  obtain⟨x,y,rfl,hx,hy⟩:=pD (ts:=ts) hb
  have flat:∀{ts:List PTy}{x:List PV},bF ts x→ts.all PTy.flatT=true→gO ts x=[]∧∀k,ij mT x k=(x,k):=by
   intro ts x h
   refine gI (P:=fun ts x=>ts.all PTy.flatT=true→gO ts x=[]∧∀k,ij mT x k=(x,k)) (fun _=>⟨rfl,fun _=>rfl⟩) ?_ ?_ ts x h
   ·intro us rows ts ps _ _ _ ha
    simp[PTy.flatT]at ha
   ·intro t p ts ps _ ht hp _ ih ha
    simp only[Zq,Zg]at ha
    obtain⟨i1,i2⟩:=ih ha.2
    exact⟨by rw[hX ht,i1],fun k=>by rw[tY mT hp,i2]⟩
  obtain⟨z0,m0⟩:=flat hx hss.1
  have hm:ij mT (x++y) k=(x++(ij mT y k).1,(ij mT y k).2):=by rw[oQ,m0]
  have hlen:(C1++jp Z1.length ts x).length=C1.length+ts.length:=by rw[Zp,Hn hx]
  rw[I8 hx,z0,Zt]at h2⊢
  rw[LP hx,z0,hm]
  simp only[hm]at hk
  have hz2:∀y',gO (ts++iN ss) (x++y')=gO (iN ss) y':=fun y'=>by rw[I8 hx,z0,Zt]
  simp only[hz2,List.length_nil,Nat.add_zero]
  obtain⟨t',r1,r2⟩:=Cg ss hss.2 (c:=c) (C1:=C1++jp Z1.length ts x) (Z1:=Z1) hy h0 hk h1 h2 hc hl
  rw[hlen]at r1
  simp only[Zn]at r1⊢
  exact⟨t',r1,r2⟩
 | .s ts f::ss,hss,c,C1,Z1,b,k,t,hb,h0,hk,h1,h2,hc,hl=>by
  simp only[iN,MS.ts]at hb h2⊢
  obtain⟨x,y,rfl,hx,hy⟩:=pD (ts:=ts) hb
  have hN:=Ae ss (c+4)
  simp only[Qv]at hl
  simp only[oQ]at hk
  have hle:=sS mT y (ij mT x k).2
  have hlx:=sS mT x k
  have hcl:=Hn hx Z1.length
  rw[I8 hx]at h2⊢
  rw[LP hx]
  simp only[oQ,G3 mT hx]
  generalize hC2:jp (Z1.length+(gO ts x).length) (iN ss) y=C2
  generalize hB:[AObj.box (C1++(jp Z1.length ts x++C2))]=B
  have hcut:fT true ts.length C1.length (C1++(jp Z1.length ts x++C2))=some (.agg (jp Z1.length ts x)):=by
   unfold fT
   rw[if_pos (by simp[hcl]),if_pos rfl,List.drop_left,←hcl,List.take_left]
  obtain⟨t1,a1,a2,a3,a4⟩:=Kj (Φ:=Φ) (ext:=ext) (mT:=mT) (g:=true) (n:=ts.length) (f:=f) (c:=c) (m:=Z1.length+(gO ts x++gO (iN ss) y).length) (C1:=C1) (C2:=jp Z1.length ts x++C2) (Z1:=Z1) (Z2:=gO (iN ss) y++B) (v:= .agg (jp Z1.length ts x)) (a:= .agg (I9 ts x)) hx h1 h2 hc (by omega) (by
   rw[←hB]
   have:Z1++gO ts x++(gO (iN ss) y++[AObj.box (C1++(jp Z1.length ts x++C2))])=(Z1++(gO ts x++gO (iN ss) y))++[AObj.box (C1++(jp Z1.length ts x++C2))]:=by simp
   rw[this,Zj (by simp)]
   simp) hcut rfl (fun _ _ h=>by cases h) (by
   have:=NN hx Z1 (gO (iN ss) y++B)
   simp only[vC,this]) (hss.1 x hx k h0 (by omega))
  obtain⟨t2,b1,b2⟩:=Cg ss hss.2 (c:=c+4) (C1:=C1++jp Z1.length ts x) (Z1:=Z1++gO ts (ij mT x k).1) (b:=y) (k:=(ij mT x k).2) (t:=t1) hy (by omega) hk a3 (by rw[a4];simp only[Zp,Fa mT hx];congr 3;omega) (by omega) (by omega)
  refine⟨t2,?_,b2⟩
  have hlen:(C1++jp Z1.length ts x).length=C1.length+ts.length:=by rw[Zp,hcl]
  have hpos:(Z1++gO ts (ij mT x k).1).length=Z1.length+(gO ts x).length:=by rw[Zp,Fa mT hx]
  rw[hlen,hpos,hC2]at b1
  simp only[Qu,aB,Zn]at a1 b1⊢
  rw[hB]at b1
  rw[a1]
  exact b1
 | .l us f::ss,hss,c,C1,Z1,b,k,t,hb,h0,hk,h1,h2,hc,hl=>by
  simp only[iN,MS.ts]at hb h2⊢
  obtain⟨x,y,rfl,hx,hy⟩:=pD (ts:=[.lst us]) hb
  have hN:=Ae ss (c+4)
  simp only[Qv]at hl
  simp only[oQ]at hk
  have hle:=sS mT y (ij mT x k).2
  have hlx:=sS mT x k
  have hcl:=Hn hx Z1.length
  have hx':=hx
  obtain⟨p,x',rfl,hp,hn⟩:=dO hx'
  obtain rfl:=fL hn
  obtain⟨rows,rfl⟩:=oJ hp
  rw[I8 hx]at h2⊢
  rw[LP hx]
  simp only[oQ,G3 mT hx]
  generalize hC2:jp (Z1.length+(gO [.lst us] [.lst rows]).length) (iN ss) y=C2
  generalize hB:[AObj.box (C1++(jp Z1.length [.lst us] [.lst rows]++C2))]=B
  have hcut:fT false 1 C1.length (C1++(jp Z1.length [.lst us] [.lst rows]++C2))=some (.one (.arr Z1.length)):=by
   simp[fT,jp]
  obtain⟨t1,a1,a2,a3,a4⟩:=Kj (Φ:=Φ) (ext:=ext) (mT:=mT) (g:=false) (n:=1) (f:=f) (c:=c) (m:=Z1.length+(gO [.lst us] [.lst rows]++gO (iN ss) y).length) (C1:=C1) (C2:=jp Z1.length [.lst us] [.lst rows]++C2) (Z1:=Z1) (Z2:=gO (iN ss) y++B) (v:= .one (.arr Z1.length)) (a:= .one (.down us.length rows)) hx h1 h2 hc (by omega) (by
   rw[←hB]
   have:Z1++gO [.lst us] [.lst rows]++(gO (iN ss) y++[AObj.box (C1++(jp Z1.length [.lst us] [.lst rows]++C2))])=(Z1++(gO [.lst us] [.lst rows]++gO (iN ss) y))++[AObj.box (C1++(jp Z1.length [.lst us] [.lst rows]++C2))]:=by simp
   rw[this,Zj (by simp)]
   simp) hcut rfl (fun _ _ h=>by cases h) (by
   have:=NN hx Z1 (gO (iN ss) y++B)
   simp only[jp,I9,mD]at this
   split at this
   ·rename_i a b h1 h2
    cases this
    cases h2
    simp only[vC,h1]
   ·cases this) (by
   simp only[ij]at hle hlx hk⊢
   exact hss.1.2 rows hp k h0 (by omega))
  obtain⟨t2,b1,b2⟩:=Cg ss hss.2 (c:=c+4) (C1:=C1++jp Z1.length [.lst us] [.lst rows]) (Z1:=Z1++gO [.lst us] (ij mT [.lst rows] k).1) (b:=y) (k:=(ij mT [.lst rows] k).2) (t:=t1) hy (by omega) hk a3 (by rw[a4];simp only[Zp,Fa mT hx];congr 3;omega) (by omega) (by omega)
  refine⟨t2,?_,b2⟩
  have hlen:(C1++jp Z1.length [.lst us] [.lst rows]).length=C1.length+1:=by rw[Zp,hcl];rfl
  have hpos:(Z1++gO [.lst us] (ij mT [.lst rows] k).1).length=Z1.length+(gO [.lst us] [.lst rows]).length:=by rw[Zp,Fa mT hx]
  rw[hlen,hpos,hC2]at b1
  simp only[Qu,aB,Zn]at a1 b1⊢
  rw[hB]at b1
  rw[a1]
  exact b1
theorem xW {f:Nat}{ss:List MS}(hk:Φ f=some (qH ss))(hn:Φ (f+nN)=none)(hss:Jb Φ ext mT ss):OA Φ ext mT f (iN ss):=by
 intro row hr k h0 hk2
 have hN:=Ae ss 5
 obtain⟨m,hm⟩:∃m,Qv 5 ss+1-2=m+4:=⟨Qv 5 ss-5,by omega⟩
 have hz:(qH ss).body.noZ=true:=by
  simp only[qH,ACode.noZ,Ci,Bool.and_true]
  rfl
 refine CE hn hk hz ?_
 obtain⟨ds,d1,d2⟩:=Tw hr []
 simp only[List.length_nil,Zt]at d1
 have hA:dw [] [.agg (I9 (iN ss) row),ae .i64 k]=([.agg (jp 0 (iN ss) row),ae .i64 k],ds):=by
  simp only[dw,thaw,d1,thawL]
 have hst:iJ (qH ss) [.agg (I9 (iN ss) row),ae .i64 k]=⟨.agg (jp 0 (iN ss) row)::ae .i64 k::List.replicate (m+4) (.tup []),gO (iN ss) row⟩:=by
  simp only[iJ,hA,d2,qH,Zo,List.length_nil,Zr,Zt,hm]
 have hlen:ds.length=(gO (iN ss) row).length:=by rw[←d2];simp
 let t0:List V:= .agg (jp 0 (iN ss) row)::ae .i64 k:: .one (.ptr (gO (iN ss) row).length 0 0):: .tup []::ae .i64 0::List.replicate (m+1) (.tup [])
 have hl0:t0.length=Qv 5 ss+1:=by simp[t0];omega
 obtain⟨t',a1,a2⟩:=Cg (Φ:=Φ) (ext:=ext) ss hss (c:=5) (C1:=[]) (Z1:=[]) (b:=row) (k:=k) (t:=t0) hr h0 hk2 rfl (by simp[t0]) (Zk _) (by omega)
 simp only[List.length_nil,Zt]at a1
 have hrun:f8 Φ ext (qH ss).body (iJ (qH ss) [.agg (I9 (iN ss) row),ae .i64 k])=some (.ret,⟨t',gO (iN ss) (ij mT row k).1++[.box (jp 0 (iN ss) row)]⟩):=by
  rw[hst]
  have hrep:List.replicate (m+4) (V.tup [])= .tup []:: .tup []:: .tup []::List.replicate (m+1) (.tup []):=rfl
  simp only[t0]at a1
  simp only[f8,qH,hrep,aB,am,aK,aW,bo,cj,Opd.ev,put,List.getD_cons_zero,V.cells,QO hr,if_true,List.set_cons_succ,List.set_cons_zero]
  exact a1
 have htake:(gO (iN ss) (ij mT row k).1++[AObj.box (jp 0 (iN ss) row)]).take ds.length=gO (iN ss) (ij mT row k).1:=by
  rw[hlen,←Fa mT hr k,List.take_left]
 rw[hrun]
 simp only[vt,FS,qH,aS,aA,cN,a2,List.flatMap_cons,List.flatMap_nil,Z3,V.cells,bJ,comp,aM,bA,hA,htake,Tn mT hr,L.flat,if_true]
 rfl
end
def yU :Nat→Nat→List UInt8→List UInt8
 |0,_,o=>o
 |n+1,k,o=>if k=0 then o else yU n (k/10) (UInt8.ofNat (48+k%10)::o)
def d8 (k:Int):List UInt8:=if k≤0 then [109,48]else 109::yU 13 k.toNat []
theorem JB :∀(n k:Nat)(o:List UInt8),(yU n k o).length≤n+o.length
 |0,k,o=>by simp[yU]
 |n+1,k,o=>by
  simp only[yU]
  split
  ·omega
  ·have:=JB n (k/10) (UInt8.ofNat (48+k%10)::o)
   simp only[Zo]at this
   omega
def UN :ACode:= .seq (.seq (.region [⟨some 6, .mv (.tmp 0),none⟩,⟨some 7, .bin .gtr (.tmp 6) (.pv (.int .i64 0)),none⟩]) (.cond (.tmp 7) .skip (.exit 0))) (.block 1 (.seq (.region [⟨some 8, .mv (.tmp 0),none⟩,⟨some 9, .bin .rem (.tmp 8) (.pv (.int .i64 10)),none⟩,⟨some 10, .bin .add (.pv (.int .i64 48)) (.tmp 9),none⟩,⟨some 11, .conv .u8 (.tmp 10),none⟩,⟨some 12, .buildS 1 [.tmp 11],none⟩,⟨some 13, .b2s (.tmp 12),none⟩,⟨some 14, .mv (.tmp 3),none⟩,⟨some 15, .bin .add (.tmp 13) (.tmp 14),none⟩,⟨some 3, .mv (.tmp 15),none⟩]) (.region [⟨some 16, .mv (.tmp 0),none⟩,⟨some 17, .bin .quo (.tmp 16) (.pv (.int .i64 10)),none⟩,⟨some 0, .mv (.tmp 17),none⟩])))
def Vs :AFn:=⟨20,[.tmp 2], .seq (.region [⟨some 2, .mv (.pv (.str [])),none⟩]) (.seq (.seq (.region [⟨some 4, .mv (.tmp 0),none⟩,⟨some 5, .bin .leq (.tmp 4) (.pv (.int .i64 0)),none⟩]) (.cond (.tmp 5) (.seq (.region [⟨some 2, .mv (.pv (.str [109,48])),none⟩]) .ret) .skip)) (.seq (.region [⟨some 3, .mv (.pv (.str [])),none⟩]) (.seq (.block 0 (.loop UN)) (.seq (.region [⟨some 18, .mv (.tmp 3),none⟩,⟨some 19, .bin .add (.pv (.str [109])) (.tmp 18),none⟩,⟨some 2, .mv (.tmp 19),none⟩]) .ret))))⟩
section
variable {Φ:Nat→Option AFn}{ext:Nat→List V→Option V}
theorem Ty :∀(n k:Nat),k<10^n→k<9223372036854775807→∀(o:List UInt8),o.length+n≤1000→∀(u1 u2 u4 u5 u6 u7 u8 u9 u10 u11 u12 u13 u14 u15 u16 u17 u18 u19:V)(h:List AObj),
 ∃w1 w2 w4 w5 w6 w7 w8 w9 w10 w11 w12 w13 w14 w15 w16 w17 w18 w19 h',aG (aB (ah Φ ext) aG UN) ⟨[ae .i64 k,u1,u2,cU o,u4,u5,u6,u7,u8,u9,u10,u11,u12,u13,u14,u15,u16,u17,u18,u19],h⟩=some (.exit 0,⟨[ae .i64 0,w1,w2,cU (yU n k o),w4,w5,w6,w7,w8,w9,w10,w11,w12,w13,w14,w15,w16,w17,w18,w19],h'⟩):=by
 intro n
 induction n with
 |zero=>
  intro k hk hk2 o ho u1 u2 u4 u5 u6 u7 u8 u9 u10 u11 u12 u13 u14 u15 u16 u17 u18 u19 h
  obtain rfl:k=0:=by simpa using hk
  refine⟨u1,u2,u4,u5,ae .i64 0,aF false,u8,u9,u10,u11,u12,u13,u14,u15,u16,u17,u18,u19,h,iG ?_ (by simp)⟩
  simp[UN,aB,am,aK,aW,bo,Opd.ev,put,bin,cA,isBool,yU]
 |succ n ih=>
  intro k hk hk2 o ho u1 u2 u4 u5 u6 u7 u8 u9 u10 u11 u12 u13 u14 u15 u16 u17 u18 u19 h
  by_cases h0:k=0
  ·subst h0
   refine⟨u1,u2,u4,u5,ae .i64 0,aF false,u8,u9,u10,u11,u12,u13,u14,u15,u16,u17,u18,u19,h,iG ?_ (by simp)⟩
   simp[UN,aB,am,aK,aW,bo,Opd.ev,put,bin,cA,isBool,yU]
  ·have hpos:(0:Int)<(k:Int):=by omega
   have hm:(k:Int).tmod 10=((k%10:Nat):Int):=by
    rw[Int.tmod_eq_emod_of_nonneg (by omega)];omega
   have hq:(k:Int).tdiv 10=((k/10:Nat):Int):=by
    rw[Int.tdiv_eq_ediv_of_nonneg (by omega)];omega
   have hw1:IntKind.i64.wrap (48+((k%10:Nat):Int))=((48+k%10:Nat):Int):=by rw[IntKind.wrap_i64];omega
   have hw2:IntKind.u8.wrap ((48+k%10:Nat):Int)=((48+k%10:Nat):Int):=by rw[IntKind.wrap_u8];omega
   have hw3:IntKind.i64.wrap ((k/10:Nat):Int)=((k/10:Nat):Int):=by rw[IntKind.wrap_i64];omega
   have hlt:k/10<10^n:=by
    rw[Nat.pow_succ]at hk
    omega
   have hlen:([UInt8.ofNat (48+k%10)]:List UInt8).length+o.length≤9223372036854775807:=by simp;omega
   obtain⟨w1,w2,w4,w5,w6,w7,w8,w9,w10,w11,w12,w13,w14,w15,w16,w17,w18,w19,h',e⟩:=ih (k/10) hlt (by omega) (UInt8.ofNat (48+k%10)::o) (by simp;omega) u1 u2 u4 u5 (ae .i64 k) (aF true) (ae .i64 k) (ae .i64 ((k%10:Nat):Int)) (ae .i64 ((48+k%10:Nat):Int)) (ae .u8 ((48+k%10:Nat):Int)) (.one (.arr h.length)) (cU [UInt8.ofNat (48+k%10)]) (cU o) (cU (UInt8.ofNat (48+k%10)::o)) (ae .i64 k) (ae .i64 ((k/10:Nat):Int)) u18 u19 (h++[.arr 1 [[.int .u8 ((48+k%10:Nat):Int)]]])
   refine⟨w1,w2,w4,w5,w6,w7,w8,w9,w10,w11,w12,w13,w14,w15,w16,w17,w18,w19,h',(fJ ?_).trans (e.trans ?_)⟩
   ·have hbs:nE [[PV.int .u8 ((48+k%10:Nat):Int)]]=some [UInt8.ofNat (48+k%10)]:=by
     simp only[nE,Int.toNat_natCast]
    have hvr:aO h [ae .u8 ((48+k%10:Nat):Int)]=some [[.int .u8 ((48+k%10:Nat):Int)]]:=rfl
    have hfz:freezeVs h [ae .u8 ((48+k%10:Nat):Int)]=h:=rfl
    have hal:asList (h++[AObj.arr 1 [[.int .u8 ((48+k%10:Nat):Int)]]]) (.one (.arr h.length))=some [[.int .u8 ((48+k%10:Nat):Int)]]:=by
     simp[asList,L.view]
    have hbp:decide ((0:Int)<(k:Int))=true:=decide_eq_true hpos
    have h10:¬((10:Int)=0):=by decide
    have hc1:(([ae .u8 ((48+k%10:Nat):Int)]:List V).all (fun v=>v.cells.length==1)&&decide (0<1)&&decide (([ae .u8 ((48+k%10:Nat):Int)]:List V).length*1≤16777216))=true:=rfl
    simp only[UN,aB,am,aK,aW,bo,cj,Opd.ev,put,List.getD_cons_zero,List.getD_cons_succ,List.set_cons_succ,List.set_cons_zero,bin,cA,i7,if_true,if_neg h10,hbp,isBool,isInt,Zu,Z4,hm,hw1,hw2,hc1,hvr,hfz,hal,hbs,hlen,hq,hw3,Zr,Zt]
   ·simp only[yU,if_neg h0]
theorem UD {f:Nat}(hk:Φ f=some Vs):Bb Φ ext d8 f:=by
 intro k h0 hM
 refine fy hk ?_
 by_cases hz:k≤0
 ·have hb:decide (k≤0)=true:=decide_eq_true hz
  simp[Vs,start,f8,aB,am,aK,aW,bo,Opd.ev,put,bin,cA,hb,isBool,done,aS,aA,cN,bJ,comp,aM,bA,ar,V.cells,d8,hz]
 ·have hb:decide (k≤0)=false:=decide_eq_false hz
  obtain⟨n,rfl⟩:∃n:Nat,k=n:=⟨k.toNat,by omega⟩
  unfold BX at hM
  have hdl:=JB 13 n []
  have hlen:([109]:List UInt8).length+(yU 13 n []).length≤9223372036854775807:=by simp at hdl⊢;omega
  have hlen':1+(yU 13 n []).length≤9223372036854775807:=by simpa using hlen
  generalize hlp:aG (aB (ah Φ ext) aG UN)=lp
  have hloop:∀u1 u2 u4 u5 u6 u7 u8 u9 u10 u11 u12 u13 u14 u15 u16 u17 u18 u19 h,∃w1 w2 w4 w5 w6 w7 w8 w9 w10 w11 w12 w13 w14 w15 w16 w17 w18 w19 h',lp ⟨[ae .i64 n,u1,u2,cU [],u4,u5,u6,u7,u8,u9,u10,u11,u12,u13,u14,u15,u16,u17,u18,u19],h⟩=some (.exit 0,⟨[ae .i64 0,w1,w2,cU (yU 13 n []),w4,w5,w6,w7,w8,w9,w10,w11,w12,w13,w14,w15,w16,w17,w18,w19],h'⟩):=by
   rw[←hlp]
   exact Ty (Φ:=Φ) (ext:=ext) 13 n (by omega) (by omega) [] (by simp)
  obtain⟨w1,w2,w4,w5,w6,w7,w8,w9,w10,w11,w12,w13,w14,w15,w16,w17,w18,w19,h',e⟩:=hloop (.tup []) (cU []) (ae .i64 n) (aF false) (.tup []) (.tup []) (.tup []) (.tup []) (.tup []) (.tup []) (.tup []) (.tup []) (.tup []) (.tup []) (.tup []) (.tup []) (.tup []) (.tup []) []
  have hm:d8 (n:Int)=109::yU 13 n []:=by simp only[d8,if_neg hz,Int.toNat_natCast]
  rw[hm]
  simp only[Vs,start,f8,aB,hlp,Z0,Nat.reduceSub,List.replicate,Zr,Zt,am,aK,aW,bo,Opd.ev,put,List.getD_cons_zero,List.getD_cons_succ,List.set_cons_succ,List.set_cons_zero,bin,cA,hb,if_true,isBool,Z8,if_false,e,i7,hlen]
  simp[hlen',done,aS,aA,cN,bJ,comp,aM,bA,ar,V.cells]
end
end Gi
