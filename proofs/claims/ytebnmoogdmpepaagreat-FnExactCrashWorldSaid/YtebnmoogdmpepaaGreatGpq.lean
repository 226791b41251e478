/- Of this proof. -/
import Derived.Test.YtebnmoogdmpepaaGreatGpn
set_option linter.unusedSimpArgs false
set_option linter.unusedVariables false
namespace Gi
open Go Go.RowKit
section
variable (mT:Int→List UInt8)
def ft :List PV→Int→List PV×Int
 |[],k=>([],k)
 | .lst rows::ps,k=>(.lst (bJ mT rows k).1::(ft ps (bJ mT rows k).2).1,(ft ps (bJ mT rows k).2).2)
 |p::ps,k=>(p::(ft ps k).1,(ft ps k).2)
end
theorem lh (mT:Int→List UInt8):∀(a b:List PV)(k:Int),ft mT (a++b) k=((ft mT a k).1++(ft mT b (ft mT a k).2).1,(ft mT b (ft mT a k).2).2)
 |[],b,k=>by simp only[Zi,ft]
 | .lst rows::a,b,k=>by simp only[Zf,ft,lh mT a b]
 | .int _ _::a,b,k=>by simp only[Zf,ft,lh mT a b]
 | .bool _::a,b,k=>by simp only[Zf,ft,lh mT a b]
 | .str _::a,b,k=>by simp only[Zf,ft,lh mT a b]
theorem kI (mT:Int→List UInt8):∀(a:List PV)(k:Int),k≤(ft mT a k).2
 |[],k=>by simp only[ft];omega
 | .lst rows::a,k=>by
  simp only[ft]
  have:=jX mT rows k
  have:=kI mT a (bJ mT rows k).2
  omega
 | .int _ _::a,k=>by simp only[ft];exact kI mT a k
 | .bool _::a,k=>by simp only[ft];exact kI mT a k
 | .str _::a,k=>by simp only[ft];exact kI mT a k
def IB :List PTy→List PV→List L
 | .lst us::ts, .lst rows::ps=> .down us.length rows::IB ts ps
 |_::ts,p::ps=> .pv p::IB ts ps
 |_,_=>[]
def gX :List PTy→List PV→List AObj
 | .lst us::ts, .lst rows::ps=> .zarr us.length rows::gX ts ps
 |_::ts,_::ps=>gX ts ps
 |_,_=>[]
def jr :Nat→List PTy→List PV→List L
 |j, .lst us::ts, .lst rows::ps=> .arr j::jr (j+1) ts ps
 |j,_::ts,p::ps=> .pv p::jr j ts ps
 |_,_,_=>[]
def Ou :List PTy→List PV→List (Bool×List L)
 | .lst us::ts, .lst rows::ps=>(false,[.down us.length rows])::Ou ts ps
 |_::ts,_::ps=>Ou ts ps
 |_,_=>[]
theorem f4 {P:List PTy→List PV→Prop}(nil:P [] [])(lst:∀us rows ts ps,nQ (.lst us) (.lst rows)→bi ts ps→P ts ps→P (.lst us::ts) (.lst rows::ps))(flat:∀t p ts ps,nQ t p→t.flatT=true→p.flat=true→bi ts ps→P ts ps→P (t::ts) (p::ps)):∀(ts:List PTy)(ps:List PV),bi ts ps→P ts ps
 |[],ps,h=>by rw[fR h];exact nil
 | .lst us::ts,ps,h=>by
  obtain⟨p,r,rfl,h1,h2⟩:=eA h
  obtain⟨rows,rfl⟩:=nR h1
  exact lst us rows ts r h1 h2 (f4 nil lst flat ts r h2)
 | .int κ::ts,ps,h=>by
  obtain⟨p,r,rfl,h1,h2⟩:=eA h
  obtain⟨n,rfl⟩:=ma h1
  exact flat _ _ ts r h1 rfl rfl h2 (f4 nil lst flat ts r h2)
 | .bool::ts,ps,h=>by
  obtain⟨p,r,rfl,h1,h2⟩:=eA h
  obtain⟨n,rfl⟩:=kL h1
  exact flat _ _ ts r h1 rfl rfl h2 (f4 nil lst flat ts r h2)
 | .str::ts,ps,h=>by
  obtain⟨p,r,rfl,h1,h2⟩:=eA h
  obtain⟨n,rfl⟩:=mb h1
  exact flat _ _ ts r h1 rfl rfl h2 (f4 nil lst flat ts r h2)
theorem Kp {t:PTy}{p:PV}{ts:List PTy}{ps:List PV}(ht:t.flatT=true):IB (t::ts) (p::ps)= .pv p::IB ts ps:=by cases t<;>first|rfl|cases ht
theorem ig {t:PTy}{p:PV}{ts:List PTy}{ps:List PV}(ht:t.flatT=true):gX (t::ts) (p::ps)=gX ts ps:=by cases t<;>first|rfl|cases ht
theorem me {t:PTy}{p:PV}{ts:List PTy}{ps:List PV}{j:Nat}(ht:t.flatT=true):jr j (t::ts) (p::ps)= .pv p::jr j ts ps:=by cases t<;>first|rfl|cases ht
theorem Ld {t:PTy}{p:PV}{ts:List PTy}{ps:List PV}(ht:t.flatT=true):Ou (t::ts) (p::ps)=Ou ts ps:=by cases t<;>first|rfl|cases ht
theorem qf (mT:Int→List UInt8){p:PV}{ps:List PV}{k:Int}(hp:p.flat=true):ft mT (p::ps) k=(p::(ft mT ps k).1,(ft mT ps k).2):=by cases p<;>first|rfl|cases hp
theorem Iz {ts:List PTy}{ps:List PV}(h:bi ts ps):∀j,(jr j ts ps).length=ts.length:=by
 refine f4 (P:=fun ts ps=>∀j,(jr j ts ps).length=ts.length) (fun j=>rfl) ?_ ?_ ts ps h
 ·intro us rows ts ps _ _ ih j
  simp only[jr,Zn,ih]
 ·intro t p ts ps _ ht hp _ ih j
  rw[me ht]
  simp only[Zn,ih]
theorem Ti {ts:List PTy}{ps:List PV}(h:bi ts ps):∀hh:List AObj,∃ds,thawL hh (IB ts ps)=(jr hh.length ts ps,hh++ds)∧ds.map AObj.zone=gX ts ps:=by
 refine f4 (P:=fun ts ps=>∀hh:List AObj,∃ds,thawL hh (IB ts ps)=(jr hh.length ts ps,hh++ds)∧ds.map AObj.zone=gX ts ps) ?_ ?_ ?_ ts ps h
 ·intro hh;exact⟨[],by simp[IB,thawL,jr],rfl⟩
 ·intro us rows ts ps _ _ ih hh
  obtain⟨ds,e1,e2⟩:=ih (hh++[.darr us.length rows])
  refine⟨.darr us.length rows::ds,?_,by simp only[Zv,e2,AObj.zone,gX]⟩
  simp only[IB,thawL,e1,jr,Zu,Z6,Zo,Zf,Zi]
 ·intro t p ts ps _ ht hp _ ih hh
  obtain⟨ds,e1,e2⟩:=ih hh
  refine⟨ds,?_,by rw[e2,ig ht]⟩
  rw[Kp ht,me ht]
  simp only[thawL,e1]
theorem O1 {p:PV}(h:p.flat=true):p.bare=true:=by cases p<;>first|rfl|cases h
theorem Od {ts:List PTy}{ps:List PV}(h:bi ts ps):∀(pre post:List AObj),kH (pre++gX ts ps++post) (jr pre.length ts ps)=some (IB ts ps):=by
 refine f4 (P:=fun ts ps=>∀(pre post:List AObj),kH (pre++gX ts ps++post) (jr pre.length ts ps)=some (IB ts ps)) (fun _ _=>rfl) ?_ ?_ ts ps h
 ·intro us rows ts ps _ _ ih pre post
  have:=ih (pre++[.zarr us.length rows]) post
  simp only[Zu,Z6,Zo,Zf,Zi]at this
  have hg:(pre++(AObj.zarr us.length rows::(gX ts ps++post)))[pre.length]? =some (.zarr us.length rows):=by
   rw[Zh (Zl _),Y4];rfl
  simp only[gX,jr,IB,Zo,Zf,kH,wg,hg,this]
 ·intro t p ts ps _ ht hp _ ih pre post
  rw[Kp ht,me ht,ig ht]
  have hb:PV.bare _=true:=O1 hp
  simp only[kH,wg,hb,if_true,ih pre post]
theorem Sx {ts:List PTy}{ps:List PV}(h:bi ts ps):∀(j:Nat),(al (jr j ts ps)).Nodup∧∀o∈al (jr j ts ps),j≤o:=by
 refine f4 (P:=fun ts ps=>∀(j:Nat),(al (jr j ts ps)).Nodup∧∀o∈al (jr j ts ps),j≤o) (fun j=>⟨List.nodup_nil,fun o ho=>by cases ho⟩) ?_ ?_ ts ps h
 ·intro us rows ts ps _ _ ih j
  obtain⟨h1,h2⟩:=ih (j+1)
  have e:al (jr j (.lst us::ts) (.lst rows::ps))=j::al (jr (j+1) ts ps):=by simp[jr,al]
  rw[e]
  refine⟨Yx.2 ⟨fun hm=>by have:=h2 _ hm;omega,h1⟩,fun o ho=> ?_⟩
  rcases Yh.1 ho with rfl|ho
  ·exact Zl _
  ·have:=h2 o ho;omega
 ·intro t p ts ps _ ht hp _ ih j
  have e:al (jr j (t::ts) (p::ps))=al (jr j ts ps):=by rw[me ht];simp[al]
  rw[e];exact ih j
theorem Ud (mT:Int→List UInt8){ts:List PTy}{ps:List PV}(h:bi ts ps):∀(pre post:List AObj)(k:Int),jK (pre++gX ts ps++post) (al (jr pre.length ts ps)) (Ou ts (ft mT ps k).1)=some (pre++gX ts (ft mT ps k).1++post):=by
 refine f4 (P:=fun ts ps=>∀(pre post:List AObj)(k:Int),jK (pre++gX ts ps++post) (al (jr pre.length ts ps)) (Ou ts (ft mT ps k).1)=some (pre++gX ts (ft mT ps k).1++post)) (fun _ _ _=>rfl) ?_ ?_ ts ps h
 ·intro us rows ts ps _ _ ih pre post k
  have:=ih (pre++[.zarr us.length (bJ mT rows k).1]) post (bJ mT rows k).2
  simp only[Zu,Z6,Zo,Zf,Zi]at this
  have e:al (jr pre.length (.lst us::ts) (.lst rows::ps))=pre.length::al (jr (pre.length+1) ts ps):=by simp[jr,al]
  rw[e]
  simp only[ft,gX,Ou,jK,Zo,Zf]
  rw[Y3 _ _ (Zl _),Y4,Yd,this]
 ·intro t p ts ps _ ht hp _ ih pre post k
  have e:al (jr pre.length (t::ts) (p::ps))=al (jr pre.length ts ps):=by rw[me ht];simp[al]
  rw[e,qf mT hp,ig ht,ig ht,Ld ht]
  exact ih pre post k
theorem Te (mT:Int→List UInt8){ts:List PTy}{ps:List PV}(h:bi ts ps):∀k,gM (gX ts (ft mT ps k).1)=some (Ou ts (ft mT ps k).1):=by
 refine f4 (P:=fun ts ps=>∀k,gM (gX ts (ft mT ps k).1)=some (Ou ts (ft mT ps k).1)) (fun _=>rfl) ?_ ?_ ts ps h
 ·intro us rows ts ps _ _ ih k
  simp only[ft,gX,gM,ih,Ou]
 ·intro t p ts ps _ ht hp _ ih k
  rw[qf mT hp,ig ht,Ld ht,ih]
theorem Gp (mT:Int→List UInt8){ts:List PTy}{ps:List PV}(h:bi ts ps):∀k,(gX ts (ft mT ps k).1).length=(gX ts ps).length:=by
 refine f4 (P:=fun ts ps=>∀k,(gX ts (ft mT ps k).1).length=(gX ts ps).length) (fun _=>rfl) ?_ ?_ ts ps h
 ·intro us rows ts ps _ _ ih k
  simp only[ft,gX,Zn,ih]
 ·intro t p ts ps _ ht hp _ ih k
  rw[qf mT hp,ig ht,ig ht,ih]
theorem JW {ts us:List PTy}{a b:List PV}(h:bi ts a):gX (ts++us) (a++b)=gX ts a++gX us b:=by
 refine f4 (P:=fun ts a=>gX (ts++us) (a++b)=gX ts a++gX us b) rfl ?_ ?_ ts a h
 ·intro us rows ts ps _ _ ih
  simp only[Zf,gX,ih]
 ·intro t p ts ps _ ht hp _ ih
  simp only[Zf]
  rw[ig ht,ig ht,ih]
theorem Ij (mT:Int→List UInt8){ts us:List PTy}{a b:List PV}(h:bi ts a):∀k,gX (ts++us) ((ft mT a k).1++b)=gX ts (ft mT a k).1++gX us b:=by
 refine f4 (P:=fun ts a=>∀k,gX (ts++us) ((ft mT a k).1++b)=gX ts (ft mT a k).1++gX us b) (fun _=>rfl) ?_ ?_ ts a h
 ·intro us rows ts ps _ _ ih k
  simp only[ft,Zf,gX,ih]
 ·intro t p ts ps _ ht hp _ ih k
  rw[qf mT hp]
  simp only[Zf]
  rw[ig ht,ig ht,ih]
theorem Mr {ts us:List PTy}{a b:List PV}(h:bi ts a):∀j,jr j (ts++us) (a++b)=jr j ts a++jr (j+(gX ts a).length) us b:=by
 refine f4 (P:=fun ts a=>∀j,jr j (ts++us) (a++b)=jr j ts a++jr (j+(gX ts a).length) us b) (fun j=>rfl) ?_ ?_ ts a h
 ·intro us rows ts ps _ _ ih j
  simp only[Zf,jr,gX,Zn,ih]
  rw[show j+1+(gX ts ps).length=j+((gX ts ps).length+1) by omega]
 ·intro t p ts ps _ ht hp _ ih j
  simp only[Zf]
  rw[me ht,me ht,ig ht,ih]
  rfl
theorem Q1 {ts:List PTy}{ps:List PV}(h:bi ts ps):∀j,(jr j ts ps).all plain=true:=by
 refine f4 (P:=fun ts ps=>∀j,(jr j ts ps).all plain=true) (fun j=>rfl) ?_ ?_ ts ps h
 ·intro us rows ts ps _ _ ih j
  simp only[jr,Zq,ih,Xi];rfl
 ·intro t p ts ps _ ht hp _ ih j
  rw[me ht]
  simp only[Zq,ih,Xi];rfl
inductive MS where
 |k (ts:List PTy)
 |s (ts:List PTy) (f:Nat)
 |l (us:List PTy) (f:Nat)
def MS.ts :MS→List PTy
 | .k ts=>ts
 | .s ts _=>ts
 | .l us _=>[.lst us]
def gS :List MS→List PTy
 |[]=>[]
 |s::ss=>s.ts++gS ss
def Up (c off:Nat)(g:Bool)(n f:Nat):List AOper:=[⟨some c, .fieldA (.tmp 2) off,none⟩,⟨some (c+1), .loadZ g n (.tmp c),none⟩,⟨some (c+2), .mv (.tmp 1),none⟩,⟨some (c+3), .callM f (.tmp (c+1)) (.tmp (c+2)),none⟩,⟨some 1, .mv (.tmp (c+3)),none⟩]
def P0 :Nat→Nat→List MS→ACode
 |c,_,[]=> .seq (.region [⟨some c, .mv (.tmp 1),none⟩,⟨some 4, .mv (.tmp c),none⟩]) .ret
 |c,off, .k ts::ss=>P0 c (off+ts.length) ss
 |c,off, .s ts f::ss=> .seq (.region (Up c off true ts.length f)) (P0 (c+4) (off+ts.length) ss)
 |c,off, .l _ f::ss=> .seq (.region (Up c off false 1 f)) (P0 (c+4) (off+1) ss)
def P1 :Nat→List MS→Nat
 |c,[]=>c
 |c, .k _::ss=>P1 c ss
 |c,_::ss=>P1 (c+4) ss
def qd (ss:List MS):AFn:=⟨P1 5 ss+1,[.tmp 4], .seq (.region [⟨some 2, .box (.tmp 0),none⟩,⟨some 4, .mv (.pv (.int .i64 0)),none⟩]) (P0 5 0 ss)⟩
theorem Dz :∀(ss:List MS)(c off:Nat),(P0 c off ss).noZ=true
 |[],c,off=>rfl
 | .k ts::ss,c,off=>Dz ss c _
 | .s ts f::ss,c,off=>by simp only[P0,ACode.noZ,Dz ss,Xi];rfl
 | .l us f::ss,c,off=>by simp only[P0,ACode.noZ,Dz ss,Xi];rfl
theorem Bk :∀(ss:List MS)(c:Nat),c≤P1 c ss
 |[],c=>Zl _
 | .k ts::ss,c=>Bk ss c
 | .s ts f::ss,c=>Zc (by omega) (Bk ss (c+4))
 | .l us f::ss,c=>Zc (by omega) (Bk ss (c+4))
section
variable {Φ:Nat→Option AFn}{ext:Nat→List V→Option V}{mT:Int→List UInt8}{mt:Nat}
def OU (Φ:Nat→Option AFn)(ext:Nat→List V→Option V)(mT:Int→List UInt8)(f:Nat)(ts:List PTy):Prop:=
 ∀row:List PV,bi ts row→∀k:Int,0≤k→(ft mT row k).2≤sE→ah Φ ext (f+hZ) [.agg (IB ts row),aa .i64 k]=some (.tup ((false,[.pv (.int .i64 (ft mT row k).2)])::Ou ts (ft mT row k).1))
def J1 (Φ:Nat→Option AFn)(ext:Nat→List V→Option V)(mT:Int→List UInt8):List MS→Prop
 |[]=>True
 | .k ts::ss=>ts.all PTy.flatT=true∧J1 Φ ext mT ss
 | .s ts f::ss=>OU Φ ext mT f ts∧J1 Φ ext mT ss
 | .l us f::ss=>pz Φ ext mT f us∧J1 Φ ext mT ss
theorem K4 {g:Bool}{n f c m:Nat}{C1 C2:List L}{Z1 Z2:List AObj}{ts:List PTy}{x:List PV}{v a:V}{k:Int}{t:List V}(hx:bi ts x)(h1:t[1]? =some (aa .i64 k))(h2:t[2]? =some (.one (.ptr m 0 0)))(hc:5≤c)(hl:c+3<t.length)
 (hb:(Z1++gX ts x++Z2)[m]? =some (.box (C1++C2))) (hcut:gn g n C1.length (C1++C2)=some v) (hv:v.cells=jr Z1.length ts x) (hsub:∀o c,v≠ .one (.sub o c)) (hlend:tw (Z1++gX ts x++Z2) v=some a) (hcall:ah Φ ext (f+hZ) [a,aa .i64 k]=some (.tup ((false,[.pv (.int .i64 (ft mT x k).2)])::Ou ts (ft mT x k).1))):
 ∃t',ai (ah Φ ext) (Up c C1.length g n f) ⟨t,Z1++gX ts x++Z2⟩=some ⟨t',Z1++gX ts (ft mT x k).1++Z2⟩∧t'.length=t.length∧t'[1]? =some (aa .i64 (ft mT x k).2)∧t'[2]? =some (.one (.ptr m 0 0)):=by
 have e1:=getD_some h1
 have e2:=getD_some h2
 have q1:(t.set c (V.one (.ptr m 0 C1.length))).getD c (.tup [])= .one (.ptr m 0 C1.length):=aD (by omega)
 have q2:((t.set c (V.one (.ptr m 0 C1.length))).set (c+1) v).getD 1 (.tup [])=aa .i64 k:=(dD (by omega)).trans ((dD (by omega)).trans e1)
 have q3:(((t.set c (V.one (.ptr m 0 C1.length))).set (c+1) v).set (c+2) (aa .i64 k)).getD (c+1) (.tup [])=v:=(dD (by omega)).trans (aD (by simp;omega))
 have q4:(((t.set c (V.one (.ptr m 0 C1.length))).set (c+1) v).set (c+2) (aa .i64 k)).getD (c+2) (.tup [])=aa .i64 k:=aD (by simp;omega)
 have q5:((((t.set c (V.one (.ptr m 0 C1.length))).set (c+1) v).set (c+2) (aa .i64 k)).set (c+3) (aa .i64 (ft mT x k).2)).getD (c+3) (.tup [])=aa .i64 (ft mT x k).2:=aD (by simp;omega)
 have hnd:(al v.cells).Nodup:=by rw[hv];exact(Sx hx _).1
 have hput:=Ud mT hx Z1 Z2 k
 rw[←hv]at hput
 have hM:jO (ah Φ ext) (Z1++gX ts x++Z2) f v k=some (aa .i64 (ft mT x k).2,Z1++gX ts (ft mT x k).1++Z2):=by
  unfold jO
  split
  ·rename_i o cc;exact absurd rfl (hsub o cc)
  ·simp only[hnd,if_true,hlend,hcall,L.flat,hput]
 refine⟨((((t.set c (V.one (.ptr m 0 C1.length))).set (c+1) v).set (c+2) (aa .i64 k)).set (c+3) (aa .i64 (ft mT x k).2)).set 1 (aa .i64 (ft mT x k).2),?_,by simp,Zd (by simp;omega),by rw[Za (by omega),Za (by omega),Za (by omega),Za (by omega),Za (by omega)];exact h2⟩
 simp only[Up,ai,az,aK,bj,cf,Opd.ev,e2,put,Yc,q1,qc,hb,bo,if_true,hcut,q2,q3,q4,hM,q5]
theorem Dy :∀(ss:List MS),J1 Φ ext mT ss→∀{c:Nat}{C1:List L}{Z1:List AObj}{b:List PV}{k:Int}{t:List V},bi (gS ss) b→0≤k→(ft mT b k).2≤sE→t[1]? =some (aa .i64 k)→t[2]? =some (.one (.ptr (Z1.length+(gX (gS ss) b).length) 0 0))→5≤c→P1 c ss<t.length→
 ∃t',aq (ah Φ ext) aB (P0 c C1.length ss) ⟨t,Z1++gX (gS ss) b++[.box (C1++jr Z1.length (gS ss) b)]⟩=some (.ret,⟨t',Z1++gX (gS ss) (ft mT b k).1++[.box (C1++jr Z1.length (gS ss) b)]⟩)∧t'.getD 4 (.tup [])=aa .i64 (ft mT b k).2
 |[],_,c,C1,Z1,b,k,t,hb,h0,hk,h1,h2,hc,hl=>by
  obtain rfl:=fR hb
  simp only[P1]at hl
  have q2:(t.set c (aa .i64 k)).getD c (.tup [])=aa .i64 k:=aD hl
  refine⟨(t.set c (aa .i64 k)).set 4 (aa .i64 k),?_,by simp only[ft];exact aD (by simp;omega)⟩
  simp only[P0,aq,ai,az,aK,bj,Opd.ev,getD_some h1,put,q2,ft]
 | .k ts::ss,hss,c,C1,Z1,b,k,t,hb,h0,hk,h1,h2,hc,hl=>by
  simp only[gS,MS.ts]at hb h2⊢
  obtain⟨x,y,rfl,hx,hy⟩:=kK (ts:=ts) hb
  have flat:∀{ts:List PTy}{x:List PV},bi ts x→ts.all PTy.flatT=true→gX ts x=[]∧∀k,ft mT x k=(x,k):=by
   intro ts x h
   refine f4 (P:=fun ts x=>ts.all PTy.flatT=true→gX ts x=[]∧∀k,ft mT x k=(x,k)) (fun _=>⟨rfl,fun _=>rfl⟩) ?_ ?_ ts x h
   ·intro us rows ts ps _ _ _ ha
    simp[PTy.flatT]at ha
   ·intro t p ts ps _ ht hp _ ih ha
    simp only[Zq,Zm]at ha
    obtain⟨i1,i2⟩:=ih ha.2
    exact⟨by rw[ig ht,i1],fun k=>by rw[qf mT hp,i2]⟩
  obtain⟨z0,m0⟩:=flat hx hss.1
  have hm:ft mT (x++y) k=(x++(ft mT y k).1,(ft mT y k).2):=by rw[lh,m0]
  have hlen:(C1++jr Z1.length ts x).length=C1.length+ts.length:=by rw[Zu,Iz hx]
  rw[JW hx,z0,Zi]at h2⊢
  rw[Mr hx,z0,hm]
  simp only[hm]at hk
  have hz2:∀y',gX (ts++gS ss) (x++y')=gX (gS ss) y':=fun y'=>by rw[JW hx,z0,Zi]
  simp only[hz2,Z8,Y1]
  obtain⟨t',r1,r2⟩:=Dy ss hss.2 (c:=c) (C1:=C1++jr Z1.length ts x) (Z1:=Z1) hy h0 hk h1 h2 hc hl
  rw[hlen]at r1
  simp only[Zo]at r1⊢
  exact⟨t',r1,r2⟩
 | .s ts f::ss,hss,c,C1,Z1,b,k,t,hb,h0,hk,h1,h2,hc,hl=>by
  simp only[gS,MS.ts]at hb h2⊢
  obtain⟨x,y,rfl,hx,hy⟩:=kK (ts:=ts) hb
  have hN:=Bk ss (c+4)
  simp only[P1]at hl
  simp only[lh]at hk
  have hle:=kI mT y (ft mT x k).2
  have hlx:=kI mT x k
  have hcl:=Iz hx Z1.length
  rw[JW hx]at h2⊢
  rw[Mr hx]
  simp only[lh,Ij mT hx]
  generalize hC2:jr (Z1.length+(gX ts x).length) (gS ss) y=C2
  generalize hB:[AObj.box (C1++(jr Z1.length ts x++C2))]=B
  have hcut:gn true ts.length C1.length (C1++(jr Z1.length ts x++C2))=some (.agg (jr Z1.length ts x)):=by
   unfold gn
   rw[if_pos (by simp[hcl]),if_pos rfl,List.drop_left,←hcl,List.take_left]
  obtain⟨t1,a1,a2,a3,a4⟩:=K4 (Φ:=Φ) (ext:=ext) (mT:=mT) (g:=true) (n:=ts.length) (f:=f) (c:=c) (m:=Z1.length+(gX ts x++gX (gS ss) y).length) (C1:=C1) (C2:=jr Z1.length ts x++C2) (Z1:=Z1) (Z2:=gX (gS ss) y++B) (v:= .agg (jr Z1.length ts x)) (a:= .agg (IB ts x)) hx h1 h2 hc (by omega) (by
   rw[←hB]
   have:Z1++gX ts x++(gX (gS ss) y++[AObj.box (C1++(jr Z1.length ts x++C2))])=(Z1++(gX ts x++gX (gS ss) y))++[AObj.box (C1++(jr Z1.length ts x++C2))]:=by simp
   rw[this,Zh (by simp)]
   simp) hcut rfl (fun _ _ h=>by cases h) (by
   have:=Od hx Z1 (gX (gS ss) y++B)
   simp only[tw,this]) (hss.1 x hx k h0 (by omega))
  obtain⟨t2,b1,b2⟩:=Dy ss hss.2 (c:=c+4) (C1:=C1++jr Z1.length ts x) (Z1:=Z1++gX ts (ft mT x k).1) (b:=y) (k:=(ft mT x k).2) (t:=t1) hy (by omega) hk a3 (by rw[a4];simp only[Zu,Gp mT hx];congr 3;omega) (by omega) (by omega)
  refine⟨t2,?_,b2⟩
  have hlen:(C1++jr Z1.length ts x).length=C1.length+ts.length:=by rw[Zu,hcl]
  have hpos:(Z1++gX ts (ft mT x k).1).length=Z1.length+(gX ts x).length:=by rw[Zu,Gp mT hx]
  rw[hlen,hpos,hC2]at b1
  simp only[P0,aq,Zo]at a1 b1⊢
  rw[hB]at b1
  rw[a1]
  exact b1
 | .l us f::ss,hss,c,C1,Z1,b,k,t,hb,h0,hk,h1,h2,hc,hl=>by
  simp only[gS,MS.ts]at hb h2⊢
  obtain⟨x,y,rfl,hx,hy⟩:=kK (ts:=[.lst us]) hb
  have hN:=Bk ss (c+4)
  simp only[P1]at hl
  simp only[lh]at hk
  have hle:=kI mT y (ft mT x k).2
  have hlx:=kI mT x k
  have hcl:=Iz hx Z1.length
  have hx':=hx
  obtain⟨p,x',rfl,hp,hn⟩:=eA hx'
  obtain rfl:=fR hn
  obtain⟨rows,rfl⟩:=nR hp
  rw[JW hx]at h2⊢
  rw[Mr hx]
  simp only[lh,Ij mT hx]
  generalize hC2:jr (Z1.length+(gX [.lst us] [.lst rows]).length) (gS ss) y=C2
  generalize hB:[AObj.box (C1++(jr Z1.length [.lst us] [.lst rows]++C2))]=B
  have hcut:gn false 1 C1.length (C1++(jr Z1.length [.lst us] [.lst rows]++C2))=some (.one (.arr Z1.length)):=by
   simp[gn,jr]
  obtain⟨t1,a1,a2,a3,a4⟩:=K4 (Φ:=Φ) (ext:=ext) (mT:=mT) (g:=false) (n:=1) (f:=f) (c:=c) (m:=Z1.length+(gX [.lst us] [.lst rows]++gX (gS ss) y).length) (C1:=C1) (C2:=jr Z1.length [.lst us] [.lst rows]++C2) (Z1:=Z1) (Z2:=gX (gS ss) y++B) (v:= .one (.arr Z1.length)) (a:= .one (.down us.length rows)) hx h1 h2 hc (by omega) (by
   rw[←hB]
   have:Z1++gX [.lst us] [.lst rows]++(gX (gS ss) y++[AObj.box (C1++(jr Z1.length [.lst us] [.lst rows]++C2))])=(Z1++(gX [.lst us] [.lst rows]++gX (gS ss) y))++[AObj.box (C1++(jr Z1.length [.lst us] [.lst rows]++C2))]:=by simp
   rw[this,Zh (by simp)]
   simp) hcut rfl (fun _ _ h=>by cases h) (by
   have:=Od hx Z1 (gX (gS ss) y++B)
   simp only[jr,IB,kH]at this
   split at this
   ·rename_i a b h1 h2
    cases this
    cases h2
    simp only[tw,h1]
   ·cases this) (by
   simp only[ft]at hle hlx hk⊢
   exact hss.1.2 rows hp k h0 (by omega))
  obtain⟨t2,b1,b2⟩:=Dy ss hss.2 (c:=c+4) (C1:=C1++jr Z1.length [.lst us] [.lst rows]) (Z1:=Z1++gX [.lst us] (ft mT [.lst rows] k).1) (b:=y) (k:=(ft mT [.lst rows] k).2) (t:=t1) hy (by omega) hk a3 (by rw[a4];simp only[Zu,Gp mT hx];congr 3;omega) (by omega) (by omega)
  refine⟨t2,?_,b2⟩
  have hlen:(C1++jr Z1.length [.lst us] [.lst rows]).length=C1.length+1:=by rw[Zu,hcl];rfl
  have hpos:(Z1++gX [.lst us] (ft mT [.lst rows] k).1).length=Z1.length+(gX [.lst us] [.lst rows]).length:=by rw[Zu,Gp mT hx]
  rw[hlen,hpos,hC2]at b1
  simp only[P0,aq,Zo]at a1 b1⊢
  rw[hB]at b1
  rw[a1]
  exact b1
theorem za {f:Nat}{ss:List MS}(hk:Φ f=some (qd ss))(hn:Φ (f+hZ)=none)(hss:J1 Φ ext mT ss):OU Φ ext mT f (gS ss):=by
 intro row hr k h0 hk2
 have hN:=Bk ss 5
 obtain⟨m,hm⟩:∃m,P1 5 ss+1-2=m+4:=⟨P1 5 ss-5,by omega⟩
 have hz:(qd ss).body.noZ=true:=by
  simp only[qd,ACode.noZ,Dz,Xi]
  rfl
 refine nZ hn hk hz ?_
 obtain⟨ds,d1,d2⟩:=Ti hr []
 simp only[Z8,Zi]at d1
 have hA:dE [] [.agg (IB (gS ss) row),aa .i64 k]=([.agg (jr 0 (gS ss) row),aa .i64 k],ds):=by
  simp only[dE,thaw,d1,thawL]
 have hst:ij (qd ss) [.agg (IB (gS ss) row),aa .i64 k]=⟨.agg (jr 0 (gS ss) row)::aa .i64 k::List.replicate (m+4) (.tup []),gX (gS ss) row⟩:=by
  simp only[ij,hA,d2,qd,Zn,Z8,Zf,Zi,hm]
 have hlen:ds.length=(gX (gS ss) row).length:=by rw[←d2];simp
 let t0:List V:= .agg (jr 0 (gS ss) row)::aa .i64 k:: .one (.ptr (gX (gS ss) row).length 0 0):: .tup []::aa .i64 0::List.replicate (m+1) (.tup [])
 have hl0:t0.length=P1 5 ss+1:=by simp[t0];omega
 obtain⟨t',a1,a2⟩:=Dy (Φ:=Φ) (ext:=ext) ss hss (c:=5) (C1:=[]) (Z1:=[]) (b:=row) (k:=k) (t:=t0) hr h0 hk2 rfl (by simp[t0]) (Zl _) (by omega)
 simp only[Z8,Zi]at a1
 have hrun:fL Φ ext (qd ss).body (ij (qd ss) [.agg (IB (gS ss) row),aa .i64 k])=some (.ret,⟨t',gX (gS ss) (ft mT row k).1++[.box (jr 0 (gS ss) row)]⟩):=by
  rw[hst]
  have hrep:List.replicate (m+4) (V.tup [])= .tup []:: .tup []:: .tup []::List.replicate (m+1) (.tup []):=rfl
  simp only[t0]at a1
  simp only[fL,qd,hrep,aq,ai,az,aK,bj,cf,Opd.ev,put,Y8,V.cells,Q1 hr,if_true,Ys,Yd]
  exact a1
 have htake:(gX (gS ss) (ft mT row k).1++[AObj.box (jr 0 (gS ss) row)]).take ds.length=gX (gS ss) (ft mT row k).1:=by
  rw[hlen,←Gp mT hr k,List.take_left]
 rw[hrun]
 simp only[ul,ET,qd,aY,ar,bQ,a2,Yl,Xa,Zz,V.cells,bM,comp,aJ,bH,hA,htake,Te mT hr,L.flat,if_true]
 rfl
end
def Ac :Nat→Nat→List UInt8→List UInt8
 |0,_,o=>o
 |n+1,k,o=>if k=0 then o else Ac n (k/10) (UInt8.ofNat (48+k%10)::o)
def aj (k:Int):List UInt8:=if k≤0 then [109,48]else 109::Ac 13 k.toNat []
theorem Ko :∀(n k:Nat)(o:List UInt8),(Ac n k o).length≤n+o.length
 |0,k,o=>by simp[Ac]
 |n+1,k,o=>by
  simp only[Ac]
  split
  ·omega
  ·have:=Ko n (k/10) (UInt8.ofNat (48+k%10)::o)
   simp only[Zn]at this
   omega
def Uu :ACode:= .seq (.seq (.region [⟨some 6, .mv (.tmp 0),none⟩,⟨some 7, .bin .gtr (.tmp 6) (.pv (.int .i64 0)),none⟩]) (.cond (.tmp 7) .skip (.exit 0))) (.block 1 (.seq (.region [⟨some 8, .mv (.tmp 0),none⟩,⟨some 9, .bin .rem (.tmp 8) (.pv (.int .i64 10)),none⟩,⟨some 10, .bin .add (.pv (.int .i64 48)) (.tmp 9),none⟩,⟨some 11, .conv .u8 (.tmp 10),none⟩,⟨some 12, .buildS 1 [.tmp 11],none⟩,⟨some 13, .b2s (.tmp 12),none⟩,⟨some 14, .mv (.tmp 3),none⟩,⟨some 15, .bin .add (.tmp 13) (.tmp 14),none⟩,⟨some 3, .mv (.tmp 15),none⟩]) (.region [⟨some 16, .mv (.tmp 0),none⟩,⟨some 17, .bin .quo (.tmp 16) (.pv (.int .i64 10)),none⟩,⟨some 0, .mv (.tmp 17),none⟩])))
def U3 :AFn:=⟨20,[.tmp 2], .seq (.region [⟨some 2, .mv (.pv (.str [])),none⟩]) (.seq (.seq (.region [⟨some 4, .mv (.tmp 0),none⟩,⟨some 5, .bin .leq (.tmp 4) (.pv (.int .i64 0)),none⟩]) (.cond (.tmp 5) (.seq (.region [⟨some 2, .mv (.pv (.str [109,48])),none⟩]) .ret) .skip)) (.seq (.region [⟨some 3, .mv (.pv (.str [])),none⟩]) (.seq (.block 0 (.loop Uu)) (.seq (.region [⟨some 18, .mv (.tmp 3),none⟩,⟨some 19, .bin .add (.pv (.str [109])) (.tmp 18),none⟩,⟨some 2, .mv (.tmp 19),none⟩]) .ret))))⟩
section
variable {Φ:Nat→Option AFn}{ext:Nat→List V→Option V}
theorem Tk :∀(n k:Nat),k<10^n→k<9223372036854775807→∀(o:List UInt8),o.length+n≤1000→∀(u1 u2 u4 u5 u6 u7 u8 u9 u10 u11 u12 u13 u14 u15 u16 u17 u18 u19:V)(h:List AObj),
 ∃w1 w2 w4 w5 w6 w7 w8 w9 w10 w11 w12 w13 w14 w15 w16 w17 w18 w19 h',aB (aq (ah Φ ext) aB Uu) ⟨[aa .i64 k,u1,u2,f9 o,u4,u5,u6,u7,u8,u9,u10,u11,u12,u13,u14,u15,u16,u17,u18,u19],h⟩=some (.exit 0,⟨[aa .i64 0,w1,w2,f9 (Ac n k o),w4,w5,w6,w7,w8,w9,w10,w11,w12,w13,w14,w15,w16,w17,w18,w19],h'⟩):=by
 intro n
 induction n with
 |zero=>
  intro k hk hk2 o ho u1 u2 u4 u5 u6 u7 u8 u9 u10 u11 u12 u13 u14 u15 u16 u17 u18 u19 h
  obtain rfl:k=0:=by simpa using hk
  refine⟨u1,u2,u4,u5,aa .i64 0,av false,u8,u9,u10,u11,u12,u13,u14,u15,u16,u17,u18,u19,h,iO ?_ (by simp)⟩
  simp[Uu,aq,ai,az,aK,bj,Opd.ev,put,bin,bV,isBool,Ac]
 |succ n ih=>
  intro k hk hk2 o ho u1 u2 u4 u5 u6 u7 u8 u9 u10 u11 u12 u13 u14 u15 u16 u17 u18 u19 h
  by_cases h0:k=0
  ·subst h0
   refine⟨u1,u2,u4,u5,aa .i64 0,av false,u8,u9,u10,u11,u12,u13,u14,u15,u16,u17,u18,u19,h,iO ?_ (by simp)⟩
   simp[Uu,aq,ai,az,aK,bj,Opd.ev,put,bin,bV,isBool,Ac]
  ·have hpos:(0:Int)<(k:Int):=by omega
   have hm:(k:Int).tmod 10=((k%10:Nat):Int):=by
    rw[Int.tmod_eq_emod_of_nonneg (by omega)];omega
   have hq:(k:Int).tdiv 10=((k/10:Nat):Int):=by
    rw[Int.tdiv_eq_ediv_of_nonneg (by omega)];omega
   have hw1:IntKind.i64.wrap (48+((k%10:Nat):Int))=((48+k%10:Nat):Int):=by rw[IntKind.wrap_i64];omega
   have hw2:IntKind.u8.wrap ((48+k%10:Nat):Int)=((48+k%10:Nat):Int):=by rw[IntKind.wrap_u8];omega
   have hw3:IntKind.i64.wrap ((k/10:Nat):Int)=((k/10:Nat):Int):=by rw[IntKind.wrap_i64];omega
   have hlt:k/10<10^n:=by
    rw[Nat.pow_succ]at hk
    omega
   have hlen:([UInt8.ofNat (48+k%10)]:List UInt8).length+o.length≤9223372036854775807:=by simp;omega
   obtain⟨w1,w2,w4,w5,w6,w7,w8,w9,w10,w11,w12,w13,w14,w15,w16,w17,w18,w19,h',e⟩:=ih (k/10) hlt (by omega) (UInt8.ofNat (48+k%10)::o) (by simp;omega) u1 u2 u4 u5 (aa .i64 k) (av true) (aa .i64 k) (aa .i64 ((k%10:Nat):Int)) (aa .i64 ((48+k%10:Nat):Int)) (aa .u8 ((48+k%10:Nat):Int)) (.one (.arr h.length)) (f9 [UInt8.ofNat (48+k%10)]) (f9 o) (f9 (UInt8.ofNat (48+k%10)::o)) (aa .i64 k) (aa .i64 ((k/10:Nat):Int)) u18 u19 (h++[.arr 1 [[.int .u8 ((48+k%10:Nat):Int)]]])
   refine⟨w1,w2,w4,w5,w6,w7,w8,w9,w10,w11,w12,w13,w14,w15,w16,w17,w18,w19,h',(f7 ?_).trans (e.trans ?_)⟩
   ·have hbs:qB [[PV.int .u8 ((48+k%10:Nat):Int)]]=some [UInt8.ofNat (48+k%10)]:=by
     simp only[qB,Int.toNat_natCast]
    have hvr:aV h [aa .u8 ((48+k%10:Nat):Int)]=some [[.int .u8 ((48+k%10:Nat):Int)]]:=rfl
    have hfz:freezeVs h [aa .u8 ((48+k%10:Nat):Int)]=h:=rfl
    have hal:asList (h++[AObj.arr 1 [[.int .u8 ((48+k%10:Nat):Int)]]]) (.one (.arr h.length))=some [[.int .u8 ((48+k%10:Nat):Int)]]:=by
     simp[asList,L.view]
    have hbp:decide ((0:Int)<(k:Int))=true:=decide_eq_true hpos
    have h10:¬((10:Int)=0):=by decide
    have hc1:(([aa .u8 ((48+k%10:Nat):Int)]:List V).all (fun v=>v.cells.length==1)&&decide (0<1)&&decide (([aa .u8 ((48+k%10:Nat):Int)]:List V).length*1≤16777216))=true:=rfl
    simp only[Uu,aq,ai,az,aK,bj,cf,Opd.ev,put,Y8,List.getD_cons_succ,Ys,Yd,bin,bV,je,if_true,if_neg h10,hbp,isBool,isInt,Zv,Yb,hm,hw1,hw2,hc1,hvr,hfz,hal,hbs,hlen,hq,hw3,Zf,Zi]
   ·simp only[Ac,if_neg h0]
theorem Ul {f:Nat}(hk:Φ f=some U3):Cj Φ ext aj f:=by
 intro k h0 hM
 refine fC hk ?_
 by_cases hz:k≤0
 ·have hb:decide (k≤0)=true:=decide_eq_true hz
  simp[U3,start,fL,aq,ai,az,aK,bj,Opd.ev,put,bin,bV,hb,isBool,done,aY,ar,bQ,bM,comp,aJ,bH,al,V.cells,aj,hz]
 ·have hb:decide (k≤0)=false:=decide_eq_false hz
  obtain⟨n,rfl⟩:∃n:Nat,k=n:=⟨k.toNat,by omega⟩
  unfold sE at hM
  have hdl:=Ko 13 n []
  have hlen:([109]:List UInt8).length+(Ac 13 n []).length≤9223372036854775807:=by simp at hdl⊢;omega
  have hlen':1+(Ac 13 n []).length≤9223372036854775807:=by simpa using hlen
  generalize hlp:aB (aq (ah Φ ext) aB Uu)=lp
  have hloop:∀u1 u2 u4 u5 u6 u7 u8 u9 u10 u11 u12 u13 u14 u15 u16 u17 u18 u19 h,∃w1 w2 w4 w5 w6 w7 w8 w9 w10 w11 w12 w13 w14 w15 w16 w17 w18 w19 h',lp ⟨[aa .i64 n,u1,u2,f9 [],u4,u5,u6,u7,u8,u9,u10,u11,u12,u13,u14,u15,u16,u17,u18,u19],h⟩=some (.exit 0,⟨[aa .i64 0,w1,w2,f9 (Ac 13 n []),w4,w5,w6,w7,w8,w9,w10,w11,w12,w13,w14,w15,w16,w17,w18,w19],h'⟩):=by
   rw[←hlp]
   exact Tk (Φ:=Φ) (ext:=ext) 13 n (by omega) (by omega) [] (by simp)
  obtain⟨w1,w2,w4,w5,w6,w7,w8,w9,w10,w11,w12,w13,w14,w15,w16,w17,w18,w19,h',e⟩:=hloop (.tup []) (f9 []) (aa .i64 n) (av false) (.tup []) (.tup []) (.tup []) (.tup []) (.tup []) (.tup []) (.tup []) (.tup []) (.tup []) (.tup []) (.tup []) (.tup []) (.tup []) (.tup []) []
  have hm:aj (n:Int)=109::Ac 13 n []:=by simp only[aj,if_neg hz,Int.toNat_natCast]
  rw[hm]
  simp only[U3,start,fL,aq,hlp,Z6,Nat.reduceSub,List.replicate,Zf,Zi,ai,az,aK,bj,Opd.ev,put,Y8,List.getD_cons_succ,Ys,Yd,bin,bV,hb,if_true,isBool,Z0,if_false,e,je,hlen]
  simp[hlen',done,aY,ar,bQ,bM,comp,aJ,bH,al,V.cells]
end
end Gi
