/- A part. -/
import Derived.Test.YtndiampmpmbfoaaGreatGpn
set_option linter.all false
namespace Gi
open Go Go.RowKit
section
variable (mT:Int->List UInt8)
def fY :List PV->Int->List PV×Int
 |[],k=>([],k)
 | .lst rows::ps,k=>(.lst (cM mT rows k).1::(fY ps (cM mT rows k).2).1,(fY ps (cM mT rows k).2).2)
 |p::ps,k=>(p::(fY ps k).1,(fY ps k).2)
end
def mH (mT:Int->List UInt8):∀(a b:List PV)(k:Int),fY mT (a++b) k=((fY mT a k).1++(fY mT b (fY mT a k).2).1,(fY mT b (fY mT a k).2).2)
 |[],b,k=>by simp only[Zi,fY]
 | .lst rows::a,b,k=>by simp only[Zg,fY,mH mT a b]
 | .int _ _::a,b,k=>by simp only[Zg,fY,mH mT a b]
 | .bool _::a,b,k=>by simp only[Zg,fY,mH mT a b]
 | .str _::a,b,k=>by simp only[Zg,fY,mH mT a b]
def oe (mT:Int->List UInt8):∀(a:List PV)(k:Int),k<=(fY mT a k).2
 |[],k=>by simp only[fY];omega
 | .lst rows::a,k=>by
  simp only[fY]
  have:=pW mT rows k
  have:=oe mT a (cM mT rows k).2
  omega
 | .int _ _::a,k=>by simp only[fY];exact oe mT a k
 | .bool _::a,k=>by simp only[fY];exact oe mT a k
 | .str _::a,k=>by simp only[fY];exact oe mT a k
def LA :List PTy->List PV->List L
 | .lst us::ts, .lst rows::ps=> .down us.length rows::LA ts ps
 |_::ts,p::ps=> .pv p::LA ts ps
 |_,_=>[]
def iD :List PTy->List PV->List Y0
 | .lst us::ts, .lst rows::ps=> .bB us.length rows::iD ts ps
 |_::ts,_::ps=>iD ts ps
 |_,_=>[]
def j4 :Nat->List PTy->List PV->List L
 |j, .lst us::ts, .lst rows::ps=> .arr j::j4 (j+1) ts ps
 |j,_::ts,p::ps=> .pv p::j4 j ts ps
 |_,_,_=>[]
def RY :List PTy->List PV->List (Bool×List L)
 | .lst us::ts, .lst rows::ps=>(false,[.down us.length rows])::RY ts ps
 |_::ts,_::ps=>RY ts ps
 |_,_=>[]
def gD {P:List PTy->List PV->Prop}(nil:P [] [])(lst:∀us rows ts ps,oq (.lst us) (.lst rows)->bF ts ps->P ts ps->P (.lst us::ts) (.lst rows::ps))(flat:∀t p ts ps,oq t p->t.flatT=true->p.flat=true->bF ts ps->P ts ps->P (t::ts) (p::ps)):∀(ts:List PTy)(ps:List PV),bF ts ps->P ts ps
 |[],ps,h=>by rw[fv h];exact nil
 | .lst us::ts,ps,h=>by
  obtain⟨p,r,rfl,h1,h2⟩:=ee h
  obtain⟨rows,rfl⟩:=pg h1
  exact lst us rows ts r h1 h2 (gD nil lst flat ts r h2)
 | .int κ::ts,ps,h=>by
  obtain⟨p,r,rfl,h1,h2⟩:=ee h
  obtain⟨n,rfl⟩:=mp h1
  exact flat _ _ ts r h1 rfl rfl h2 (gD nil lst flat ts r h2)
 | .bool::ts,ps,h=>by
  obtain⟨p,r,rfl,h1,h2⟩:=ee h
  obtain⟨n,rfl⟩:=ma h1
  exact flat _ _ ts r h1 rfl rfl h2 (gD nil lst flat ts r h2)
 | .str::ts,ps,h=>by
  obtain⟨p,r,rfl,h1,h2⟩:=ee h
  obtain⟨n,rfl⟩:=lu h1
  exact flat _ _ ts r h1 rfl rfl h2 (gD nil lst flat ts r h2)
def L6 {t:PTy}{p:PV}{ts:List PTy}{ps:List PV}(ht:t.flatT=true):LA (t::ts) (p::ps)= .pv p::LA ts ps:=by cases t<;>first|rfl|cases ht
def iQ {t:PTy}{p:PV}{ts:List PTy}{ps:List PV}(ht:t.flatT=true):iD (t::ts) (p::ps)=iD ts ps:=by cases t<;>first|rfl|cases ht
def ny {t:PTy}{p:PV}{ts:List PTy}{ps:List PV}{j:Nat}(ht:t.flatT=true):j4 j (t::ts) (p::ps)= .pv p::j4 j ts ps:=by cases t<;>first|rfl|cases ht
def MZ {t:PTy}{p:PV}{ts:List PTy}{ps:List PV}(ht:t.flatT=true):RY (t::ts) (p::ps)=RY ts ps:=by cases t<;>first|rfl|cases ht
def rf (mT:Int->List UInt8){p:PV}{ps:List PV}{k:Int}(hp:p.flat=true):fY mT (p::ps) k=(p::(fY mT ps k).1,(fY mT ps k).2):=by cases p<;>first|rfl|cases hp
def JR {ts:List PTy}{ps:List PV}(h:bF ts ps):∀j,(j4 j ts ps).length=ts.length:=by
 refine gD (P:=fun ts ps=>∀j,(j4 j ts ps).length=ts.length) (fun j=>rfl) ?_ ?_ ts ps h
 ·intro us rows ts ps _ _ ih j
  simp only[j4,Zo,ih]
 ·intro t p ts ps _ ht hp _ ih j
  rw[ny ht]
  simp only[Zo,ih]
def Vm {ts:List PTy}{ps:List PV}(h:bF ts ps):∀hh:List Y0,∃ds,thawL hh (LA ts ps)=(j4 hh.length ts ps,hh++ds)/\ ds.map Y0.zone=iD ts ps:=by
 refine gD (P:=fun ts ps=>∀hh:List Y0,∃ds,thawL hh (LA ts ps)=(j4 hh.length ts ps,hh++ds)/\ ds.map Y0.zone=iD ts ps) ?_ ?_ ?_ ts ps h
 ·intro hh;exact⟨[],by simp[LA,thawL,j4],rfl⟩
 ·intro us rows ts ps _ _ ih hh
  obtain⟨ds,e1,e2⟩:=ih (hh++[.bA us.length rows])
  refine⟨.bA us.length rows::ds,?_,by simp only[Zv,e2,Y0.zone,iD]⟩
  simp only[LA,thawL,e1,j4,Zu,ZN,List.append_assoc,Zg,Zi]
 ·intro t p ts ps _ ht hp _ ih hh
  obtain⟨ds,e1,e2⟩:=ih hh
  refine⟨ds,?_,by rw[e2,iQ ht]⟩
  rw[L6 ht,ny ht]
  simp only[thawL,e1]
def QU {p:PV}(h:p.flat=true):p.bare=true:=by cases p<;>first|rfl|cases h
def P9 {ts:List PTy}{ps:List PV}(h:bF ts ps):∀(pre post:List Y0),lW (pre++iD ts ps++post) (j4 pre.length ts ps)=some (LA ts ps):=by
 refine gD (P:=fun ts ps=>∀(pre post:List Y0),lW (pre++iD ts ps++post) (j4 pre.length ts ps)=some (LA ts ps)) (fun _ _=>rfl) ?_ ?_ ts ps h
 ·intro us rows ts ps _ _ ih pre post
  have:=ih (pre++[.bB us.length rows]) post
  simp only[Zu,ZN,List.append_assoc,Zg,Zi]at this
  have hg:(pre++(Y0.bB us.length rows::(iD ts ps++post)))[pre.length]? =some (.bB us.length rows):=by
   rw[Zk (Zn _),Zb6];rfl
  simp only[iD,j4,LA,List.append_assoc,Zg,lW,xK,hg,this]
 ·intro t p ts ps _ ht hp _ ih pre post
  rw[L6 ht,ny ht,iQ ht]
  have hb:PV.bare _=true:=QU hp
  simp only[lW,xK,hb,if_true,ih pre post]
def UG {ts:List PTy}{ps:List PV}(h:bF ts ps):∀(j:Nat),(aj (j4 j ts ps)).Nodup/\ ∀o∈aj (j4 j ts ps),j<=o:=by
 refine gD (P:=fun ts ps=>∀(j:Nat),(aj (j4 j ts ps)).Nodup/\ ∀o∈aj (j4 j ts ps),j<=o) (fun j=>⟨List.nodup_nil,fun o ho=>by cases ho⟩) ?_ ?_ ts ps h
 ·intro us rows ts ps _ _ ih j
  obtain⟨h1,h2⟩:=ih (j+1)
  have e:aj (j4 j (.lst us::ts) (.lst rows::ps))=j::aj (j4 (j+1) ts ps):=by simp[j4,aj]
  rw[e]
  refine⟨L'.2 ⟨fun hm=>by have:=h2 _ hm;omega,h1⟩,fun o ho=> ?_⟩
  rcases ZL.1 ho with rfl|ho
  ·exact Zn _
  ·have:=h2 o ho;omega
 ·intro t p ts ps _ ht hp _ ih j
  have e:aj (j4 j (t::ts) (p::ps))=aj (j4 j ts ps):=by rw[ny ht];simp[aj]
  rw[e];exact ih j
def Wp (mT:Int->List UInt8){ts:List PTy}{ps:List PV}(h:bF ts ps):∀(pre post:List Y0)(k:Int),kG (pre++iD ts ps++post) (aj (j4 pre.length ts ps)) (RY ts (fY mT ps k).1)=some (pre++iD ts (fY mT ps k).1++post):=by
 refine gD (P:=fun ts ps=>∀(pre post:List Y0)(k:Int),kG (pre++iD ts ps++post) (aj (j4 pre.length ts ps)) (RY ts (fY mT ps k).1)=some (pre++iD ts (fY mT ps k).1++post)) (fun _ _ _=>rfl) ?_ ?_ ts ps h
 ·intro us rows ts ps _ _ ih pre post k
  have:=ih (pre++[.bB us.length (cM mT rows k).1]) post (cM mT rows k).2
  simp only[Zu,ZN,List.append_assoc,Zg,Zi]at this
  have e:aj (j4 pre.length (.lst us::ts) (.lst rows::ps))=pre.length::aj (j4 (pre.length+1) ts ps):=by simp[j4,aj]
  rw[e]
  simp only[fY,iD,RY,kG,List.append_assoc,Zg]
  rw[Zc6 _ _ (Zn _),Zb6,ZT,this]
 ·intro t p ts ps _ ht hp _ ih pre post k
  have e:aj (j4 pre.length (t::ts) (p::ps))=aj (j4 pre.length ts ps):=by rw[ny ht];simp[aj]
  rw[e,rf mT hp,iQ ht,iQ ht,MZ ht]
  exact ih pre post k
def Ve (mT:Int->List UInt8){ts:List PTy}{ps:List PV}(h:bF ts ps):∀k,iv (iD ts (fY mT ps k).1)=some (RY ts (fY mT ps k).1):=by
 refine gD (P:=fun ts ps=>∀k,iv (iD ts (fY mT ps k).1)=some (RY ts (fY mT ps k).1)) (fun _=>rfl) ?_ ?_ ts ps h
 ·intro us rows ts ps _ _ ih k
  simp only[fY,iD,iv,ih,RY]
 ·intro t p ts ps _ ht hp _ ih k
  rw[rf mT hp,iQ ht,MZ ht,ih]
def HK (mT:Int->List UInt8){ts:List PTy}{ps:List PV}(h:bF ts ps):∀k,(iD ts (fY mT ps k).1).length=(iD ts ps).length:=by
 refine gD (P:=fun ts ps=>∀k,(iD ts (fY mT ps k).1).length=(iD ts ps).length) (fun _=>rfl) ?_ ?_ ts ps h
 ·intro us rows ts ps _ _ ih k
  simp only[fY,iD,Zo,ih]
 ·intro t p ts ps _ ht hp _ ih k
  rw[rf mT hp,iQ ht,iQ ht,ih]
def Lz {ts us:List PTy}{a b:List PV}(h:bF ts a):iD (ts++us) (a++b)=iD ts a++iD us b:=by
 refine gD (P:=fun ts a=>iD (ts++us) (a++b)=iD ts a++iD us b) rfl ?_ ?_ ts a h
 ·intro us rows ts ps _ _ ih
  simp only[Zg,iD,ih]
 ·intro t p ts ps _ ht hp _ ih
  simp only[Zg]
  rw[iQ ht,iQ ht,ih]
def Jz (mT:Int->List UInt8){ts us:List PTy}{a b:List PV}(h:bF ts a):∀k,iD (ts++us) ((fY mT a k).1++b)=iD ts (fY mT a k).1++iD us b:=by
 refine gD (P:=fun ts a=>∀k,iD (ts++us) ((fY mT a k).1++b)=iD ts (fY mT a k).1++iD us b) (fun _=>rfl) ?_ ?_ ts a h
 ·intro us rows ts ps _ _ ih k
  simp only[fY,Zg,iD,ih]
 ·intro t p ts ps _ ht hp _ ih k
  rw[rf mT hp]
  simp only[Zg]
  rw[iQ ht,iQ ht,ih]
def Oj {ts us:List PTy}{a b:List PV}(h:bF ts a):∀j,j4 j (ts++us) (a++b)=j4 j ts a++j4 (j+(iD ts a).length) us b:=by
 refine gD (P:=fun ts a=>∀j,j4 j (ts++us) (a++b)=j4 j ts a++j4 (j+(iD ts a).length) us b) (fun j=>rfl) ?_ ?_ ts a h
 ·intro us rows ts ps _ _ ih j
  simp only[Zg,j4,iD,Zo,ih]
  rw[show j+1+(iD ts ps).length=j+((iD ts ps).length+1) by omega]
 ·intro t p ts ps _ ht hp _ ih j
  simp only[Zg]
  rw[ny ht,ny ht,iQ ht,ih]
  rfl
def S9 {ts:List PTy}{ps:List PV}(h:bF ts ps):∀j,(j4 j ts ps).all plain=true:=by
 refine gD (P:=fun ts ps=>∀j,(j4 j ts ps).all plain=true) (fun j=>rfl) ?_ ?_ ts ps h
 ·intro us rows ts ps _ _ ih j
  simp only[j4,Zq,ih,C'];rfl
 ·intro t p ts ps _ ht hp _ ih j
  rw[ny ht]
  simp only[Zq,ih,C'];rfl
inductive MS where
 |k (ts:List PTy)
 |s (ts:List PTy) (f:Nat)
 |l (us:List PTy) (f:Nat)
def MS.ts :MS->List PTy
 | .k ts=>ts
 | .s ts _=>ts
 | .l us _=>[.lst us]
def iu :List MS->List PTy
 |[]=>[]
 |s::ss=>s.ts++iu ss
def Xn (c off:Nat)(g:Bool)(n f:Nat):List Z0:=[⟨some c, .bl (.tmp 2) off,none⟩,⟨some (c+1), .bn g n (.tmp c),none⟩,⟨some (c+2), .mv (.tmp 1),none⟩,⟨some (c+3), .bd f (.tmp (c+1)) (.tmp (c+2)),none⟩,⟨some 1, .mv (.tmp (c+3)),none⟩]
def SI :Nat->Nat->List MS->Y5
 |c,_,[]=> .seq (.region [⟨some c, .mv (.tmp 1),none⟩,⟨some 4, .mv (.tmp c),none⟩]) .ret
 |c,off, .k ts::ss=>SI c (off+ts.length) ss
 |c,off, .s ts f::ss=> .seq (.region (Xn c off true ts.length f)) (SI (c+4) (off+ts.length) ss)
 |c,off, .l _ f::ss=> .seq (.region (Xn c off false 1 f)) (SI (c+4) (off+1) ss)
def SJ :Nat->List MS->Nat
 |c,[]=>c
 |c, .k _::ss=>SJ c ss
 |c,_::ss=>SJ (c+4) ss
def r9 (ss:List MS):AFn:=⟨SJ 5 ss+1,[.tmp 4], .seq (.region [⟨some 2, .box (.tmp 0),none⟩,⟨some 4, .mv (.pv (.int .i64 0)),none⟩]) (SI 5 0 ss)⟩
def EL :∀(ss:List MS)(c off:Nat),(SI c off ss).bY=true
 |[],c,off=>rfl
 | .k ts::ss,c,off=>EL ss c _
 | .s ts f::ss,c,off=>by simp only[SI,Y5.bY,EL ss,C'];rfl
 | .l us f::ss,c,off=>by simp only[SI,Y5.bY,EL ss,C'];rfl
def Cr :∀(ss:List MS)(c:Nat),c<=SJ c ss
 |[],c=>Zn _
 | .k ts::ss,c=>Cr ss c
 | .s ts f::ss,c=>Zc (by omega) (Cr ss (c+4))
 | .l us f::ss,c=>Zc (by omega) (Cr ss (c+4))
section
variable {Φ:Nat->Option AFn}{ext:Nat->List V->Option V}{mT:Int->List UInt8}{mt:Nat}
def QM (Φ:Nat->Option AFn)(ext:Nat->List V->Option V)(mT:Int->List UInt8)(f:Nat)(ts:List PTy):Prop:=
 ∀row:List PV,bF ts row->∀k:Int,0<=k->(fY mT row k).2<=xN->ag Φ ext (f+fH) [.agg (LA ts row),aa .i64 k]=some (.b9 ((false,[.pv (.int .i64 (fY mT row k).2)])::RY ts (fY mT row k).1))
def LG (Φ:Nat->Option AFn)(ext:Nat->List V->Option V)(mT:Int->List UInt8):List MS->Prop
 |[]=>True
 | .k ts::ss=>ts.all PTy.flatT=true/\ LG Φ ext mT ss
 | .s ts f::ss=>QM Φ ext mT f ts/\ LG Φ ext mT ss
 | .l us f::ss=>qj Φ ext mT f us/\ LG Φ ext mT ss
def MO {g:Bool}{n f c m:Nat}{C1 C2:List L}{Z1 Z2:List Y0}{ts:List PTy}{x:List PV}{v a:V}{k:Int}{t:List V}(hx:bF ts x)(h1:t[1]? =some (aa .i64 k))(h2:t[2]? =some (.one (.ptr m 0 0)))(hc:5<=c)(hl:c+3<t.length)
 (hb:(Z1++iD ts x++Z2)[m]? =some (.box (C1++C2))) (a5:gv g n C1.length (C1++C2)=some v) (hv:v.cells=j4 Z1.length ts x) (aN:∀o c,v≠ .one (.sub o c)) (aD:uT (Z1++iD ts x++Z2) v=some a) (aE:ag Φ ext (f+fH) [a,aa .i64 k]=some (.b9 ((false,[.pv (.int .i64 (fY mT x k).2)])::RY ts (fY mT x k).1))):
 ∃t',ah (ag Φ ext) (Xn c C1.length g n f) ⟨t,Z1++iD ts x++Z2⟩=some ⟨t',Z1++iD ts (fY mT x k).1++Z2⟩/\ t'.length=t.length/\ t'[1]? =some (aa .i64 (fY mT x k).2)/\ t'[2]? =some (.one (.ptr m 0 0)):=by
 have e1:=getD_some h1
 have e2:=getD_some h2
 have q1:(t.set c (V.one (.ptr m 0 C1.length))).getD c (.b9 [])= .one (.ptr m 0 C1.length):=aI (by omega)
 have q2:((t.set c (V.one (.ptr m 0 C1.length))).set (c+1) v).getD 1 (.b9 [])=aa .i64 k:=(dV (by omega)).trans ((dV (by omega)).trans e1)
 have q3:(((t.set c (V.one (.ptr m 0 C1.length))).set (c+1) v).set (c+2) (aa .i64 k)).getD (c+1) (.b9 [])=v:=(dV (by omega)).trans (aI (by simp;omega))
 have q4:(((t.set c (V.one (.ptr m 0 C1.length))).set (c+1) v).set (c+2) (aa .i64 k)).getD (c+2) (.b9 [])=aa .i64 k:=aI (by simp;omega)
 have q5:((((t.set c (V.one (.ptr m 0 C1.length))).set (c+1) v).set (c+2) (aa .i64 k)).set (c+3) (aa .i64 (fY mT x k).2)).getD (c+3) (.b9 [])=aa .i64 (fY mT x k).2:=aI (by simp;omega)
 have aV:(aj v.cells).Nodup:=by rw[hv];exact(UG hx _).1
 have aH:=Wp mT hx Z1 Z2 k
 rw[<-hv]at aH
 have hM:kP (ag Φ ext) (Z1++iD ts x++Z2) f v k=some (aa .i64 (fY mT x k).2,Z1++iD ts (fY mT x k).1++Z2):=by
  unfold kP
  split
  ·rename_i o cc;exact absurd rfl (aN o cc)
  ·simp only[aV,if_true,aD,aE,L.flat,aH]
 refine⟨((((t.set c (V.one (.ptr m 0 C1.length))).set (c+1) v).set (c+2) (aa .i64 k)).set (c+3) (aa .i64 (fY mT x k).2)).set 1 (aa .i64 (fY mT x k).2),?_,by simp,Zd (by simp;omega),by rw[Za (by omega),Za (by omega),Za (by omega),Za (by omega),Za (by omega)];exact h2⟩
 simp only[Xn,ah,aG,bc,bG,cz,Opd.ev,e2,put,ZO,q1,qZ,hb,bA,if_true,a5,q2,q3,q4,hM,q5]
def EI :∀(ss:List MS),LG Φ ext mT ss->∀{c:Nat}{C1:List L}{Z1:List Y0}{b:List PV}{k:Int}{t:List V},bF (iu ss) b->0<=k->(fY mT b k).2<=xN->t[1]? =some (aa .i64 k)->t[2]? =some (.one (.ptr (Z1.length+(iD (iu ss) b).length) 0 0))->5<=c->SJ c ss<t.length->
 ∃t',ap (ag Φ ext) aF (SI c C1.length ss) ⟨t,Z1++iD (iu ss) b++[.box (C1++j4 Z1.length (iu ss) b)]⟩=some (.ret,⟨t',Z1++iD (iu ss) (fY mT b k).1++[.box (C1++j4 Z1.length (iu ss) b)]⟩)/\ t'.getD 4 (.b9 [])=aa .i64 (fY mT b k).2
 |[],_,c,C1,Z1,b,k,t,hb,h0,hk,h1,h2,hc,hl=>by
  obtain rfl:=fv hb
  simp only[SJ]at hl
  have q2:(t.set c (aa .i64 k)).getD c (.b9 [])=aa .i64 k:=aI hl
  refine⟨(t.set c (aa .i64 k)).set 4 (aa .i64 k),?_,by simp only[fY];exact aI (by simp;omega)⟩
  simp only[SI,ap,ah,aG,bc,bG,Opd.ev,getD_some h1,put,q2,fY]
 | .k ts::ss,a7,c,C1,Z1,b,k,t,hb,h0,hk,h1,h2,hc,hl=>by
  simp only[iu,MS.ts]at hb h2⊢
  obtain⟨x,y,rfl,hx,hy⟩:=lZ (ts:=ts) hb
  have flat:∀{ts:List PTy}{x:List PV},bF ts x->ts.all PTy.flatT=true->iD ts x=[]/\ ∀k,fY mT x k=(x,k):=by
   intro ts x h
   refine gD (P:=fun ts x=>ts.all PTy.flatT=true->iD ts x=[]/\ ∀k,fY mT x k=(x,k)) (fun _=>⟨rfl,fun _=>rfl⟩) ?_ ?_ ts x h
   ·intro us rows ts ps _ _ _ ha
    simp[PTy.flatT]at ha
   ·intro t p ts ps _ ht hp _ ih ha
    simp only[Zq,Zh]at ha
    obtain⟨i1,i2⟩:=ih ha.2
    exact⟨by rw[iQ ht,i1],fun k=>by rw[rf mT hp,i2]⟩
  obtain⟨z0,m0⟩:=flat hx a7.1
  have hm:fY mT (x++y) k=(x++(fY mT y k).1,(fY mT y k).2):=by rw[mH,m0]
  have hlen:(C1++j4 Z1.length ts x).length=C1.length+ts.length:=by rw[Zu,JR hx]
  rw[Lz hx,z0,Zi]at h2⊢
  rw[Oj hx,z0,hm]
  simp only[hm]at hk
  have aW:∀y',iD (ts++iu ss) (x++y')=iD (iu ss) y':=fun y'=>by rw[Lz hx,z0,Zi]
  simp only[aW,Zx,Za7]
  obtain⟨t',r1,r2⟩:=EI ss a7.2 (c:=c) (C1:=C1++j4 Z1.length ts x) (Z1:=Z1) hy h0 hk h1 h2 hc hl
  rw[hlen]at r1
  simp only[List.append_assoc]at r1⊢
  exact⟨t',r1,r2⟩
 | .s ts f::ss,a7,c,C1,Z1,b,k,t,hb,h0,hk,h1,h2,hc,hl=>by
  simp only[iu,MS.ts]at hb h2⊢
  obtain⟨x,y,rfl,hx,hy⟩:=lZ (ts:=ts) hb
  have hN:=Cr ss (c+4)
  simp only[SJ]at hl
  simp only[mH]at hk
  have hle:=oe mT y (fY mT x k).2
  have aT:=oe mT x k
  have aJ:=JR hx Z1.length
  rw[Lz hx]at h2⊢
  rw[Oj hx]
  simp only[mH,Jz mT hx]
  generalize aP:j4 (Z1.length+(iD ts x).length) (iu ss) y=C2
  generalize hB:[Y0.box (C1++(j4 Z1.length ts x++C2))]=B
  have a5:gv true ts.length C1.length (C1++(j4 Z1.length ts x++C2))=some (.agg (j4 Z1.length ts x)):=by
   unfold gv
   rw[if_pos (by simp[aJ]),if_pos rfl,List.drop_left,<-aJ,List.take_left]
  obtain⟨t1,a1,a2,a3,a4⟩:=MO (Φ:=Φ) (ext:=ext) (mT:=mT) (g:=true) (n:=ts.length) (f:=f) (c:=c) (m:=Z1.length+(iD ts x++iD (iu ss) y).length) (C1:=C1) (C2:=j4 Z1.length ts x++C2) (Z1:=Z1) (Z2:=iD (iu ss) y++B) (v:= .agg (j4 Z1.length ts x)) (a:= .agg (LA ts x)) hx h1 h2 hc (by omega) (by
   rw[<-hB]
   have:Z1++iD ts x++(iD (iu ss) y++[Y0.box (C1++(j4 Z1.length ts x++C2))])=(Z1++(iD ts x++iD (iu ss) y))++[Y0.box (C1++(j4 Z1.length ts x++C2))]:=by simp
   rw[this,Zk (by simp)]
   simp) a5 rfl (fun _ _ h=>by cases h) (by
   have:=P9 hx Z1 (iD (iu ss) y++B)
   simp only[uT,this]) (a7.1 x hx k h0 (by omega))
  obtain⟨t2,b1,b2⟩:=EI ss a7.2 (c:=c+4) (C1:=C1++j4 Z1.length ts x) (Z1:=Z1++iD ts (fY mT x k).1) (b:=y) (k:=(fY mT x k).2) (t:=t1) hy (by omega) hk a3 (by rw[a4];simp only[Zu,HK mT hx];congr 3;omega) (by omega) (by omega)
  refine⟨t2,?_,b2⟩
  have hlen:(C1++j4 Z1.length ts x).length=C1.length+ts.length:=by rw[Zu,aJ]
  have a6:(Z1++iD ts (fY mT x k).1).length=Z1.length+(iD ts x).length:=by rw[Zu,HK mT hx]
  rw[hlen,a6,aP]at b1
  simp only[SI,ap,List.append_assoc]at a1 b1⊢
  rw[hB]at b1
  rw[a1]
  exact b1
 | .l us f::ss,a7,c,C1,Z1,b,k,t,hb,h0,hk,h1,h2,hc,hl=>by
  simp only[iu,MS.ts]at hb h2⊢
  obtain⟨x,y,rfl,hx,hy⟩:=lZ (ts:=[.lst us]) hb
  have hN:=Cr ss (c+4)
  simp only[SJ]at hl
  simp only[mH]at hk
  have hle:=oe mT y (fY mT x k).2
  have aT:=oe mT x k
  have aJ:=JR hx Z1.length
  have aX:=hx
  obtain⟨p,x',rfl,hp,hn⟩:=ee aX
  obtain rfl:=fv hn
  obtain⟨rows,rfl⟩:=pg hp
  rw[Lz hx]at h2⊢
  rw[Oj hx]
  simp only[mH,Jz mT hx]
  generalize aP:j4 (Z1.length+(iD [.lst us] [.lst rows]).length) (iu ss) y=C2
  generalize hB:[Y0.box (C1++(j4 Z1.length [.lst us] [.lst rows]++C2))]=B
  have a5:gv false 1 C1.length (C1++(j4 Z1.length [.lst us] [.lst rows]++C2))=some (.one (.arr Z1.length)):=by
   simp[gv,j4]
  obtain⟨t1,a1,a2,a3,a4⟩:=MO (Φ:=Φ) (ext:=ext) (mT:=mT) (g:=false) (n:=1) (f:=f) (c:=c) (m:=Z1.length+(iD [.lst us] [.lst rows]++iD (iu ss) y).length) (C1:=C1) (C2:=j4 Z1.length [.lst us] [.lst rows]++C2) (Z1:=Z1) (Z2:=iD (iu ss) y++B) (v:= .one (.arr Z1.length)) (a:= .one (.down us.length rows)) hx h1 h2 hc (by omega) (by
   rw[<-hB]
   have:Z1++iD [.lst us] [.lst rows]++(iD (iu ss) y++[Y0.box (C1++(j4 Z1.length [.lst us] [.lst rows]++C2))])=(Z1++(iD [.lst us] [.lst rows]++iD (iu ss) y))++[Y0.box (C1++(j4 Z1.length [.lst us] [.lst rows]++C2))]:=by simp
   rw[this,Zk (by simp)]
   simp) a5 rfl (fun _ _ h=>by cases h) (by
   have:=P9 hx Z1 (iD (iu ss) y++B)
   simp only[j4,LA,lW]at this
   split at this
   ·rename_i a b h1 h2
    cases this
    cases h2
    simp only[uT,h1]
   ·cases this) (by
   simp only[fY]at hle aT hk⊢
   exact a7.1.2 rows hp k h0 (by omega))
  obtain⟨t2,b1,b2⟩:=EI ss a7.2 (c:=c+4) (C1:=C1++j4 Z1.length [.lst us] [.lst rows]) (Z1:=Z1++iD [.lst us] (fY mT [.lst rows] k).1) (b:=y) (k:=(fY mT [.lst rows] k).2) (t:=t1) hy (by omega) hk a3 (by rw[a4];simp only[Zu,HK mT hx];congr 3;omega) (by omega) (by omega)
  refine⟨t2,?_,b2⟩
  have hlen:(C1++j4 Z1.length [.lst us] [.lst rows]).length=C1.length+1:=by rw[Zu,aJ];rfl
  have a6:(Z1++iD [.lst us] (fY mT [.lst rows] k).1).length=Z1.length+(iD [.lst us] [.lst rows]).length:=by rw[Zu,HK mT hx]
  rw[hlen,a6,aP]at b1
  simp only[SI,ap,List.append_assoc]at a1 b1⊢
  rw[hB]at b1
  rw[a1]
  exact b1
def Az {f:Nat}{ss:List MS}(hk:Φ f=some (r9 ss))(hn:Φ (f+fH)=none)(a7:LG Φ ext mT ss):QM Φ ext mT f (iu ss):=by
 intro row hr k h0 aQ
 have hN:=Cr ss 5
 obtain⟨m,hm⟩:∃m,SJ 5 ss+1-2=m+4:=⟨SJ 5 ss-5,by omega⟩
 have hz:(r9 ss).body.bY=true:=by
  simp only[r9,Y5.bY,EL,C']
  rfl
 refine vq hn hk hz ?_
 obtain⟨ds,d1,d2⟩:=Vm hr []
 simp only[Zx,Zi]at d1
 have hA:ed [] [.agg (LA (iu ss) row),aa .i64 k]=([.agg (j4 0 (iu ss) row),aa .i64 k],ds):=by
  simp only[ed,thaw,d1,thawL]
 have b0:jx (r9 ss) [.agg (LA (iu ss) row),aa .i64 k]=⟨.agg (j4 0 (iu ss) row)::aa .i64 k::List.replicate (m+4) (.b9 []),iD (iu ss) row⟩:=by
  simp only[jx,hA,d2,r9,Zo,Zx,Zg,Zi,hm]
 have hlen:ds.length=(iD (iu ss) row).length:=by rw[<-d2];simp
 let t0:List V:= .agg (j4 0 (iu ss) row)::aa .i64 k:: .one (.ptr (iD (iu ss) row).length 0 0):: .b9 []::aa .i64 0::List.replicate (m+1) (.b9 [])
 have bk:t0.length=SJ 5 ss+1:=by simp[t0];omega
 obtain⟨t',a1,a2⟩:=EI (Φ:=Φ) (ext:=ext) ss a7 (c:=5) (C1:=[]) (Z1:=[]) (b:=row) (k:=k) (t:=t0) hr h0 aQ rfl (by simp[t0]) (Zn _) (by omega)
 simp only[Zx,Zi]at a1
 have aR:fB Φ ext (r9 ss).body (jx (r9 ss) [.agg (LA (iu ss) row),aa .i64 k])=some (.ret,⟨t',iD (iu ss) (fY mT row k).1++[.box (j4 0 (iu ss) row)]⟩):=by
  rw[b0]
  have aS:List.replicate (m+4) (V.b9 [])= .b9 []:: .b9 []:: .b9 []::List.replicate (m+1) (.b9 []):=rfl
  simp only[t0]at a1
  simp only[fB,r9,aS,ap,ah,aG,bc,bG,cz,Opd.ev,put,Zb0,V.cells,S9 hr,if_true,U',ZT]
  exact a1
 have aK:(iD (iu ss) (fY mT row k).1++[Y0.box (j4 0 (iu ss) row)]).take ds.length=iD (iu ss) (fY mT row k).1:=by
  rw[hlen,<-HK mT hr k,List.take_left]
 rw[aR]
 simp only[xD,Iv,r9,aZ,am,cj,a2,Y',Zb3,Zw,V.cells,bS,comp,aO,bJ,hA,aK,Ve mT hr,L.flat,if_true]
 rfl
end
def Bj :Nat->Nat->List UInt8->List UInt8
 |0,_,o=>o
 |n+1,k,o=>if k=0 then o else Bj n (k/10) (UInt8.ofNat (48+k%10)::o)
def av (k:Int):List UInt8:=if k<=0 then [109,48]else 109::Bj 13 k.toNat []
def L5 :∀(n k:Nat)(o:List UInt8),(Bj n k o).length<=n+o.length
 |0,k,o=>by simp[Bj]
 |n+1,k,o=>by
  simp only[Bj]
  split
  ·omega
  ·have:=L5 n (k/10) (UInt8.ofNat (48+k%10)::o)
   simp only[Zo]at this
   omega
def WT :Y5:= .seq (.seq (.region [⟨some 6, .mv (.tmp 0),none⟩,⟨some 7, .bin .gtr (.tmp 6) (.pv (.int .i64 0)),none⟩]) (.cond (.tmp 7) .skip (.exit 0))) (.block 1 (.seq (.region [⟨some 8, .mv (.tmp 0),none⟩,⟨some 9, .bin .rem (.tmp 8) (.pv (.int .i64 10)),none⟩,⟨some 10, .bin .add (.pv (.int .i64 48)) (.tmp 9),none⟩,⟨some 11, .conv .u8 (.tmp 10),none⟩,⟨some 12, .bN 1 [.tmp 11],none⟩,⟨some 13, .cL (.tmp 12),none⟩,⟨some 14, .mv (.tmp 3),none⟩,⟨some 15, .bin .add (.tmp 13) (.tmp 14),none⟩,⟨some 3, .mv (.tmp 15),none⟩]) (.region [⟨some 16, .mv (.tmp 0),none⟩,⟨some 17, .bin .quo (.tmp 16) (.pv (.int .i64 10)),none⟩,⟨some 0, .mv (.tmp 17),none⟩])))
def XI :AFn:=⟨20,[.tmp 2], .seq (.region [⟨some 2, .mv (.pv (.str [])),none⟩]) (.seq (.seq (.region [⟨some 4, .mv (.tmp 0),none⟩,⟨some 5, .bin .leq (.tmp 4) (.pv (.int .i64 0)),none⟩]) (.cond (.tmp 5) (.seq (.region [⟨some 2, .mv (.pv (.str [109,48])),none⟩]) .ret) .skip)) (.seq (.region [⟨some 3, .mv (.pv (.str [])),none⟩]) (.seq (.block 0 (.loop WT)) (.seq (.region [⟨some 18, .mv (.tmp 3),none⟩,⟨some 19, .bin .add (.pv (.str [109])) (.tmp 18),none⟩,⟨some 2, .mv (.tmp 19),none⟩]) .ret))))⟩
section
variable {Φ:Nat->Option AFn}{ext:Nat->List V->Option V}
def Vo :∀(n k:Nat),k<10^n->k<9223372036854775807->∀(o:List UInt8),o.length+n<=1000->∀(u1 u2 u4 u5 u6 u7 u8 u9 ad ae af ai ak al u16 an a8 ab:V)(h:List Y0),
 ∃w1 w2 w4 w5 w6 w7 w8 w9 ao aq ar au aw ax ay aA aB aC h',aF (ap (ag Φ ext) aF WT) ⟨[aa .i64 k,u1,u2,eE o,u4,u5,u6,u7,u8,u9,ad,ae,af,ai,ak,al,u16,an,a8,ab],h⟩=some (.exit 0,⟨[aa .i64 0,w1,w2,eE (Bj n k o),w4,w5,w6,w7,w8,w9,ao,aq,ar,au,aw,ax,ay,aA,aB,aC],h'⟩):=by
 intro n
 induction n with
 |zero=>
  intro k hk aQ o ho u1 u2 u4 u5 u6 u7 u8 u9 ad ae af ai ak al u16 an a8 ab h
  obtain rfl:k=0:=by simpa using hk
  refine⟨u1,u2,u4,u5,aa .i64 0,az false,u8,u9,ad,ae,af,ai,ak,al,u16,an,a8,ab,h,jt ?_ (by simp)⟩
  simp[WT,ap,ah,aG,bc,bG,Opd.ev,put,bin,cG,isBool,Bj]
 |succ n ih=>
  intro k hk aQ o ho u1 u2 u4 u5 u6 u7 u8 u9 ad ae af ai ak al u16 an a8 ab h
  by_cases h0:k=0
  ·subst h0
   refine⟨u1,u2,u4,u5,aa .i64 0,az false,u8,u9,ad,ae,af,ai,ak,al,u16,an,a8,ab,h,jt ?_ (by simp)⟩
   simp[WT,ap,ah,aG,bc,bG,Opd.ev,put,bin,cG,isBool,Bj]
  ·have a6:(0:Int)<(k:Int):=by omega
   have hm:(k:Int).tmod 10=((k%10:Nat):Int):=by
    rw[Int.tmod_eq_emod_of_nonneg (by omega)];omega
   have hq:(k:Int).tdiv 10=((k/10:Nat):Int):=by
    rw[Int.tdiv_eq_ediv_of_nonneg (by omega)];omega
   have b3:IntKind.i64.wrap (48+((k%10:Nat):Int))=((48+k%10:Nat):Int):=by rw[IntKind.wrap_i64];omega
   have b4:IntKind.u8.wrap ((48+k%10:Nat):Int)=((48+k%10:Nat):Int):=by rw[IntKind.wrap_u8];omega
   have b5:IntKind.i64.wrap ((k/10:Nat):Int)=((k/10:Nat):Int):=by rw[IntKind.wrap_i64];omega
   have b6:k/10<10^n:=by
    rw[Nat.pow_succ]at hk
    omega
   have hlen:([UInt8.ofNat (48+k%10)]:List UInt8).length+o.length<=9223372036854775807:=by simp;omega
   obtain⟨w1,w2,w4,w5,w6,w7,w8,w9,ao,aq,ar,au,aw,ax,ay,aA,aB,aC,h',e⟩:=ih (k/10) b6 (by omega) (UInt8.ofNat (48+k%10)::o) (by simp;omega) u1 u2 u4 u5 (aa .i64 k) (az true) (aa .i64 k) (aa .i64 ((k%10:Nat):Int)) (aa .i64 ((48+k%10:Nat):Int)) (aa .u8 ((48+k%10:Nat):Int)) (.one (.arr h.length)) (eE [UInt8.ofNat (48+k%10)]) (eE o) (eE (UInt8.ofNat (48+k%10)::o)) (aa .i64 k) (aa .i64 ((k/10:Nat):Int)) a8 ab (h++[.arr 1 [[.int .u8 ((48+k%10:Nat):Int)]]])
   refine⟨w1,w2,w4,w5,w6,w7,w8,w9,ao,aq,ar,au,aw,ax,ay,aA,aB,aC,h',(gF ?_).trans (e.trans ?_)⟩
   ·have b7:rW [[PV.int .u8 ((48+k%10:Nat):Int)]]=some [UInt8.ofNat (48+k%10)]:=by
     simp only[rW,Int.toNat_natCast]
    have b8:aY h [aa .u8 ((48+k%10:Nat):Int)]=some [[.int .u8 ((48+k%10:Nat):Int)]]:=rfl
    have ba:freezeVs h [aa .u8 ((48+k%10:Nat):Int)]=h:=rfl
    have bb:asList (h++[Y0.arr 1 [[.int .u8 ((48+k%10:Nat):Int)]]]) (.one (.arr h.length))=some [[.int .u8 ((48+k%10:Nat):Int)]]:=by
     simp[asList,L.view]
    have bf:decide ((0:Int)<(k:Int))=true:=decide_eq_true a6
    have bg:¬((10:Int)=0):=by decide
    have bh:(([aa .u8 ((48+k%10:Nat):Int)]:List V).all (fun v=>v.cells.length==1)&&decide (0<1)&&decide (([aa .u8 ((48+k%10:Nat):Int)]:List V).length*1<=16777216))=true:=rfl
    simp only[WT,ap,ah,aG,bc,bG,cz,Opd.ev,put,Zb0,List.getD_cons_succ,U',ZT,bin,cG,jN,if_true,if_neg bg,bf,isBool,isInt,Zv,Zz,hm,b3,b4,bh,b8,ba,bb,b7,hlen,hq,b5,Zg,Zi]
   ·simp only[Bj,if_neg h0]
def WI {f:Nat}(hk:Φ f=some XI):Dw Φ ext av f:=by
 intro k h0 hM
 refine fW hk ?_
 by_cases hz:k<=0
 ·have hb:decide (k<=0)=true:=decide_eq_true hz
  simp[XI,start,fB,ap,ah,aG,bc,bG,Opd.ev,put,bin,cG,hb,isBool,done,aZ,am,cj,bS,comp,aO,bJ,aj,V.cells,av,hz]
 ·have hb:decide (k<=0)=false:=decide_eq_false hz
  obtain⟨n,rfl⟩:∃n:Nat,k=n:=⟨k.toNat,by omega⟩
  unfold xN at hM
  have bj:=L5 13 n []
  have hlen:([109]:List UInt8).length+(Bj 13 n []).length<=9223372036854775807:=by simp at bj⊢;omega
  have aL:1+(Bj 13 n []).length<=9223372036854775807:=by simpa using hlen
  generalize aU:aF (ap (ag Φ ext) aF WT)=lp
  have aM:∀u1 u2 u4 u5 u6 u7 u8 u9 ad ae af ai ak al u16 an a8 ab h,∃w1 w2 w4 w5 w6 w7 w8 w9 ao aq ar au aw ax ay aA aB aC h',lp ⟨[aa .i64 n,u1,u2,eE [],u4,u5,u6,u7,u8,u9,ad,ae,af,ai,ak,al,u16,an,a8,ab],h⟩=some (.exit 0,⟨[aa .i64 0,w1,w2,eE (Bj 13 n []),w4,w5,w6,w7,w8,w9,ao,aq,ar,au,aw,ax,ay,aA,aB,aC],h'⟩):=by
   rw[<-aU]
   exact Vo (Φ:=Φ) (ext:=ext) 13 n (by omega) (by omega) [] (by simp)
  obtain⟨w1,w2,w4,w5,w6,w7,w8,w9,ao,aq,ar,au,aw,ax,ay,aA,aB,aC,h',e⟩:=aM (.b9 []) (eE []) (aa .i64 n) (az false) (.b9 []) (.b9 []) (.b9 []) (.b9 []) (.b9 []) (.b9 []) (.b9 []) (.b9 []) (.b9 []) (.b9 []) (.b9 []) (.b9 []) (.b9 []) (.b9 []) []
  have hm:av (n:Int)=109::Bj 13 n []:=by simp only[av,if_neg hz,Int.toNat_natCast]
  rw[hm]
  simp only[XI,start,fB,ap,aU,ZN,Nat.reduceSub,List.replicate,Zg,Zi,ah,aG,bc,bG,Opd.ev,put,Zb0,List.getD_cons_succ,U',ZT,bin,cG,hb,if_true,isBool,Zy,if_false,e,jN,hlen]
  simp[aL,done,aZ,am,cj,bS,comp,aO,bJ,aj,V.cells]
end
end Gi
