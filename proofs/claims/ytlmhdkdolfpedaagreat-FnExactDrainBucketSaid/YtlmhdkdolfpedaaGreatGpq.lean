/- Of this proof. -/
import Derived.Test.YtlmhdkdolfpedaaGreatGpn
set_option linter.all false
namespace Gi
open Go Go.RowKit
section
variable (mT:Int->List UInt8)
def jk :List PV->Int->List PV×Int
 |[],k=>([],k)
 | .lst rows::ps,k=>(.lst (fu mT rows k).1::(jk ps (fu mT rows k).2).1,(jk ps (fu mT rows k).2).2)
 |p::ps,k=>(p::(jk ps k).1,(jk ps k).2)
end
def pD (mT:Int->List UInt8):∀(a b:List PV)(k:Int),jk mT (a++b) k=((jk mT a k).1++(jk mT b (jk mT a k).2).1,(jk mT b (jk mT a k).2).2)
 |[],b,k=>by simp only[Zj,jk]
 | .lst rows::a,b,k=>by simp only[Zh,jk,pD mT a b]
 | .int _ _::a,b,k=>by simp only[Zh,jk,pD mT a b]
 | .bool _::a,b,k=>by simp only[Zh,jk,pD mT a b]
 | .str _::a,b,k=>by simp only[Zh,jk,pD mT a b]
def qS (mT:Int->List UInt8):∀(a:List PV)(k:Int),k<=(jk mT a k).2
 |[],k=>by simp only[jk];omega
 | .lst rows::a,k=>by simp only[jk];have:=tV mT rows k;have:=qS mT a (fu mT rows k).2;omega
 | .int _ _::a,k=>by simp only[jk];exact qS mT a k
 | .bool _::a,k=>by simp only[jk];exact qS mT a k
 | .str _::a,k=>by simp only[jk];exact qS mT a k
def OO :List PTy->List PV->List L
 | .lst us::ts, .lst rows::ps=> .down us.length rows::OO ts ps
 |_::ts,p::ps=> .pv p::OO ts ps
 |_,_=>[]
def kM :List PTy->List PV->List Q0
 | .lst us::ts, .lst rows::ps=> .bB us.length rows::kM ts ps
 |_::ts,_::ps=>kM ts ps
 |_,_=>[]
def mX :Nat->List PTy->List PV->List L
 |j, .lst us::ts, .lst rows::ps=> .arr j::mX (j+1) ts ps
 |j,_::ts,p::ps=> .pv p::mX j ts ps
 |_,_,_=>[]
def Wd :List PTy->List PV->List (Bool×List L)
 | .lst us::ts, .lst rows::ps=>(false,[.down us.length rows])::Wd ts ps
 |_::ts,_::ps=>Wd ts ps
 |_,_=>[]
def jL {P:List PTy->List PV->Prop}(nil:P [] [])(lst:∀us rows ts ps,qa (.lst us) (.lst rows)->dW ts ps->P ts ps->P (.lst us::ts) (.lst rows::ps))(flat:∀t p ts ps,qa t p->t.flatT=true->p.flat=true->dW ts ps->P ts ps->P (t::ts) (p::ps)):∀(ts:List PTy)(ps:List PV),dW ts ps->P ts ps
 |[],ps,h=>by rw[ja h];exact nil
 | .lst us::ts,ps,h=>by obtain⟨p,r,rfl,h1,h2⟩:=gY h;obtain⟨rows,rfl⟩:=sB h1;exact lst us rows ts r h1 h2 (jL nil lst flat ts r h2)
 | .int κ::ts,ps,h=>by obtain⟨p,r,rfl,h1,h2⟩:=gY h;obtain⟨n,rfl⟩:=qh h1;exact flat _ _ ts r h1 rfl rfl h2 (jL nil lst flat ts r h2)
 | .bool::ts,ps,h=>by obtain⟨p,r,rfl,h1,h2⟩:=gY h;obtain⟨n,rfl⟩:=oZ h1;exact flat _ _ ts r h1 rfl rfl h2 (jL nil lst flat ts r h2)
 | .str::ts,ps,h=>by obtain⟨p,r,rfl,h1,h2⟩:=gY h;obtain⟨n,rfl⟩:=oh h1;exact flat _ _ ts r h1 rfl rfl h2 (jL nil lst flat ts r h2)
def Pq {t:PTy}{p:PV}{ts:List PTy}{ps:List PV}(ht:t.flatT=true):OO (t::ts) (p::ps)= .pv p::OO ts ps:=by cases t<;>first|rfl|cases ht
def k6 {t:PTy}{p:PV}{ts:List PTy}{ps:List PV}(ht:t.flatT=true):kM (t::ts) (p::ps)=kM ts ps:=by cases t<;>first|rfl|cases ht
def qj {t:PTy}{p:PV}{ts:List PTy}{ps:List PV}{j:Nat}(ht:t.flatT=true):mX j (t::ts) (p::ps)= .pv p::mX j ts ps:=by cases t<;>first|rfl|cases ht
def Rh {t:PTy}{p:PV}{ts:List PTy}{ps:List PV}(ht:t.flatT=true):Wd (t::ts) (p::ps)=Wd ts ps:=by cases t<;>first|rfl|cases ht
def vm (mT:Int->List UInt8){p:PV}{ps:List PV}{k:Int}(hp:p.flat=true):jk mT (p::ps) k=(p::(jk mT ps k).1,(jk mT ps k).2):=by cases p<;>first|rfl|cases hp
def MY {ts:List PTy}{ps:List PV}(h:dW ts ps):∀j,(mX j ts ps).length=ts.length:=by refine jL (P:=fun ts ps=>∀j,(mX j ts ps).length=ts.length) (fun j=>rfl) ?_ ?_ ts ps h;intro us rows ts ps _ _ ih j;simp only[mX,Zo,ih];intro t p ts ps _ ht hp _ ih j;rw[qj ht];simp only[Zo,ih]
def acD {ts:List PTy}{ps:List PV}(h:dW ts ps):∀hh:List Q0,∃ds,thawL hh (OO ts ps)=(mX hh.length ts ps,hh++ds)/\ ds.map Q0.zone=kM ts ps:=by refine jL (P:=fun ts ps=>∀hh:List Q0,∃ds,thawL hh (OO ts ps)=(mX hh.length ts ps,hh++ds)/\ ds.map Q0.zone=kM ts ps) ?_ ?_ ?_ ts ps h;intro hh;exact⟨[],by simp[OO,thawL,mX],rfl⟩;intro us rows ts ps _ _ ih hh;obtain⟨ds,e1,e2⟩:=ih (hh++[.b9 us.length rows]);refine⟨.b9 us.length rows::ds,?_,by simp only[Zt,e2,Q0.zone,kM]⟩;simp only[OO,thawL,e1,mX,Zv,ZI,List.append_assoc,Zh,Zj];intro t p ts ps _ ht hp _ ih hh;obtain⟨ds,e1,e2⟩:=ih hh;refine⟨ds,?_,by rw[e2,k6 ht]⟩;rw[Pq ht,qj ht];simp only[thawL,e1]
def Vf {p:PV}(h:p.flat=true):p.bare=true:=by cases p<;>first|rfl|cases h
def Uu {ts:List PTy}{ps:List PV}(h:dW ts ps):∀(pre post:List Q0),oV (pre++kM ts ps++post) (mX pre.length ts ps)=some (OO ts ps):=by
 refine jL (P:=fun ts ps=>∀(pre post:List Q0),oV (pre++kM ts ps++post) (mX pre.length ts ps)=some (OO ts ps)) (fun _ _=>rfl) ?_ ?_ ts ps h;intro us rows ts ps _ _ ih pre post;have:=ih (pre++[.bB us.length rows]) post;simp only[Zv,ZI,List.append_assoc,Zh,Zj]at this;have hg:(pre++(Q0.bB us.length rows::(kM ts ps++post)))[pre.length]? =some (.bB us.length rows):=by rw[Zm (Zi _),YH];rfl
 simp only[kM,mX,OO,List.append_assoc,Zh,oV,Bc,hg,this];intro t p ts ps _ ht hp _ ih pre post;rw[Pq ht,qj ht,k6 ht];have hb:PV.bare _=true:=Vf hp;simp only[oV,Bc,hb,if_true,ih pre post]
def abX {ts:List PTy}{ps:List PV}(h:dW ts ps):∀(j:Nat),(cz (mX j ts ps)).Nodup/\ ∀o∈cz (mX j ts ps),j<=o:=by
 refine jL (P:=fun ts ps=>∀(j:Nat),(cz (mX j ts ps)).Nodup/\ ∀o∈cz (mX j ts ps),j<=o) (fun j=>⟨QP,fun o ho=>by cases ho⟩) ?_ ?_ ts ps h;intro us rows ts ps _ _ ih j;obtain⟨h1,h2⟩:=ih (j+1);have e:cz (mX j (.lst us::ts) (.lst rows::ps))=j::cz (mX (j+1) ts ps):=by simp[mX,cz]
 rw[e];refine⟨Yn.2 ⟨fun hm=>by have:=h2 _ hm;omega,h1⟩,fun o ho=> ?_⟩;rcases ZF.1 ho with rfl|ho;exact Zi _;have:=h2 o ho;omega;intro t p ts ps _ ht hp _ ih j;have e:cz (mX j (t::ts) (p::ps))=cz (mX j ts ps):=by rw[qj ht];simp[cz]
 rw[e];exact ih j
def adO (mT:Int->List UInt8){ts:List PTy}{ps:List PV}(h:dW ts ps):∀(pre post:List Q0)(k:Int),nC (pre++kM ts ps++post) (cz (mX pre.length ts ps)) (Wd ts (jk mT ps k).1)=some (pre++kM ts (jk mT ps k).1++post):=by
 refine jL (P:=fun ts ps=>∀(pre post:List Q0)(k:Int),nC (pre++kM ts ps++post) (cz (mX pre.length ts ps)) (Wd ts (jk mT ps k).1)=some (pre++kM ts (jk mT ps k).1++post)) (fun _ _ _=>rfl) ?_ ?_ ts ps h;intro us rows ts ps _ _ ih pre post k;have:=ih (pre++[.bB us.length (fu mT rows k).1]) post (fu mT rows k).2;simp only[Zv,ZI,List.append_assoc,Zh,Zj]at this;have e:cz (mX pre.length (.lst us::ts) (.lst rows::ps))=pre.length::cz (mX (pre.length+1) ts ps):=by simp[mX,cz]
 rw[e];simp only[jk,kM,Wd,nC,List.append_assoc,Zh];rw[YP _ _ (Zi _),YH,ZP,this];intro t p ts ps _ ht hp _ ih pre post k;have e:cz (mX pre.length (t::ts) (p::ps))=cz (mX pre.length ts ps):=by rw[qj ht];simp[cz]
 rw[e,vm mT hp,k6 ht,k6 ht,Rh ht];exact ih pre post k
def acw (mT:Int->List UInt8){ts:List PTy}{ps:List PV}(h:dW ts ps):∀k,kD (kM ts (jk mT ps k).1)=some (Wd ts (jk mT ps k).1):=by refine jL (P:=fun ts ps=>∀k,kD (kM ts (jk mT ps k).1)=some (Wd ts (jk mT ps k).1)) (fun _=>rfl) ?_ ?_ ts ps h;intro us rows ts ps _ _ ih k;simp only[jk,kM,kD,ih,Wd];intro t p ts ps _ ht hp _ ih k;rw[vm mT hp,k6 ht,Rh ht,ih]
def KB (mT:Int->List UInt8){ts:List PTy}{ps:List PV}(h:dW ts ps):∀k,(kM ts (jk mT ps k).1).length=(kM ts ps).length:=by refine jL (P:=fun ts ps=>∀k,(kM ts (jk mT ps k).1).length=(kM ts ps).length) (fun _=>rfl) ?_ ?_ ts ps h;intro us rows ts ps _ _ ih k;simp only[jk,kM,Zo,ih];intro t p ts ps _ ht hp _ ih k;rw[vm mT hp,k6 ht,k6 ht,ih]
def OM {ts us:List PTy}{a b:List PV}(h:dW ts a):kM (ts++us) (a++b)=kM ts a++kM us b:=by refine jL (P:=fun ts a=>kM (ts++us) (a++b)=kM ts a++kM us b) rfl ?_ ?_ ts a h;intro us rows ts ps _ _ ih;simp only[Zh,kM,ih];intro t p ts ps _ ht hp _ ih;simp only[Zh];rw[k6 ht,k6 ht,ih]
def MA (mT:Int->List UInt8){ts us:List PTy}{a b:List PV}(h:dW ts a):∀k,kM (ts++us) ((jk mT a k).1++b)=kM ts (jk mT a k).1++kM us b:=by refine jL (P:=fun ts a=>∀k,kM (ts++us) ((jk mT a k).1++b)=kM ts (jk mT a k).1++kM us b) (fun _=>rfl) ?_ ?_ ts a h;intro us rows ts ps _ _ ih k;simp only[jk,Zh,kM,ih];intro t p ts ps _ ht hp _ ih k;rw[vm mT hp];simp only[Zh];rw[k6 ht,k6 ht,ih]
def SJ {ts us:List PTy}{a b:List PV}(h:dW ts a):∀j,mX j (ts++us) (a++b)=mX j ts a++mX (j+(kM ts a).length) us b:=by refine jL (P:=fun ts a=>∀j,mX j (ts++us) (a++b)=mX j ts a++mX (j+(kM ts a).length) us b) (fun j=>rfl) ?_ ?_ ts a h;intro us rows ts ps _ _ ih j;simp only[Zh,mX,kM,Zo,ih];rw[show j+1+(kM ts ps).length=j+((kM ts ps).length+1) by omega];intro t p ts ps _ ht hp _ ih j;simp only[Zh];rw[qj ht,qj ht,k6 ht,ih];rfl
def aao {ts:List PTy}{ps:List PV}(h:dW ts ps):∀j,(mX j ts ps).all plain=true:=by refine jL (P:=fun ts ps=>∀j,(mX j ts ps).all plain=true) (fun j=>rfl) ?_ ?_ ts ps h;intro us rows ts ps _ _ ih j;simp only[mX,Zq,ih,Yj];rfl;intro t p ts ps _ ht hp _ ih j;rw[qj ht];simp only[Zq,ih,Yj];rfl
inductive MS where
 |k (ts:List PTy)
 |s (ts:List PTy) (f:Nat)
 |l (us:List PTy) (f:Nat)
def MS.ts :MS->List PTy
 | .k ts=>ts
 | .s ts _=>ts
 | .l us _=>[.lst us]
def kC :List MS->List PTy
 |[]=>[]
 |s::ss=>s.ts++kC ss
def mkI (c off:Nat)(g:Bool)(n f:Nat):List X2:=[⟨some c, .bj (.tmp 2) off,none⟩,⟨some (c+1), .bm g n (.tmp c),none⟩,⟨some (c+2), .mv (.tmp 1),none⟩,⟨some (c+3), .bc f (.tmp (c+1)) (.tmp (c+2)),none⟩,⟨some 1, .mv (.tmp (c+3)),none⟩]
def WX :Nat->Nat->List MS->Q6
 |c,_,[]=> .seq (.region [⟨some c, .mv (.tmp 1),none⟩,⟨some 4, .mv (.tmp c),none⟩]) .ret
 |c,off, .k ts::ss=>WX c (off+ts.length) ss
 |c,off, .s ts f::ss=> .seq (.region (mkI c off true ts.length f)) (WX (c+4) (off+ts.length) ss)
 |c,off, .l _ f::ss=> .seq (.region (mkI c off false 1 f)) (WX (c+4) (off+1) ss)
def WY :Nat->List MS->Nat
 |c,[]=>c
 |c, .k _::ss=>WY c ss
 |c,_::ss=>WY (c+4) ss
def vT (ss:List MS):AFn:=⟨WY 5 ss+1,[.tmp 4], .seq (.region [⟨some 2, .box (.tmp 0),none⟩,⟨some 4, .mv (.pv (.int .i64 0)),none⟩]) (WX 5 0 ss)⟩
def HM :∀(ss:List MS)(c off:Nat),(WX c off ss).bX=true
 |[],c,off=>rfl
 | .k ts::ss,c,off=>HM ss c _
 | .s ts f::ss,c,off=>by simp only[WX,Q6.bX,HM ss,Yj];rfl
 | .l us f::ss,c,off=>by simp only[WX,Q6.bX,HM ss,Yj];rfl
def Fu :∀(ss:List MS)(c:Nat),c<=WY c ss
 |[],c=>Zi _
 | .k ts::ss,c=>Fu ss c
 | .s ts f::ss,c=>Zc (by omega) (Fu ss (c+4))
 | .l us f::ss,c=>Zc (by omega) (Fu ss (c+4))
section
variable {Φ:Nat->Option AFn}{ext:Nat->List V->Option V}{mT:Int->List UInt8}{mt:Nat}
def U7 (Φ:Nat->Option AFn)(ext:Nat->List V->Option V)(mT:Int->List UInt8)(f:Nat)(ts:List PTy):Prop:=
 ∀row:List PV,dW ts row->∀k:Int,0<=k->(jk mT row k).2<=Bf->cf Φ ext (f+iP) [.agg (OO ts row),ce .i64 k]=some (.b8 ((false,[.pv (.int .i64 (jk mT row k).2)])::Wd ts (jk mT row k).1))
def OT (Φ:Nat->Option AFn)(ext:Nat->List V->Option V)(mT:Int->List UInt8):List MS->Prop
 |[]=>True
 | .k ts::ss=>ts.all PTy.flatT=true/\ OT Φ ext mT ss
 | .s ts f::ss=>U7 Φ ext mT f ts/\ OT Φ ext mT ss
 | .l us f::ss=>uo Φ ext mT f us/\ OT Φ ext mT ss
def P7 {g:Bool}{n f c m:Nat}{C1 C2:List L}{Z1 Z2:List Q0}{ts:List PTy}{x:List PV}{v a:V}{k:Int}{t:List V}(hx:dW ts x)(h1:t[1]? =some (ce .i64 k))(h2:t[2]? =some (.one (.ptr m 0 0)))(hc:5<=c)(hl:c+3<t.length)
 (hb:(Z1++kM ts x++Z2)[m]? =some (.box (C1++C2))) (a5:iZ g n C1.length (C1++C2)=some v) (hv:v.cells=mX Z1.length ts x) (aE:∀o c,v≠ .one (.sub o c)) (ax:yn (Z1++kM ts x++Z2) v=some a) (ay:cf Φ ext (f+iP) [a,ce .i64 k]=some (.b8 ((false,[.pv (.int .i64 (jk mT x k).2)])::Wd ts (jk mT x k).1))):
 ∃t',cj (cf Φ ext) (mkI c C1.length g n f) ⟨t,Z1++kM ts x++Z2⟩=some ⟨t',Z1++kM ts (jk mT x k).1++Z2⟩/\ t'.length=t.length/\ t'[1]? =some (ce .i64 (jk mT x k).2)/\ t'[2]? =some (.one (.ptr m 0 0)):=by
 have e1:=getD_some h1;have e2:=getD_some h2;have q1:(t.set c (V.one (.ptr m 0 C1.length))).getD c (.b8 [])= .one (.ptr m 0 C1.length):=db (by omega);have q2:((t.set c (V.one (.ptr m 0 C1.length))).set (c+1) v).getD 1 (.b8 [])=ce .i64 k:=(gI (by omega)).trans ((gI (by omega)).trans e1);have q3:(((t.set c (V.one (.ptr m 0 C1.length))).set (c+1) v).set (c+2) (ce .i64 k)).getD (c+1) (.b8 [])=v:=(gI (by omega)).trans (db (by simp;omega));have q4:(((t.set c (V.one (.ptr m 0 C1.length))).set (c+1) v).set (c+2) (ce .i64 k)).getD (c+2) (.b8 [])=ce .i64 k:=db (by simp;omega);have q5:((((t.set c (V.one (.ptr m 0 C1.length))).set (c+1) v).set (c+2) (ce .i64 k)).set (c+3) (ce .i64 (jk mT x k).2)).getD (c+3) (.b8 [])=ce .i64 (jk mT x k).2:=db (by simp;omega);have aL:(cz v.cells).Nodup:=by rw[hv];exact(abX hx _).1
 have az:=adO mT hx Z1 Z2 k;rw[<-hv]at az;have hM:nM (cf Φ ext) (Z1++kM ts x++Z2) f v k=some (ce .i64 (jk mT x k).2,Z1++kM ts (jk mT x k).1++Z2):=by unfold nM;split;rename_i o cc;exact absurd rfl (aE o cc);simp only[aL,if_true,ax,ay,L.flat,az]
 refine⟨((((t.set c (V.one (.ptr m 0 C1.length))).set (c+1) v).set (c+2) (ce .i64 k)).set (c+3) (ce .i64 (jk mT x k).2)).set 1 (ce .i64 (jk mT x k).2),?_,by simp,Zd (by simp;omega),by rw[Za (by omega),Za (by omega),Za (by omega),Za (by omega),Za (by omega)];exact h2⟩;simp only[mkI,cj,cS,dy,dX,eX,Opd.ev,e2,put,ZJ,q1,vk,hb,dM,if_true,a5,q2,q3,q4,hM,q5]
def HK :∀(ss:List MS),OT Φ ext mT ss->∀{c:Nat}{C1:List L}{Z1:List Q0}{b:List PV}{k:Int}{t:List V},dW (kC ss) b->0<=k->(jk mT b k).2<=Bf->t[1]? =some (ce .i64 k)->t[2]? =some (.one (.ptr (Z1.length+(kM (kC ss) b).length) 0 0))->5<=c->WY c ss<t.length->
 ∃t',cD (cf Φ ext) cR (WX c C1.length ss) ⟨t,Z1++kM (kC ss) b++[.box (C1++mX Z1.length (kC ss) b)]⟩=some (.ret,⟨t',Z1++kM (kC ss) (jk mT b k).1++[.box (C1++mX Z1.length (kC ss) b)]⟩)/\ t'.getD 4 (.b8 [])=ce .i64 (jk mT b k).2
 |[],_,c,C1,Z1,b,k,t,hb,h0,hk,h1,h2,hc,hl=>by obtain rfl:=ja hb;simp only[WY]at hl;have q2:(t.set c (ce .i64 k)).getD c (.b8 [])=ce .i64 k:=db hl;refine⟨(t.set c (ce .i64 k)).set 4 (ce .i64 k),?_,by simp only[jk];exact db (by simp;omega)⟩;simp only[WX,cD,cj,cS,dy,dX,Opd.ev,getD_some h1,put,q2,jk]
 | .k ts::ss,a7,c,C1,Z1,b,k,t,hb,h0,hk,h1,h2,hc,hl=>by
  simp only[kC,MS.ts]at hb h2⊢;obtain⟨x,y,rfl,hx,hy⟩:=oY (ts:=ts) hb;have flat:∀{ts:List PTy}{x:List PV},dW ts x->ts.all PTy.flatT=true->kM ts x=[]/\ ∀k,jk mT x k=(x,k):=by intro ts x h;refine jL (P:=fun ts x=>ts.all PTy.flatT=true->kM ts x=[]/\ ∀k,jk mT x k=(x,k)) (fun _=>⟨rfl,fun _=>rfl⟩) ?_ ?_ ts x h;intro us rows ts ps _ _ _ ha;simp[PTy.flatT]at ha;intro t p ts ps _ ht hp _ ih ha;simp only[Zq,Zg]at ha;obtain⟨i1,i2⟩:=ih ha.2;exact⟨by rw[k6 ht,i1],fun k=>by rw[vm mT hp,i2]⟩
  obtain⟨z0,m0⟩:=flat hx a7.1;have hm:jk mT (x++y) k=(x++(jk mT y k).1,(jk mT y k).2):=by rw[pD,m0]
  have hlen:(C1++mX Z1.length ts x).length=C1.length+ts.length:=by rw[Zv,MY hx]
  rw[OM hx,z0,Zj]at h2⊢;rw[SJ hx,z0,hm];simp only[hm]at hk;have aM:∀y',kM (ts++kC ss) (x++y')=kM (kC ss) y':=fun y'=>by rw[OM hx,z0,Zj]
  simp only[aM,Zx,Yx];obtain⟨t',r1,r2⟩:=HK ss a7.2 (c:=c) (C1:=C1++mX Z1.length ts x) (Z1:=Z1) hy h0 hk h1 h2 hc hl;rw[hlen]at r1;simp only[List.append_assoc]at r1⊢;exact⟨t',r1,r2⟩
 | .s ts f::ss,a7,c,C1,Z1,b,k,t,hb,h0,hk,h1,h2,hc,hl=>by
  simp only[kC,MS.ts]at hb h2⊢;obtain⟨x,y,rfl,hx,hy⟩:=oY (ts:=ts) hb;have hN:=Fu ss (c+4);simp only[WY]at hl;simp only[pD]at hk;have hle:=qS mT y (jk mT x k).2;have aJ:=qS mT x k;have aA:=MY hx Z1.length;rw[OM hx]at h2⊢;rw[SJ hx];simp only[pD,MA mT hx];generalize aF:mX (Z1.length+(kM ts x).length) (kC ss) y=C2;generalize hB:[Q0.box (C1++(mX Z1.length ts x++C2))]=B;have a5:iZ true ts.length C1.length (C1++(mX Z1.length ts x++C2))=some (.agg (mX Z1.length ts x)):=by unfold iZ;rw[if_pos (by simp[aA]),if_pos rfl,List.drop_left,<-aA,List.take_left]
  obtain⟨t1,a1,a2,a3,a4⟩:=P7 (Φ:=Φ) (ext:=ext) (mT:=mT) (g:=true) (n:=ts.length) (f:=f) (c:=c) (m:=Z1.length+(kM ts x++kM (kC ss) y).length) (C1:=C1) (C2:=mX Z1.length ts x++C2) (Z1:=Z1) (Z2:=kM (kC ss) y++B) (v:= .agg (mX Z1.length ts x)) (a:= .agg (OO ts x)) hx h1 h2 hc (by omega) (by
   rw[<-hB]
   have:Z1++kM ts x++(kM (kC ss) y++[Q0.box (C1++(mX Z1.length ts x++C2))])=(Z1++(kM ts x++kM (kC ss) y))++[Q0.box (C1++(mX Z1.length ts x++C2))]:=by simp
   rw[this,Zm (by simp)]
   simp) a5 rfl (fun _ _ h=>by cases h) (by
   have:=Uu hx Z1 (kM (kC ss) y++B)
   simp only[yn,this]) (a7.1 x hx k h0 (by omega))
  obtain⟨t2,b1,b2⟩:=HK ss a7.2 (c:=c+4) (C1:=C1++mX Z1.length ts x) (Z1:=Z1++kM ts (jk mT x k).1) (b:=y) (k:=(jk mT x k).2) (t:=t1) hy (by omega) hk a3 (by rw[a4];simp only[Zv,KB mT hx];congr 3;omega) (by omega) (by omega);refine⟨t2,?_,b2⟩;have hlen:(C1++mX Z1.length ts x).length=C1.length+ts.length:=by rw[Zv,aA]
  have a6:(Z1++kM ts (jk mT x k).1).length=Z1.length+(kM ts x).length:=by rw[Zv,KB mT hx]
  rw[hlen,a6,aF]at b1;simp only[WX,cD,List.append_assoc]at a1 b1⊢;rw[hB]at b1;rw[a1];exact b1
 | .l us f::ss,a7,c,C1,Z1,b,k,t,hb,h0,hk,h1,h2,hc,hl=>by
  simp only[kC,MS.ts]at hb h2⊢;obtain⟨x,y,rfl,hx,hy⟩:=oY (ts:=[.lst us]) hb;have hN:=Fu ss (c+4);simp only[WY]at hl;simp only[pD]at hk;have hle:=qS mT y (jk mT x k).2;have aJ:=qS mT x k;have aA:=MY hx Z1.length;have aN:=hx;obtain⟨p,x',rfl,hp,hn⟩:=gY aN;obtain rfl:=ja hn;obtain⟨rows,rfl⟩:=sB hp;rw[OM hx]at h2⊢;rw[SJ hx];simp only[pD,MA mT hx];generalize aF:mX (Z1.length+(kM [.lst us] [.lst rows]).length) (kC ss) y=C2;generalize hB:[Q0.box (C1++(mX Z1.length [.lst us] [.lst rows]++C2))]=B;have a5:iZ false 1 C1.length (C1++(mX Z1.length [.lst us] [.lst rows]++C2))=some (.one (.arr Z1.length)):=by simp[iZ,mX]
  obtain⟨t1,a1,a2,a3,a4⟩:=P7 (Φ:=Φ) (ext:=ext) (mT:=mT) (g:=false) (n:=1) (f:=f) (c:=c) (m:=Z1.length+(kM [.lst us] [.lst rows]++kM (kC ss) y).length) (C1:=C1) (C2:=mX Z1.length [.lst us] [.lst rows]++C2) (Z1:=Z1) (Z2:=kM (kC ss) y++B) (v:= .one (.arr Z1.length)) (a:= .one (.down us.length rows)) hx h1 h2 hc (by omega) (by
   rw[<-hB]
   have:Z1++kM [.lst us] [.lst rows]++(kM (kC ss) y++[Q0.box (C1++(mX Z1.length [.lst us] [.lst rows]++C2))])=(Z1++(kM [.lst us] [.lst rows]++kM (kC ss) y))++[Q0.box (C1++(mX Z1.length [.lst us] [.lst rows]++C2))]:=by simp
   rw[this,Zm (by simp)]
   simp) a5 rfl (fun _ _ h=>by cases h) (by
   have:=Uu hx Z1 (kM (kC ss) y++B)
   simp only[mX,OO,oV]at this
   split at this
   ·rename_i a b h1 h2
    cases this
    cases h2
    simp only[yn,h1]
   ·cases this) (by
   simp only[jk]at hle aJ hk⊢
   exact a7.1.2 rows hp k h0 (by omega))
  obtain⟨t2,b1,b2⟩:=HK ss a7.2 (c:=c+4) (C1:=C1++mX Z1.length [.lst us] [.lst rows]) (Z1:=Z1++kM [.lst us] (jk mT [.lst rows] k).1) (b:=y) (k:=(jk mT [.lst rows] k).2) (t:=t1) hy (by omega) hk a3 (by rw[a4];simp only[Zv,KB mT hx];congr 3;omega) (by omega) (by omega);refine⟨t2,?_,b2⟩;have hlen:(C1++mX Z1.length [.lst us] [.lst rows]).length=C1.length+1:=by rw[Zv,aA];rfl
  have a6:(Z1++kM [.lst us] (jk mT [.lst rows] k).1).length=Z1.length+(kM [.lst us] [.lst rows]).length:=by rw[Zv,KB mT hx]
  rw[hlen,a6,aF]at b1;simp only[WX,cD,List.append_assoc]at a1 b1⊢;rw[hB]at b1;rw[a1];exact b1
def Dy {f:Nat}{ss:List MS}(hk:Φ f=some (vT ss))(hn:Φ (f+iP)=none)(a7:OT Φ ext mT ss):U7 Φ ext mT f (kC ss):=by
 intro row hr k h0 aG;have hN:=Fu ss 5;obtain⟨m,hm⟩:∃m,WY 5 ss+1-2=m+4:=⟨WY 5 ss-5,by omega⟩;have hz:(vT ss).body.bX=true:=by simp only[vT,Q6.bX,HM,Yj];rfl
 refine yO hn hk hz ?_;obtain⟨ds,d1,d2⟩:=acD hr [];simp only[Zx,Zj]at d1;have hA:gM [] [.agg (OO (kC ss) row),ce .i64 k]=([.agg (mX 0 (kC ss) row),ce .i64 k],ds):=by simp only[gM,thaw,d1,thawL]
 have aO:ma (vT ss) [.agg (OO (kC ss) row),ce .i64 k]=⟨.agg (mX 0 (kC ss) row)::ce .i64 k::List.replicate (m+4) (.b8 []),kM (kC ss) row⟩:=by simp only[ma,hA,d2,vT,Zo,Zx,Zh,Zj,hm]
 have hlen:ds.length=(kM (kC ss) row).length:=by rw[<-d2];simp
 let t0:List V:= .agg (mX 0 (kC ss) row)::ce .i64 k:: .one (.ptr (kM (kC ss) row).length 0 0):: .b8 []::ce .i64 0::List.replicate (m+1) (.b8 []);have b0:t0.length=WY 5 ss+1:=by simp[t0];omega
 obtain⟨t',a1,a2⟩:=HK (Φ:=Φ) (ext:=ext) ss a7 (c:=5) (C1:=[]) (Z1:=[]) (b:=row) (k:=k) (t:=t0) hr h0 aG rfl (by simp[t0]) (Zi _) (by omega);simp only[Zx,Zj]at a1;have aH:iI Φ ext (vT ss).body (ma (vT ss) [.agg (OO (kC ss) row),ce .i64 k])=some (.ret,⟨t',kM (kC ss) (jk mT row k).1++[.box (mX 0 (kC ss) row)]⟩):=by rw[aO];have aI:List.replicate (m+4) (V.b8 [])= .b8 []:: .b8 []:: .b8 []::List.replicate (m+1) (.b8 []):=rfl;simp only[t0]at a1;simp only[iI,vT,aI,cD,cj,cS,dy,dX,eX,Opd.ev,put,Yz,V.cells,aao hr,if_true,Yf,ZP];exact a1
 have aB:(kM (kC ss) (jk mT row k).1++[Q0.box (mX 0 (kC ss) row)]).take ds.length=kM (kC ss) (jk mT row k).1:=by rw[hlen,<-KB mT hr k,List.take_left]
 rw[aH];simp only[A5,Lm,vT,dd,cu,eY,a2,Y',YE,Zw,V.cells,ee,comp,cV,dS,hA,aB,acw mT hr,L.flat,if_true];rfl
end
def Ed :Nat->Nat->List UInt8->List UInt8
 |0,_,o=>o
 |n+1,k,o=>if k=0 then o else Ed n (k/10) (UInt8.ofNat (48+k%10)::o)
def cH (k:Int):List UInt8:=if k<=0 then [109,48]else 109::Ed 13 k.toNat []
def Pp :∀(n k:Nat)(o:List UInt8),(Ed n k o).length<=n+o.length
 |0,k,o=>by simp[Ed]
 |n+1,k,o=>by simp only[Ed];split;omega;have:=Pp n (k/10) (UInt8.ofNat (48+k%10)::o);simp only[Zo]at this;omega
def txB :Q6:= .seq (.seq (.region [⟨some 6, .mv (.tmp 0),none⟩,⟨some 7, .bin .gtr (.tmp 6) (.pv (.int .i64 0)),none⟩]) (.cond (.tmp 7) .skip (.exit 0))) (.block 1 (.seq (.region [⟨some 8, .mv (.tmp 0),none⟩,⟨some 9, .bin .rem (.tmp 8) (.pv (.int .i64 10)),none⟩,⟨some 10, .bin .add (.pv (.int .i64 48)) (.tmp 9),none⟩,⟨some 11, .conv .u8 (.tmp 10),none⟩,⟨some 12, .bM 1 [.tmp 11],none⟩,⟨some 13, .cK (.tmp 12),none⟩,⟨some 14, .mv (.tmp 3),none⟩,⟨some 15, .bin .add (.tmp 13) (.tmp 14),none⟩,⟨some 3, .mv (.tmp 15),none⟩]) (.region [⟨some 16, .mv (.tmp 0),none⟩,⟨some 17, .bin .quo (.tmp 16) (.pv (.int .i64 10)),none⟩,⟨some 0, .mv (.tmp 17),none⟩])))
def txF :AFn:=⟨20,[.tmp 2], .seq (.region [⟨some 2, .mv (.pv (.str [])),none⟩]) (.seq (.seq (.region [⟨some 4, .mv (.tmp 0),none⟩,⟨some 5, .bin .leq (.tmp 4) (.pv (.int .i64 0)),none⟩]) (.cond (.tmp 5) (.seq (.region [⟨some 2, .mv (.pv (.str [109,48])),none⟩]) .ret) .skip)) (.seq (.region [⟨some 3, .mv (.pv (.str [])),none⟩]) (.seq (.block 0 (.loop txB)) (.seq (.region [⟨some 18, .mv (.tmp 3),none⟩,⟨some 19, .bin .add (.pv (.str [109])) (.tmp 18),none⟩,⟨some 2, .mv (.tmp 19),none⟩]) .ret))))⟩
section
variable {Φ:Nat->Option AFn}{ext:Nat->List V->Option V}
def acF :∀(n k:Nat),k<10^n->k<9223372036854775807->∀(o:List UInt8),o.length+n<=1000->∀(u1 u2 u4 u5 u6 u7 u8 u9 ab ad ae af ag ah u16 ai a8 aa:V)(h:List Q0),
 ∃w1 w2 w4 w5 w6 w7 w8 w9 aj ak al an ao aq ar au av aw h',cR (cD (cf Φ ext) cR txB) ⟨[ce .i64 k,u1,u2,fY o,u4,u5,u6,u7,u8,u9,ab,ad,ae,af,ag,ah,u16,ai,a8,aa],h⟩=some (.exit 0,⟨[ce .i64 0,w1,w2,fY (Ed n k o),w4,w5,w6,w7,w8,w9,aj,ak,al,an,ao,aq,ar,au,av,aw],h'⟩):=by
 intro n;induction n with
 |zero=>
  intro k hk aG o ho u1 u2 u4 u5 u6 u7 u8 u9 ab ad ae af ag ah u16 ai a8 aa h;obtain rfl:k=0:=by simpa using hk
  refine⟨u1,u2,u4,u5,ce .i64 0,cK false,u8,u9,ab,ad,ae,af,ag,ah,u16,ai,a8,aa,h,lW ?_ (by simp)⟩;simp[txB,cD,cj,cS,dy,dX,Opd.ev,put,bin,ff,isBool,Ed]
 |succ n ih=>
  intro k hk aG o ho u1 u2 u4 u5 u6 u7 u8 u9 ab ad ae af ag ah u16 ai a8 aa h;by_cases h0:k=0;subst h0;refine⟨u1,u2,u4,u5,ce .i64 0,cK false,u8,u9,ab,ad,ae,af,ag,ah,u16,ai,a8,aa,h,lW ?_ (by simp)⟩;simp[txB,cD,cj,cS,dy,dX,Opd.ev,put,bin,ff,isBool,Ed];have a6:(0:Int)<(k:Int):=by omega
  have hm:(k:Int).tmod 10=((k%10:Nat):Int):=by rw[Int.tmod_eq_emod_of_nonneg (by omega)];omega
  have hq:(k:Int).tdiv 10=((k/10:Nat):Int):=by rw[Int.tdiv_eq_ediv_of_nonneg (by omega)];omega
  have aP:IntKind.i64.wrap (48+((k%10:Nat):Int))=((48+k%10:Nat):Int):=by rw[IntKind.wrap_i64];omega
  have aQ:IntKind.u8.wrap ((48+k%10:Nat):Int)=((48+k%10:Nat):Int):=by rw[IntKind.wrap_u8];omega
  have aR:IntKind.i64.wrap ((k/10:Nat):Int)=((k/10:Nat):Int):=by rw[IntKind.wrap_i64];omega
  have hlt:k/10<10^n:=by rw[Nat.pow_succ]at hk;omega
  have hlen:([UInt8.ofNat (48+k%10)]:List UInt8).length+o.length<=9223372036854775807:=by simp;omega
  obtain⟨w1,w2,w4,w5,w6,w7,w8,w9,aj,ak,al,an,ao,aq,ar,au,av,aw,h',e⟩:=ih (k/10) hlt (by omega) (UInt8.ofNat (48+k%10)::o) (by simp;omega) u1 u2 u4 u5 (ce .i64 k) (cK true) (ce .i64 k) (ce .i64 ((k%10:Nat):Int)) (ce .i64 ((48+k%10:Nat):Int)) (ce .u8 ((48+k%10:Nat):Int)) (.one (.arr h.length)) (fY [UInt8.ofNat (48+k%10)]) (fY o) (fY (UInt8.ofNat (48+k%10)::o)) (ce .i64 k) (ce .i64 ((k/10:Nat):Int)) a8 aa (h++[.arr 1 [[.int .u8 ((48+k%10:Nat):Int)]]]);refine⟨w1,w2,w4,w5,w6,w7,w8,w9,aj,ak,al,an,ao,aq,ar,au,av,aw,h',(jN ?_).trans (e.trans ?_)⟩;have aS:vM [[PV.int .u8 ((48+k%10:Nat):Int)]]=some [UInt8.ofNat (48+k%10)]:=by simp only[vM,Int.toNat_natCast]
  have aT:cT h [ce .u8 ((48+k%10:Nat):Int)]=some [[.int .u8 ((48+k%10:Nat):Int)]]:=rfl;have aU:freezeVs h [ce .u8 ((48+k%10:Nat):Int)]=h:=rfl;have aV:asList (h++[Q0.arr 1 [[.int .u8 ((48+k%10:Nat):Int)]]]) (.one (.arr h.length))=some [[.int .u8 ((48+k%10:Nat):Int)]]:=by simp[asList,L.view]
  have aW:decide ((0:Int)<(k:Int))=true:=decide_eq_true a6;have aX:¬((10:Int)=0):=by decide
  have aY:(([ce .u8 ((48+k%10:Nat):Int)]:List V).all (fun v=>v.cells.length==1)&&decide (0<1)&&decide (([ce .u8 ((48+k%10:Nat):Int)]:List V).length*1<=16777216))=true:=rfl;simp only[txB,cD,cj,cS,dy,dX,eX,Opd.ev,put,Yz,Qb,Yf,ZP,bin,ff,mA,if_true,if_neg aX,aW,isBool,isInt,Zt,Zy,hm,aP,aQ,aY,aT,aU,aV,aS,hlen,hq,aR,Zh,Zj];simp only[Ed,if_neg h0]
def ad3 {f:Nat}(hk:Φ f=some txF):Gx Φ ext cH f:=by
 intro k h0 hM;refine jg hk ?_;by_cases hz:k<=0
 ·have hb:decide (k<=0)=true:=decide_eq_true hz;simp[txF,start,iI,cD,cj,cS,dy,dX,Opd.ev,put,bin,ff,hb,isBool,done,dd,cu,eY,ee,comp,cV,dS,cz,V.cells,cH,hz]
 ·have hb:decide (k<=0)=false:=decide_eq_false hz;obtain⟨n,rfl⟩:∃n:Nat,k=n:=⟨k.toNat,by omega⟩;unfold Bf at hM;have aZ:=Pp 13 n [];have hlen:([109]:List UInt8).length+(Ed 13 n []).length<=9223372036854775807:=by simp at aZ⊢;omega
  have aC:1+(Ed 13 n []).length<=9223372036854775807:=by simpa using hlen
  generalize aK:cR (cD (cf Φ ext) cR txB)=lp;have aD:∀u1 u2 u4 u5 u6 u7 u8 u9 ab ad ae af ag ah u16 ai a8 aa h,∃w1 w2 w4 w5 w6 w7 w8 w9 aj ak al an ao aq ar au av aw h',lp ⟨[ce .i64 n,u1,u2,fY [],u4,u5,u6,u7,u8,u9,ab,ad,ae,af,ag,ah,u16,ai,a8,aa],h⟩=some (.exit 0,⟨[ce .i64 0,w1,w2,fY (Ed 13 n []),w4,w5,w6,w7,w8,w9,aj,ak,al,an,ao,aq,ar,au,av,aw],h'⟩):=by rw[<-aK];exact acF (Φ:=Φ) (ext:=ext) 13 n (by omega) (by omega) [] (by simp)
  obtain⟨w1,w2,w4,w5,w6,w7,w8,w9,aj,ak,al,an,ao,aq,ar,au,av,aw,h',e⟩:=aD (.b8 []) (fY []) (ce .i64 n) (cK false) (.b8 []) (.b8 []) (.b8 []) (.b8 []) (.b8 []) (.b8 []) (.b8 []) (.b8 []) (.b8 []) (.b8 []) (.b8 []) (.b8 []) (.b8 []) (.b8 []) [];have hm:cH (n:Int)=109::Ed 13 n []:=by simp only[cH,if_neg hz,Int.toNat_natCast]
  rw[hm];simp only[txF,start,iI,cD,aK,ZI,Nat.reduceSub,List.replicate,Zh,Zj,cj,cS,dy,dX,Opd.ev,put,Yz,Qb,Yf,ZP,bin,ff,hb,if_true,isBool,Zz,if_false,e,mA,hlen];simp[aC,done,dd,cu,eY,ee,comp,cV,dS,cz,V.cells]
end
end Gi
