/- Of this proof. -/
import Derived.Test.YtpnolnkjijmfjaaGreatGpn
set_option linter.all false
namespace Gi
open Go Go.RowKit
section
variable (mT:Int->List UInt8)
def jn :List PV->Int->List PV×Int
 |[],k=>([],k)
 | .lst rows::ps,k=>(.lst (fA mT rows k).1::(jn ps (fA mT rows k).2).1,(jn ps (fA mT rows k).2).2)
 |p::ps,k=>(p::(jn ps k).1,(jn ps k).2)
end
def pM (mT:Int->List UInt8):∀(a b:List PV)(k:Int),jn mT (a++b) k=((jn mT a k).1++(jn mT b (jn mT a k).2).1,(jn mT b (jn mT a k).2).2)
 |[],b,k=>by simp only[Zk,jn]
 | .lst rows::a,b,k=>by simp only[Zh,jn,pM mT a b]
 | .int _ _::a,b,k=>by simp only[Zh,jn,pM mT a b]
 | .bool _::a,b,k=>by simp only[Zh,jn,pM mT a b]
 | .str _::a,b,k=>by simp only[Zh,jn,pM mT a b]
def rj (mT:Int->List UInt8):∀(a:List PV)(k:Int),k<=(jn mT a k).2
 |[],k=>by simp only[jn];omega
 | .lst rows::a,k=>by simp only[jn];have:=ud mT rows k;have:=rj mT a (fA mT rows k).2;omega
 | .int _ _::a,k=>by simp only[jn];exact rj mT a k
 | .bool _::a,k=>by simp only[jn];exact rj mT a k
 | .str _::a,k=>by simp only[jn];exact rj mT a k
def Pl :List PTy->List PV->List L
 | .lst us::ts, .lst rows::ps=> .down us.length rows::Pl ts ps
 |_::ts,p::ps=> .pv p::Pl ts ps
 |_,_=>[]
def kT :List PTy->List PV->List Q0
 | .lst us::ts, .lst rows::ps=> .bC us.length rows::kT ts ps
 |_::ts,_::ps=>kT ts ps
 |_,_=>[]
def na :Nat->List PTy->List PV->List L
 |j, .lst us::ts, .lst rows::ps=> .arr j::na (j+1) ts ps
 |j,_::ts,p::ps=> .pv p::na j ts ps
 |_,_,_=>[]
def WJ :List PTy->List PV->List (Bool×List L)
 | .lst us::ts, .lst rows::ps=>(false,[.down us.length rows])::WJ ts ps
 |_::ts,_::ps=>WJ ts ps
 |_,_=>[]
def jP {P:List PTy->List PV->Prop}(nil:P [] [])(lst:∀us rows ts ps,mY (.lst us) (.lst rows)->dX ts ps->P ts ps->P (.lst us::ts) (.lst rows::ps))(flat:∀t p ts ps,mY t p->t.flatT=true->p.flat=true->dX ts ps->P ts ps->P (t::ts) (p::ps)):∀(ts:List PTy)(ps:List PV),dX ts ps->P ts ps
 |[],ps,h=>by rw[jT h];exact nil
 | .lst us::ts,ps,h=>by obtain⟨p,r,rfl,h1,h2⟩:=ir h;obtain⟨rows,rfl⟩:=tk h1;exact lst us rows ts r h1 h2 (jP nil lst flat ts r h2)
 | .int κ::ts,ps,h=>by obtain⟨p,r,rfl,h1,h2⟩:=ir h;obtain⟨n,rfl⟩:=qu h1;exact flat _ _ ts r h1 rfl rfl h2 (jP nil lst flat ts r h2)
 | .bool::ts,ps,h=>by obtain⟨p,r,rfl,h1,h2⟩:=ir h;obtain⟨n,rfl⟩:=pg h1;exact flat _ _ ts r h1 rfl rfl h2 (jP nil lst flat ts r h2)
 | .str::ts,ps,h=>by obtain⟨p,r,rfl,h1,h2⟩:=ir h;obtain⟨n,rfl⟩:=qv h1;exact flat _ _ ts r h1 rfl rfl h2 (jP nil lst flat ts r h2)
def PS {t:PTy}{p:PV}{ts:List PTy}{ps:List PV}(ht:t.flatT=true):Pl (t::ts) (p::ps)= .pv p::Pl ts ps:=by cases t<;>first|rfl|cases ht
def lq {t:PTy}{p:PV}{ts:List PTy}{ps:List PV}(ht:t.flatT=true):kT (t::ts) (p::ps)=kT ts ps:=by cases t<;>first|rfl|cases ht
def qx {t:PTy}{p:PV}{ts:List PTy}{ps:List PV}{j:Nat}(ht:t.flatT=true):na j (t::ts) (p::ps)= .pv p::na j ts ps:=by cases t<;>first|rfl|cases ht
def RI {t:PTy}{p:PV}{ts:List PTy}{ps:List PV}(ht:t.flatT=true):WJ (t::ts) (p::ps)=WJ ts ps:=by cases t<;>first|rfl|cases ht
def vD (mT:Int->List UInt8){p:PV}{ps:List PV}{k:Int}(hp:p.flat=true):jn mT (p::ps) k=(p::(jn mT ps k).1,(jn mT ps k).2):=by cases p<;>first|rfl|cases hp
def Nn {ts:List PTy}{ps:List PV}(h:dX ts ps):∀j,(na j ts ps).length=ts.length:=by refine jP (P:=fun ts ps=>∀j,(na j ts ps).length=ts.length) (fun j=>rfl) ?_ ?_ ts ps h;intro us rows ts ps _ _ ih j;simp only[na,Zo,ih];intro t p ts ps _ ht hp _ ih j;rw[qx ht];simp only[Zo,ih]
def adc {ts:List PTy}{ps:List PV}(h:dX ts ps):∀hh:List Q0,∃ds,thawL hh (Pl ts ps)=(na hh.length ts ps,hh++ds)/\ ds.map Q0.zone=kT ts ps:=by refine jP (P:=fun ts ps=>∀hh:List Q0,∃ds,thawL hh (Pl ts ps)=(na hh.length ts ps,hh++ds)/\ ds.map Q0.zone=kT ts ps) ?_ ?_ ?_ ts ps h;intro hh;exact⟨[],by simp[Pl,thawL,na],rfl⟩;intro us rows ts ps _ _ ih hh;obtain⟨ds,e1,e2⟩:=ih (hh++[.bA us.length rows]);refine⟨.bA us.length rows::ds,?_,by simp only[Zt,e2,Q0.zone,kT]⟩;simp only[Pl,thawL,e1,na,Zv,ZJ,List.append_assoc,Zh,Zk];intro t p ts ps _ ht hp _ ih hh;obtain⟨ds,e1,e2⟩:=ih hh;refine⟨ds,?_,by rw[e2,lq ht]⟩;rw[PS ht,qx ht];simp only[thawL,e1]
def VJ {p:PV}(h:p.flat=true):p.bare=true:=by cases p<;>first|rfl|cases h
def UT {ts:List PTy}{ps:List PV}(h:dX ts ps):∀(pre post:List Q0),pd (pre++kT ts ps++post) (na pre.length ts ps)=some (Pl ts ps):=by
 refine jP (P:=fun ts ps=>∀(pre post:List Q0),pd (pre++kT ts ps++post) (na pre.length ts ps)=some (Pl ts ps)) (fun _ _=>rfl) ?_ ?_ ts ps h;intro us rows ts ps _ _ ih pre post;have:=ih (pre++[.bC us.length rows]) post;simp only[Zv,ZJ,List.append_assoc,Zh,Zk]at this;have hg:(pre++(Q0.bC us.length rows::(kT ts ps++post)))[pre.length]? =some (.bC us.length rows):=by rw[Zm (Zi _),YI];rfl
 simp only[kT,na,Pl,List.append_assoc,Zh,pd,Bw,hg,this];intro t p ts ps _ ht hp _ ih pre post;rw[PS ht,qx ht,lq ht];have hb:PV.bare _=true:=VJ hp;simp only[pd,Bw,hb,if_true,ih pre post]
def act {ts:List PTy}{ps:List PV}(h:dX ts ps):∀(j:Nat),(cz (na j ts ps)).Nodup/\ ∀o∈cz (na j ts ps),j<=o:=by
 refine jP (P:=fun ts ps=>∀(j:Nat),(cz (na j ts ps)).Nodup/\ ∀o∈cz (na j ts ps),j<=o) (fun j=>⟨QQ,fun o ho=>by cases ho⟩) ?_ ?_ ts ps h;intro us rows ts ps _ _ ih j;obtain⟨h1,h2⟩:=ih (j+1);have e:cz (na j (.lst us::ts) (.lst rows::ps))=j::cz (na (j+1) ts ps):=by simp[na,cz]
 rw[e];refine⟨Yn.2 ⟨fun hm=>by have:=h2 _ hm;omega,h1⟩,fun o ho=> ?_⟩;rcases ZG.1 ho with rfl|ho;exact Zi _;have:=h2 o ho;omega;intro t p ts ps _ ht hp _ ih j;have e:cz (na j (t::ts) (p::ps))=cz (na j ts ps):=by rw[qx ht];simp[cz]
 rw[e];exact ih j
def aer (mT:Int->List UInt8){ts:List PTy}{ps:List PV}(h:dX ts ps):∀(pre post:List Q0)(k:Int),nK (pre++kT ts ps++post) (cz (na pre.length ts ps)) (WJ ts (jn mT ps k).1)=some (pre++kT ts (jn mT ps k).1++post):=by
 refine jP (P:=fun ts ps=>∀(pre post:List Q0)(k:Int),nK (pre++kT ts ps++post) (cz (na pre.length ts ps)) (WJ ts (jn mT ps k).1)=some (pre++kT ts (jn mT ps k).1++post)) (fun _ _ _=>rfl) ?_ ?_ ts ps h;intro us rows ts ps _ _ ih pre post k;have:=ih (pre++[.bC us.length (fA mT rows k).1]) post (fA mT rows k).2;simp only[Zv,ZJ,List.append_assoc,Zh,Zk]at this;have e:cz (na pre.length (.lst us::ts) (.lst rows::ps))=pre.length::cz (na (pre.length+1) ts ps):=by simp[na,cz]
 rw[e];simp only[jn,kT,WJ,nK,List.append_assoc,Zh];rw[YQ _ _ (Zi _),YI,ZP,this];intro t p ts ps _ ht hp _ ih pre post k;have e:cz (na pre.length (t::ts) (p::ps))=cz (na pre.length ts ps):=by rw[qx ht];simp[cz]
 rw[e,vD mT hp,lq ht,lq ht,RI ht];exact ih pre post k
def ac5 (mT:Int->List UInt8){ts:List PTy}{ps:List PV}(h:dX ts ps):∀k,kJ (kT ts (jn mT ps k).1)=some (WJ ts (jn mT ps k).1):=by refine jP (P:=fun ts ps=>∀k,kJ (kT ts (jn mT ps k).1)=some (WJ ts (jn mT ps k).1)) (fun _=>rfl) ?_ ?_ ts ps h;intro us rows ts ps _ _ ih k;simp only[jn,kT,kJ,ih,WJ];intro t p ts ps _ ht hp _ ih k;rw[vD mT hp,lq ht,RI ht,ih]
def K4 (mT:Int->List UInt8){ts:List PTy}{ps:List PV}(h:dX ts ps):∀k,(kT ts (jn mT ps k).1).length=(kT ts ps).length:=by refine jP (P:=fun ts ps=>∀k,(kT ts (jn mT ps k).1).length=(kT ts ps).length) (fun _=>rfl) ?_ ?_ ts ps h;intro us rows ts ps _ _ ih k;simp only[jn,kT,Zo,ih];intro t p ts ps _ ht hp _ ih k;rw[vD mT hp,lq ht,lq ht,ih]
def Pj {ts us:List PTy}{a b:List PV}(h:dX ts a):kT (ts++us) (a++b)=kT ts a++kT us b:=by refine jP (P:=fun ts a=>kT (ts++us) (a++b)=kT ts a++kT us b) rfl ?_ ?_ ts a h;intro us rows ts ps _ _ ih;simp only[Zh,kT,ih];intro t p ts ps _ ht hp _ ih;simp only[Zh];rw[lq ht,lq ht,ih]
def MY (mT:Int->List UInt8){ts us:List PTy}{a b:List PV}(h:dX ts a):∀k,kT (ts++us) ((jn mT a k).1++b)=kT ts (jn mT a k).1++kT us b:=by refine jP (P:=fun ts a=>∀k,kT (ts++us) ((jn mT a k).1++b)=kT ts (jn mT a k).1++kT us b) (fun _=>rfl) ?_ ?_ ts a h;intro us rows ts ps _ _ ih k;simp only[jn,Zh,kT,ih];intro t p ts ps _ ht hp _ ih k;rw[vD mT hp];simp only[Zh];rw[lq ht,lq ht,ih]
def Tb {ts us:List PTy}{a b:List PV}(h:dX ts a):∀j,na j (ts++us) (a++b)=na j ts a++na (j+(kT ts a).length) us b:=by refine jP (P:=fun ts a=>∀j,na j (ts++us) (a++b)=na j ts a++na (j+(kT ts a).length) us b) (fun j=>rfl) ?_ ?_ ts a h;intro us rows ts ps _ _ ih j;simp only[Zh,na,kT,Zo,ih];rw[show j+1+(kT ts ps).length=j+((kT ts ps).length+1) by omega];intro t p ts ps _ ht hp _ ih j;simp only[Zh];rw[qx ht,qx ht,lq ht,ih];rfl
def aaS {ts:List PTy}{ps:List PV}(h:dX ts ps):∀j,(na j ts ps).all plain=true:=by refine jP (P:=fun ts ps=>∀j,(na j ts ps).all plain=true) (fun j=>rfl) ?_ ?_ ts ps h;intro us rows ts ps _ _ ih j;simp only[na,Zq,ih,Yk];rfl;intro t p ts ps _ ht hp _ ih j;rw[qx ht];simp only[Zq,ih,Yk];rfl
inductive MS where
 |k (ts:List PTy)
 |s (ts:List PTy) (f:Nat)
 |l (us:List PTy) (f:Nat)
def MS.ts :MS->List PTy
 | .k ts=>ts
 | .s ts _=>ts
 | .l us _=>[.lst us]
def kI :List MS->List PTy
 |[]=>[]
 |s::ss=>s.ts++kI ss
def mkI (c off:Nat)(g:Bool)(n f:Nat):List X2:=[⟨some c, .bo (.tmp 2) off,none⟩,⟨some (c+1), .bq g n (.tmp c),none⟩,⟨some (c+2), .mv (.tmp 1),none⟩,⟨some (c+3), .bh f (.tmp (c+1)) (.tmp (c+2)),none⟩,⟨some 1, .mv (.tmp (c+3)),none⟩]
def mkC :Nat->Nat->List MS->Q7
 |c,_,[]=> .seq (.region [⟨some c, .mv (.tmp 1),none⟩,⟨some 4, .mv (.tmp c),none⟩]) .ret
 |c,off, .k ts::ss=>mkC c (off+ts.length) ss
 |c,off, .s ts f::ss=> .seq (.region (mkI c off true ts.length f)) (mkC (c+4) (off+ts.length) ss)
 |c,off, .l _ f::ss=> .seq (.region (mkI c off false 1 f)) (mkC (c+4) (off+1) ss)
def mkN :Nat->List MS->Nat
 |c,[]=>c
 |c, .k _::ss=>mkN c ss
 |c,_::ss=>mkN (c+4) ss
def wl (ss:List MS):AFn:=⟨mkN 5 ss+1,[.tmp 4], .seq (.region [⟨some 2, .box (.tmp 0),none⟩,⟨some 4, .mv (.pv (.int .i64 0)),none⟩]) (mkC 5 0 ss)⟩
def Ie :∀(ss:List MS)(c off:Nat),(mkC c off ss).bb=true
 |[],c,off=>rfl
 | .k ts::ss,c,off=>Ie ss c _
 | .s ts f::ss,c,off=>by simp only[mkC,Q7.bb,Ie ss,Yk];rfl
 | .l us f::ss,c,off=>by simp only[mkC,Q7.bb,Ie ss,Yk];rfl
def FO :∀(ss:List MS)(c:Nat),c<=mkN c ss
 |[],c=>Zi _
 | .k ts::ss,c=>FO ss c
 | .s ts f::ss,c=>Zc (by omega) (FO ss (c+4))
 | .l us f::ss,c=>Zc (by omega) (FO ss (c+4))
section
variable {Φ:Nat->Option AFn}{ext:Nat->List V->Option V}{mT:Int->List UInt8}{mt:Nat}
def VA (Φ:Nat->Option AFn)(ext:Nat->List V->Option V)(mT:Int->List UInt8)(f:Nat)(ts:List PTy):Prop:=
 ∀row:List PV,dX ts row->∀k:Int,0<=k->(jn mT row k).2<=Bz->cf Φ ext (f+iT) [.agg (Pl ts row),ce .i64 k]=some (.b8 ((false,[.pv (.int .i64 (jn mT row k).2)])::WJ ts (jn mT row k).1))
def Pp (Φ:Nat->Option AFn)(ext:Nat->List V->Option V)(mT:Int->List UInt8):List MS->Prop
 |[]=>True
 | .k ts::ss=>ts.all PTy.flatT=true/\ Pp Φ ext mT ss
 | .s ts f::ss=>VA Φ ext mT f ts/\ Pp Φ ext mT ss
 | .l us f::ss=>uE Φ ext mT f us/\ Pp Φ ext mT ss
def Rw {g:Bool}{n f c m:Nat}{C1 C2:List L}{Z1 Z2:List Q0}{ts:List PTy}{x:List PV}{v a:V}{k:Int}{t:List V}(hx:dX ts x)(h1:t[1]? =some (ce .i64 k))(h2:t[2]? =some (.one (.ptr m 0 0)))(hc:5<=c)(hl:c+3<t.length)
 (hb:(Z1++kT ts x++Z2)[m]? =some (.box (C1++C2))) (a5:ja g n C1.length (C1++C2)=some v) (hv:v.cells=na Z1.length ts x) (aE:∀o c,v≠ .one (.sub o c)) (ax:yI (Z1++kT ts x++Z2) v=some a) (ay:cf Φ ext (f+iT) [a,ce .i64 k]=some (.b8 ((false,[.pv (.int .i64 (jn mT x k).2)])::WJ ts (jn mT x k).1))):
 ∃t',cj (cf Φ ext) (mkI c C1.length g n f) ⟨t,Z1++kT ts x++Z2⟩=some ⟨t',Z1++kT ts (jn mT x k).1++Z2⟩/\ t'.length=t.length/\ t'[1]? =some (ce .i64 (jn mT x k).2)/\ t'[2]? =some (.one (.ptr m 0 0)):=by
 have e1:=getD_some h1;have e2:=getD_some h2;have q1:(t.set c (V.one (.ptr m 0 C1.length))).getD c (.b8 [])= .one (.ptr m 0 C1.length):=de (by omega);have q2:((t.set c (V.one (.ptr m 0 C1.length))).set (c+1) v).getD 1 (.b8 [])=ce .i64 k:=(gK (by omega)).trans ((gK (by omega)).trans e1);have q3:(((t.set c (V.one (.ptr m 0 C1.length))).set (c+1) v).set (c+2) (ce .i64 k)).getD (c+1) (.b8 [])=v:=(gK (by omega)).trans (de (by simp;omega));have q4:(((t.set c (V.one (.ptr m 0 C1.length))).set (c+1) v).set (c+2) (ce .i64 k)).getD (c+2) (.b8 [])=ce .i64 k:=de (by simp;omega);have q5:((((t.set c (V.one (.ptr m 0 C1.length))).set (c+1) v).set (c+2) (ce .i64 k)).set (c+3) (ce .i64 (jn mT x k).2)).getD (c+3) (.b8 [])=ce .i64 (jn mT x k).2:=de (by simp;omega);have aL:(cz v.cells).Nodup:=by rw[hv];exact(act hx _).1
 have az:=aer mT hx Z1 Z2 k;rw[<-hv]at az;have hM:nV (cf Φ ext) (Z1++kT ts x++Z2) f v k=some (ce .i64 (jn mT x k).2,Z1++kT ts (jn mT x k).1++Z2):=by unfold nV;split;rename_i o cc;exact absurd rfl (aE o cc);simp only[aL,if_true,ax,ay,L.flat,az]
 refine⟨((((t.set c (V.one (.ptr m 0 C1.length))).set (c+1) v).set (c+2) (ce .i64 k)).set (c+3) (ce .i64 (jn mT x k).2)).set 1 (ce .i64 (jn mT x k).2),?_,by simp,Zd (by simp;omega),by rw[Za (by omega),Za (by omega),Za (by omega),Za (by omega),Za (by omega)];exact h2⟩;simp only[mkI,cj,cT,dG,dY,fa,Opd.ev,e2,put,ZK,q1,vB,hb,dP,if_true,a5,q2,q3,q4,hM,q5]
def Ib :∀(ss:List MS),Pp Φ ext mT ss->∀{c:Nat}{C1:List L}{Z1:List Q0}{b:List PV}{k:Int}{t:List V},dX (kI ss) b->0<=k->(jn mT b k).2<=Bz->t[1]? =some (ce .i64 k)->t[2]? =some (.one (.ptr (Z1.length+(kT (kI ss) b).length) 0 0))->5<=c->mkN c ss<t.length->
 ∃t',cD (cf Φ ext) cS (mkC c C1.length ss) ⟨t,Z1++kT (kI ss) b++[.box (C1++na Z1.length (kI ss) b)]⟩=some (.ret,⟨t',Z1++kT (kI ss) (jn mT b k).1++[.box (C1++na Z1.length (kI ss) b)]⟩)/\ t'.getD 4 (.b8 [])=ce .i64 (jn mT b k).2
 |[],_,c,C1,Z1,b,k,t,hb,h0,hk,h1,h2,hc,hl=>by obtain rfl:=jT hb;simp only[mkN]at hl;have q2:(t.set c (ce .i64 k)).getD c (.b8 [])=ce .i64 k:=de hl;refine⟨(t.set c (ce .i64 k)).set 4 (ce .i64 k),?_,by simp only[jn];exact de (by simp;omega)⟩;simp only[mkC,cD,cj,cT,dG,dY,Opd.ev,getD_some h1,put,q2,jn]
 | .k ts::ss,a7,c,C1,Z1,b,k,t,hb,h0,hk,h1,h2,hc,hl=>by
  simp only[kI,MS.ts]at hb h2⊢;obtain⟨x,y,rfl,hx,hy⟩:=pf (ts:=ts) hb;have flat:∀{ts:List PTy}{x:List PV},dX ts x->ts.all PTy.flatT=true->kT ts x=[]/\ ∀k,jn mT x k=(x,k):=by intro ts x h;refine jP (P:=fun ts x=>ts.all PTy.flatT=true->kT ts x=[]/\ ∀k,jn mT x k=(x,k)) (fun _=>⟨rfl,fun _=>rfl⟩) ?_ ?_ ts x h;intro us rows ts ps _ _ _ ha;simp[PTy.flatT]at ha;intro t p ts ps _ ht hp _ ih ha;simp only[Zq,Zg]at ha;obtain⟨i1,i2⟩:=ih ha.2;exact⟨by rw[lq ht,i1],fun k=>by rw[vD mT hp,i2]⟩
  obtain⟨z0,m0⟩:=flat hx a7.1;have hm:jn mT (x++y) k=(x++(jn mT y k).1,(jn mT y k).2):=by rw[pM,m0]
  have hlen:(C1++na Z1.length ts x).length=C1.length+ts.length:=by rw[Zv,Nn hx]
  rw[Pj hx,z0,Zk]at h2⊢;rw[Tb hx,z0,hm];simp only[hm]at hk;have aM:∀y',kT (ts++kI ss) (x++y')=kT (kI ss) y':=fun y'=>by rw[Pj hx,z0,Zk]
  simp only[aM,Zx,Yx];obtain⟨t',r1,r2⟩:=Ib ss a7.2 (c:=c) (C1:=C1++na Z1.length ts x) (Z1:=Z1) hy h0 hk h1 h2 hc hl;rw[hlen]at r1;simp only[List.append_assoc]at r1⊢;exact⟨t',r1,r2⟩
 | .s ts f::ss,a7,c,C1,Z1,b,k,t,hb,h0,hk,h1,h2,hc,hl=>by
  simp only[kI,MS.ts]at hb h2⊢;obtain⟨x,y,rfl,hx,hy⟩:=pf (ts:=ts) hb;have hN:=FO ss (c+4);simp only[mkN]at hl;simp only[pM]at hk;have hle:=rj mT y (jn mT x k).2;have aJ:=rj mT x k;have aA:=Nn hx Z1.length;rw[Pj hx]at h2⊢;rw[Tb hx];simp only[pM,MY mT hx];generalize aF:na (Z1.length+(kT ts x).length) (kI ss) y=C2;generalize hB:[Q0.box (C1++(na Z1.length ts x++C2))]=B;have a5:ja true ts.length C1.length (C1++(na Z1.length ts x++C2))=some (.agg (na Z1.length ts x)):=by unfold ja;rw[if_pos (by simp[aA]),if_pos rfl,List.drop_left,<-aA,List.take_left]
  obtain⟨t1,a1,a2,a3,a4⟩:=Rw (Φ:=Φ) (ext:=ext) (mT:=mT) (g:=true) (n:=ts.length) (f:=f) (c:=c) (m:=Z1.length+(kT ts x++kT (kI ss) y).length) (C1:=C1) (C2:=na Z1.length ts x++C2) (Z1:=Z1) (Z2:=kT (kI ss) y++B) (v:= .agg (na Z1.length ts x)) (a:= .agg (Pl ts x)) hx h1 h2 hc (by omega) (by
   rw[<-hB]
   have:Z1++kT ts x++(kT (kI ss) y++[Q0.box (C1++(na Z1.length ts x++C2))])=(Z1++(kT ts x++kT (kI ss) y))++[Q0.box (C1++(na Z1.length ts x++C2))]:=by simp
   rw[this,Zm (by simp)]
   simp) a5 rfl (fun _ _ h=>by cases h) (by
   have:=UT hx Z1 (kT (kI ss) y++B)
   simp only[yI,this]) (a7.1 x hx k h0 (by omega))
  obtain⟨t2,b1,b2⟩:=Ib ss a7.2 (c:=c+4) (C1:=C1++na Z1.length ts x) (Z1:=Z1++kT ts (jn mT x k).1) (b:=y) (k:=(jn mT x k).2) (t:=t1) hy (by omega) hk a3 (by rw[a4];simp only[Zv,K4 mT hx];congr 3;omega) (by omega) (by omega);refine⟨t2,?_,b2⟩;have hlen:(C1++na Z1.length ts x).length=C1.length+ts.length:=by rw[Zv,aA]
  have a6:(Z1++kT ts (jn mT x k).1).length=Z1.length+(kT ts x).length:=by rw[Zv,K4 mT hx]
  rw[hlen,a6,aF]at b1;simp only[mkC,cD,List.append_assoc]at a1 b1⊢;rw[hB]at b1;rw[a1];exact b1
 | .l us f::ss,a7,c,C1,Z1,b,k,t,hb,h0,hk,h1,h2,hc,hl=>by
  simp only[kI,MS.ts]at hb h2⊢;obtain⟨x,y,rfl,hx,hy⟩:=pf (ts:=[.lst us]) hb;have hN:=FO ss (c+4);simp only[mkN]at hl;simp only[pM]at hk;have hle:=rj mT y (jn mT x k).2;have aJ:=rj mT x k;have aA:=Nn hx Z1.length;have aN:=hx;obtain⟨p,x',rfl,hp,hn⟩:=ir aN;obtain rfl:=jT hn;obtain⟨rows,rfl⟩:=tk hp;rw[Pj hx]at h2⊢;rw[Tb hx];simp only[pM,MY mT hx];generalize aF:na (Z1.length+(kT [.lst us] [.lst rows]).length) (kI ss) y=C2;generalize hB:[Q0.box (C1++(na Z1.length [.lst us] [.lst rows]++C2))]=B;have a5:ja false 1 C1.length (C1++(na Z1.length [.lst us] [.lst rows]++C2))=some (.one (.arr Z1.length)):=by simp[ja,na]
  obtain⟨t1,a1,a2,a3,a4⟩:=Rw (Φ:=Φ) (ext:=ext) (mT:=mT) (g:=false) (n:=1) (f:=f) (c:=c) (m:=Z1.length+(kT [.lst us] [.lst rows]++kT (kI ss) y).length) (C1:=C1) (C2:=na Z1.length [.lst us] [.lst rows]++C2) (Z1:=Z1) (Z2:=kT (kI ss) y++B) (v:= .one (.arr Z1.length)) (a:= .one (.down us.length rows)) hx h1 h2 hc (by omega) (by
   rw[<-hB]
   have:Z1++kT [.lst us] [.lst rows]++(kT (kI ss) y++[Q0.box (C1++(na Z1.length [.lst us] [.lst rows]++C2))])=(Z1++(kT [.lst us] [.lst rows]++kT (kI ss) y))++[Q0.box (C1++(na Z1.length [.lst us] [.lst rows]++C2))]:=by simp
   rw[this,Zm (by simp)]
   simp) a5 rfl (fun _ _ h=>by cases h) (by
   have:=UT hx Z1 (kT (kI ss) y++B)
   simp only[na,Pl,pd]at this
   split at this
   ·rename_i a b h1 h2
    cases this
    cases h2
    simp only[yI,h1]
   ·cases this) (by
   simp only[jn]at hle aJ hk⊢
   exact a7.1.2 rows hp k h0 (by omega))
  obtain⟨t2,b1,b2⟩:=Ib ss a7.2 (c:=c+4) (C1:=C1++na Z1.length [.lst us] [.lst rows]) (Z1:=Z1++kT [.lst us] (jn mT [.lst rows] k).1) (b:=y) (k:=(jn mT [.lst rows] k).2) (t:=t1) hy (by omega) hk a3 (by rw[a4];simp only[Zv,K4 mT hx];congr 3;omega) (by omega) (by omega);refine⟨t2,?_,b2⟩;have hlen:(C1++na Z1.length [.lst us] [.lst rows]).length=C1.length+1:=by rw[Zv,aA];rfl
  have a6:(Z1++kT [.lst us] (jn mT [.lst rows] k).1).length=Z1.length+(kT [.lst us] [.lst rows]).length:=by rw[Zv,K4 mT hx]
  rw[hlen,a6,aF]at b1;simp only[mkC,cD,List.append_assoc]at a1 b1⊢;rw[hB]at b1;rw[a1];exact b1
def DS {f:Nat}{ss:List MS}(hk:Φ f=some (wl ss))(hn:Φ (f+iT)=none)(a7:Pp Φ ext mT ss):VA Φ ext mT f (kI ss):=by
 intro row hr k h0 aG;have hN:=FO ss 5;obtain⟨m,hm⟩:∃m,mkN 5 ss+1-2=m+4:=⟨mkN 5 ss-5,by omega⟩;have hz:(wl ss).body.bb=true:=by simp only[wl,Q7.bb,Ie,Yk];rfl
 refine zg hn hk hz ?_;obtain⟨ds,d1,d2⟩:=adc hr [];simp only[Zx,Zk]at d1;have hA:gP [] [.agg (Pl (kI ss) row),ce .i64 k]=([.agg (na 0 (kI ss) row),ce .i64 k],ds):=by simp only[gP,thaw,d1,thawL]
 have aO:ml (wl ss) [.agg (Pl (kI ss) row),ce .i64 k]=⟨.agg (na 0 (kI ss) row)::ce .i64 k::List.replicate (m+4) (.b8 []),kT (kI ss) row⟩:=by simp only[ml,hA,d2,wl,Zo,Zx,Zh,Zk,hm]
 have hlen:ds.length=(kT (kI ss) row).length:=by rw[<-d2];simp
 let t0:List V:= .agg (na 0 (kI ss) row)::ce .i64 k:: .one (.ptr (kT (kI ss) row).length 0 0):: .b8 []::ce .i64 0::List.replicate (m+1) (.b8 []);have b0:t0.length=mkN 5 ss+1:=by simp[t0];omega
 obtain⟨t',a1,a2⟩:=Ib (Φ:=Φ) (ext:=ext) ss a7 (c:=5) (C1:=[]) (Z1:=[]) (b:=row) (k:=k) (t:=t0) hr h0 aG rfl (by simp[t0]) (Zi _) (by omega);simp only[Zx,Zk]at a1;have aH:iN Φ ext (wl ss).body (ml (wl ss) [.agg (Pl (kI ss) row),ce .i64 k])=some (.ret,⟨t',kT (kI ss) (jn mT row k).1++[.box (na 0 (kI ss) row)]⟩):=by rw[aO];have aI:List.replicate (m+4) (V.b8 [])= .b8 []:: .b8 []:: .b8 []::List.replicate (m+1) (.b8 []):=rfl;simp only[t0]at a1;simp only[iN,wl,aI,cD,cj,cT,dG,dY,fa,Opd.ev,put,YA,V.cells,aaS hr,if_true,Yf,ZP];exact a1
 have aB:(kT (kI ss) (jn mT row k).1++[Q0.box (na 0 (kI ss) row)]).take ds.length=kT (kI ss) (jn mT row k).1:=by rw[hlen,<-K4 mT hr k,List.take_left]
 rw[aH];simp only[Bp,LL,wl,dd,cu,fb,a2,Y',YF,Zw,V.cells,eh,comp,cU,dS,hA,aB,ac5 mT hr,L.flat,if_true];rfl
end
def Ey :Nat->Nat->List UInt8->List UInt8
 |0,_,o=>o
 |n+1,k,o=>if k=0 then o else Ey n (k/10) (UInt8.ofNat (48+k%10)::o)
def cI (k:Int):List UInt8:=if k<=0 then [109,48]else 109::Ey 13 k.toNat []
def PR :∀(n k:Nat)(o:List UInt8),(Ey n k o).length<=n+o.length
 |0,k,o=>by simp[Ey]
 |n+1,k,o=>by simp only[Ey];split;omega;have:=PR n (k/10) (UInt8.ofNat (48+k%10)::o);simp only[Zo]at this;omega
def txB :Q7:= .seq (.seq (.region [⟨some 6, .mv (.tmp 0),none⟩,⟨some 7, .bin .gtr (.tmp 6) (.pv (.int .i64 0)),none⟩]) (.cond (.tmp 7) .skip (.exit 0))) (.block 1 (.seq (.region [⟨some 8, .mv (.tmp 0),none⟩,⟨some 9, .bin .rem (.tmp 8) (.pv (.int .i64 10)),none⟩,⟨some 10, .bin .add (.pv (.int .i64 48)) (.tmp 9),none⟩,⟨some 11, .conv .u8 (.tmp 10),none⟩,⟨some 12, .bO 1 [.tmp 11],none⟩,⟨some 13, .cS (.tmp 12),none⟩,⟨some 14, .mv (.tmp 3),none⟩,⟨some 15, .bin .add (.tmp 13) (.tmp 14),none⟩,⟨some 3, .mv (.tmp 15),none⟩]) (.region [⟨some 16, .mv (.tmp 0),none⟩,⟨some 17, .bin .quo (.tmp 16) (.pv (.int .i64 10)),none⟩,⟨some 0, .mv (.tmp 17),none⟩])))
def txF :AFn:=⟨20,[.tmp 2], .seq (.region [⟨some 2, .mv (.pv (.str [])),none⟩]) (.seq (.seq (.region [⟨some 4, .mv (.tmp 0),none⟩,⟨some 5, .bin .leq (.tmp 4) (.pv (.int .i64 0)),none⟩]) (.cond (.tmp 5) (.seq (.region [⟨some 2, .mv (.pv (.str [109,48])),none⟩]) .ret) .skip)) (.seq (.region [⟨some 3, .mv (.pv (.str [])),none⟩]) (.seq (.block 0 (.loop txB)) (.seq (.region [⟨some 18, .mv (.tmp 3),none⟩,⟨some 19, .bin .add (.pv (.str [109])) (.tmp 18),none⟩,⟨some 2, .mv (.tmp 19),none⟩]) .ret))))⟩
section
variable {Φ:Nat->Option AFn}{ext:Nat->List V->Option V}
def adf :∀(n k:Nat),k<10^n->k<9223372036854775807->∀(o:List UInt8),o.length+n<=1000->∀(u1 u2 u4 u5 u6 u7 u8 u9 ab ad ae af ag ah u16 ai a8 aa:V)(h:List Q0),
 ∃w1 w2 w4 w5 w6 w7 w8 w9 aj ak al an ao aq ar au av aw h',cS (cD (cf Φ ext) cS txB) ⟨[ce .i64 k,u1,u2,fZ o,u4,u5,u6,u7,u8,u9,ab,ad,ae,af,ag,ah,u16,ai,a8,aa],h⟩=some (.exit 0,⟨[ce .i64 0,w1,w2,fZ (Ey n k o),w4,w5,w6,w7,w8,w9,aj,ak,al,an,ao,aq,ar,au,av,aw],h'⟩):=by
 intro n;induction n with
 |zero=>
  intro k hk aG o ho u1 u2 u4 u5 u6 u7 u8 u9 ab ad ae af ag ah u16 ai a8 aa h;obtain rfl:k=0:=by simpa using hk
  refine⟨u1,u2,u4,u5,ce .i64 0,cL false,u8,u9,ab,ad,ae,af,ag,ah,u16,ai,a8,aa,h,mf ?_ (by simp)⟩;simp[txB,cD,cj,cT,dG,dY,Opd.ev,put,bin,ft,isBool,Ey]
 |succ n ih=>
  intro k hk aG o ho u1 u2 u4 u5 u6 u7 u8 u9 ab ad ae af ag ah u16 ai a8 aa h;by_cases h0:k=0;subst h0;refine⟨u1,u2,u4,u5,ce .i64 0,cL false,u8,u9,ab,ad,ae,af,ag,ah,u16,ai,a8,aa,h,mf ?_ (by simp)⟩;simp[txB,cD,cj,cT,dG,dY,Opd.ev,put,bin,ft,isBool,Ey];have a6:(0:Int)<(k:Int):=by omega
  have hm:(k:Int).tmod 10=((k%10:Nat):Int):=by rw[Int.tmod_eq_emod_of_nonneg (by omega)];omega
  have hq:(k:Int).tdiv 10=((k/10:Nat):Int):=by rw[Int.tdiv_eq_ediv_of_nonneg (by omega)];omega
  have aP:IntKind.i64.wrap (48+((k%10:Nat):Int))=((48+k%10:Nat):Int):=by rw[IntKind.wrap_i64];omega
  have aQ:IntKind.u8.wrap ((48+k%10:Nat):Int)=((48+k%10:Nat):Int):=by rw[IntKind.wrap_u8];omega
  have aR:IntKind.i64.wrap ((k/10:Nat):Int)=((k/10:Nat):Int):=by rw[IntKind.wrap_i64];omega
  have hlt:k/10<10^n:=by rw[Nat.pow_succ]at hk;omega
  have hlen:([UInt8.ofNat (48+k%10)]:List UInt8).length+o.length<=9223372036854775807:=by simp;omega
  obtain⟨w1,w2,w4,w5,w6,w7,w8,w9,aj,ak,al,an,ao,aq,ar,au,av,aw,h',e⟩:=ih (k/10) hlt (by omega) (UInt8.ofNat (48+k%10)::o) (by simp;omega) u1 u2 u4 u5 (ce .i64 k) (cL true) (ce .i64 k) (ce .i64 ((k%10:Nat):Int)) (ce .i64 ((48+k%10:Nat):Int)) (ce .u8 ((48+k%10:Nat):Int)) (.one (.arr h.length)) (fZ [UInt8.ofNat (48+k%10)]) (fZ o) (fZ (UInt8.ofNat (48+k%10)::o)) (ce .i64 k) (ce .i64 ((k/10:Nat):Int)) a8 aa (h++[.arr 1 [[.int .u8 ((48+k%10:Nat):Int)]]]);refine⟨w1,w2,w4,w5,w6,w7,w8,w9,aj,ak,al,an,ao,aq,ar,au,av,aw,h',(jR ?_).trans (e.trans ?_)⟩;have aS:wa [[PV.int .u8 ((48+k%10:Nat):Int)]]=some [UInt8.ofNat (48+k%10)]:=by simp only[wa,Int.toNat_natCast]
  have aT:cQ h [ce .u8 ((48+k%10:Nat):Int)]=some [[.int .u8 ((48+k%10:Nat):Int)]]:=rfl;have aU:freezeVs h [ce .u8 ((48+k%10:Nat):Int)]=h:=rfl;have aV:asList (h++[Q0.arr 1 [[.int .u8 ((48+k%10:Nat):Int)]]]) (.one (.arr h.length))=some [[.int .u8 ((48+k%10:Nat):Int)]]:=by simp[asList,L.view]
  have aW:decide ((0:Int)<(k:Int))=true:=decide_eq_true a6;have aX:¬((10:Int)=0):=by decide
  have aY:(([ce .u8 ((48+k%10:Nat):Int)]:List V).all (fun v=>v.cells.length==1)&&decide (0<1)&&decide (([ce .u8 ((48+k%10:Nat):Int)]:List V).length*1<=16777216))=true:=rfl;simp only[txB,cD,cj,cT,dG,dY,fa,Opd.ev,put,YA,Qb,Yf,ZP,bin,ft,mJ,if_true,if_neg aX,aW,isBool,isInt,Zt,Zy,hm,aP,aQ,aY,aT,aU,aV,aS,hlen,hq,aR,Zh,Zk];simp only[Ey,if_neg h0]
def aeG {f:Nat}(hk:Φ f=some txF):GT Φ ext cI f:=by
 intro k h0 hM;refine j0 hk ?_;by_cases hz:k<=0
 ·have hb:decide (k<=0)=true:=decide_eq_true hz;simp[txF,start,iN,cD,cj,cT,dG,dY,Opd.ev,put,bin,ft,hb,isBool,done,dd,cu,fb,eh,comp,cU,dS,cz,V.cells,cI,hz]
 ·have hb:decide (k<=0)=false:=decide_eq_false hz;obtain⟨n,rfl⟩:∃n:Nat,k=n:=⟨k.toNat,by omega⟩;unfold Bz at hM;have aZ:=PR 13 n [];have hlen:([109]:List UInt8).length+(Ey 13 n []).length<=9223372036854775807:=by simp at aZ⊢;omega
  have aC:1+(Ey 13 n []).length<=9223372036854775807:=by simpa using hlen
  generalize aK:cS (cD (cf Φ ext) cS txB)=lp;have aD:∀u1 u2 u4 u5 u6 u7 u8 u9 ab ad ae af ag ah u16 ai a8 aa h,∃w1 w2 w4 w5 w6 w7 w8 w9 aj ak al an ao aq ar au av aw h',lp ⟨[ce .i64 n,u1,u2,fZ [],u4,u5,u6,u7,u8,u9,ab,ad,ae,af,ag,ah,u16,ai,a8,aa],h⟩=some (.exit 0,⟨[ce .i64 0,w1,w2,fZ (Ey 13 n []),w4,w5,w6,w7,w8,w9,aj,ak,al,an,ao,aq,ar,au,av,aw],h'⟩):=by rw[<-aK];exact adf (Φ:=Φ) (ext:=ext) 13 n (by omega) (by omega) [] (by simp)
  obtain⟨w1,w2,w4,w5,w6,w7,w8,w9,aj,ak,al,an,ao,aq,ar,au,av,aw,h',e⟩:=aD (.b8 []) (fZ []) (ce .i64 n) (cL false) (.b8 []) (.b8 []) (.b8 []) (.b8 []) (.b8 []) (.b8 []) (.b8 []) (.b8 []) (.b8 []) (.b8 []) (.b8 []) (.b8 []) (.b8 []) (.b8 []) [];have hm:cI (n:Int)=109::Ey 13 n []:=by simp only[cI,if_neg hz,Int.toNat_natCast]
  rw[hm];simp only[txF,start,iN,cD,aK,ZJ,Nat.reduceSub,List.replicate,Zh,Zk,cj,cT,dG,dY,Opd.ev,put,YA,Qb,Yf,ZP,bin,ft,hb,if_true,isBool,ZA,if_false,e,mJ,hlen];simp[aC,done,dd,cu,fb,eh,comp,cU,dS,cz,V.cells]
end
end Gi
