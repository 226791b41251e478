/- Of this proof. -/
import Derived.Test.YtlmhdkdolfpedaaGreatGit
set_option linter.all false
namespace Gi
open Go Go.RowKit
section
variable {Φ:Nat->Option AFn}{ext:Nat->List V->Option V}
def Uv {left:Int}{a:Nat}(h:less left a<0)(h0:0<=left):less left a= -1:=by unfold less at*;split at h;rename_i h1;rw[if_pos h1];omega
def Uw {left:Int}{a:Nat}(h0:0<=left):less left a<=left:=by unfold less;split<;>omega
def Gs {rows:List (List PV)}{k:Nat}(h:k<rows.length):dP (rows.drop k)=gT (rows[k])+dP (rows.drop (k+1)):=by rw[QR h,dP]
def abx {z kx:Nat}{rows:List (List PV)}(hz:∀r∈rows,r.length=z)(hlen:rows.length<=maxLen)(ao:∀r∈rows,HZ Φ ext kx r):∀(m k:Nat),k+m=rows.length->∀(left:Int),0<=left->left<=1048576->
 ∀(u2 u3 u4 u6 u7 u8 u9 a1 au aj ak al ah a5 a6 a7 a8 aa ab ad ae af ag av:V)(h:List Q0),
  ∃e t',cR (cD (cf Φ ext) cR (yf z kx)) ⟨[eQ rows,ce .i64 left,u2,u3,u4,ce .i64 k,u6,u7,u8,u9,a1,au,aj,ak,al,ah,a5,a6,a7,a8,aa,ab,ad,ae,af,ag,av],h⟩=some (e,⟨t',h⟩)/\ t'.length=27/\
   ((e= .exit 0/\ 0<=less left (dP (rows.drop k))/\ t'[1]? =some (ce .i64 (less left (dP (rows.drop k))))) \/(e= .ret/\ less left (dP (rows.drop k))= -1/\ t'[4]? =some (ce .i64 (-1)))):=by
 intro m;induction m with
 |zero=>
  intro k hk left h0 h1 u2 u3 u4 u6 u7 u8 u9 a1 au aj ak al ah a5 a6 a7 a8 aa ab ad ae af ag av h;have aw:k=rows.length:=by omega
  subst aw;have aB:less left (dP (rows.drop rows.length))=left:=by simp[dP,less];omega
  rw[aB,zo];refine⟨.exit 0,[eQ rows,ce .i64 left,u2,u3,u4,ce .i64 rows.length,u6,u7,u8,u9,a1,au,ce .i64 rows.length,eQ rows,ce .i64 rows.length,cK false,a5,a6,a7,a8,aa,ab,ad,ae,af,ag,av],?_,rfl, .inl ⟨rfl,h0,rfl⟩⟩;simp[yf,Ma,cD,cj,cS,dy,dX,Opd.ev,put,asList,L.view,bin,ff,isBool]
 |succ m ih=>
  intro k hk left h0 h1 u2 u3 u4 u6 u7 u8 u9 a1 au aj ak al ah a5 a6 a7 a8 aa ab ad ae af ag av h;have hlt:k<rows.length:=by omega
  have an:(rows[k]).length=z:=hz _ (Zf hlt);have c1:=ao _ (Zf hlt) left h0 h1;have hw:=oe (k:=k) (by unfold maxLen at hlen;omega);have ai:iZ true z 0 ((rows[k]).map L.pv)=some (.agg ((rows[k]).map .pv)):=by simp[iZ,an,Zs (show((rows[k]).map L.pv).length<=z by simp[an])]
  have a2:((k+1:Nat):Int)=(k:Int)+1:=by omega
  rw[Gs hlt];by_cases aq:less left (gT rows[k])<0;have e1:=P9 (b:=dP (rows.drop (k+1))) h0 aq;have e2:=Uv aq h0;rw[e1];rw[e2]at c1;refine⟨.ret,[eQ rows,ce .i64 (-1),u2,u3,ce .i64 (-1),ce .i64 k,u6,u7,u8,u9,a1,au,ce .i64 k,eQ rows,ce .i64 rows.length,cK true,a5,a6,eQ rows,ce .i64 k, .one (.ip rows[k] 0), .agg ((rows[k]).map .pv),ce .i64 left,ce .i64 (-1),ce .i64 (-1),cK true,av],?_,rfl, .inr ⟨rfl,rfl,rfl⟩⟩;refine lW ?_ (by simp);simp[yf,Ma,Nv,t9,cD,cj,cS,dy,dX,Opd.ev,put,asList,L.view,bin,ff,isBool,isInt,hlt,cN,an,dM,ai,cy,vE,V.view,c1,V.flat,L.flat,fb,ft];have aA:0<=less left (gT rows[k]):=by omega
  obtain⟨e,t',g1,g2,g3⟩:=ih (k+1) (by omega) (less left (gT rows[k])) aA (Int.le_trans (Uw h0) h1) u2 u3 u4 u6 u7 u8 u9 a1 au (ce .i64 k) (eQ rows) (ce .i64 rows.length) (cK true) (ce .i64 k) (ce .i64 ((k:Int)+1)) (eQ rows) (ce .i64 k) (.one (.ip rows[k] 0)) (.agg ((rows[k]).map .pv)) (ce .i64 left) (ce .i64 (less left (gT rows[k]))) (ce .i64 (less left (gT rows[k]))) (cK false) av h;rw[xg aA]at g3;refine⟨e,t',(jN ?_).trans g1,g2,g3⟩;rw[a2];simp[yf,Ma,Nv,t9,cD,cj,cS,dy,dX,Opd.ev,put,asList,L.view,bin,ff,isBool,isInt,hlt,cN,an,dM,ai,cy,vE,V.view,c1,V.flat,L.flat,fb,ft,hw,aq]
def adZ {k z kx:Nat}{rows:List (List PV)}(hk:Φ k=some (Ol z kx))(hz:∀r∈rows,r.length=z)(hlen:rows.length<=maxLen)(ao:∀r∈rows,HZ Φ ext kx r){left:Int}(h0:0<=left)(h1:left<=1048576):
 cf Φ ext k [eQ rows,ce .i64 left]=some (ce .i64 (less left (rows.length+dP rows))):=by
 refine jg hk ?_;have hw:IntKind.i64.wrap (left-rows.length)=left-rows.length:=by unfold maxLen at hlen;rw[IntKind.wrap_i64];omega
 by_cases hl:left<rows.length
 ·have hn:left-(rows.length:Int)<0:=by omega
  have e:less left (rows.length+dP rows)= -1:=by unfold less;rw[if_pos (by omega)]
  rw[e];generalize hF:cD (cf Φ ext) cR (yf z kx)=F;simp[Ol,Cj,t9,start,iI,cD,hF,cj,cS,dy,dX,Opd.ev,put,asList,L.view,bin,ff,isBool,hw,hn,done,dd,cu,eY,ee,comp,cV,dS,cz,V.cells]
 ·have hn:¬left-(rows.length:Int)<0:=by omega
  have hle:left-(rows.length:Int)=less left rows.length:=by unfold less;rw[if_neg hl]
  obtain⟨e,t',g1,g2,g3⟩:=abx (Φ:=Φ) (ext:=ext) hz hlen ao rows.length 0 (by omega) (left-rows.length) (by omega) (by omega) (.b8 []) (.b8 []) (ce .i64 0) (ce .i64 left) (eQ rows) (ce .i64 rows.length) (ce .i64 (left-rows.length)) (ce .i64 (left-rows.length)) (cK false) (.b8 []) (.b8 []) (.b8 []) (.b8 []) (.b8 []) (.b8 []) (.b8 []) (.b8 []) (.b8 []) (.b8 []) (.b8 []) (.b8 []) (.b8 []) (.b8 []) (.b8 []) [];simp only[List.drop_zero,show((0:Nat):Int)=0 from rfl]at g1 g3;have aC:less (left-rows.length) (dP rows)=less left (rows.length+dP rows):=by rw[hle];exact xg (by rw[<-hle];omega)
  rw[aC]at g3;generalize hF:cD (cf Φ ext) cR (yf z kx)=F at g1;rcases g3 with⟨rfl,g4,g5⟩|⟨rfl,g4,g5⟩
  ·obtain⟨_,g6⟩:=Zb.1 g5;simp[Ol,Cj,t9,start,iI,cD,hF,cj,cS,dy,dX,Opd.ev,put,asList,L.view,bin,ff,isBool,hw,hn,done,dd,cu,eY,ee,comp,cV,dS,cz,V.cells,g1,g2,g6]
  ·obtain⟨_,g6⟩:=Zb.1 g5;simp[Ol,Cj,t9,start,iI,cD,hF,cj,cS,dy,dX,Opd.ev,put,asList,L.view,bin,ff,isBool,hw,hn,done,dd,cu,eY,ee,comp,cV,dS,cz,V.cells,g1,g2,g6,g4]
def abb :Q6:= .seq (.region [⟨some 4, .mv (.pv (.bool false)),none⟩]) .ret
def i7 (z kx:Nat):Q6:= .seq (Ma 5 0 11) (.seq (.block 1 (.seq (.region [⟨some 17, .mv (.tmp 0),none⟩,⟨some 18, .mv (.tmp 5),none⟩,⟨some 19, .bF z (.tmp 17) (.tmp 18),none⟩,⟨some 20, .load true z (.tmp 19),none⟩,⟨some 21, .mv (.tmp 1),none⟩,⟨some 22, .mv (.tmp 5),none⟩,⟨some 23, .bF z (.tmp 21) (.tmp 22),none⟩,⟨some 24, .load true z (.tmp 23),none⟩,⟨some 25, .call kx [.tmp 20, .tmp 24] true true,none⟩,⟨some 26, .un .not (.tmp 25),none⟩]) (.cond (.tmp 26) abb .skip))) (Nv 5 15))
def t6 :Q6:= .seq (Ma 5 0 11) (.seq (.block 1 (.seq (.region [⟨some 17, .mv (.tmp 0),none⟩,⟨some 18, .mv (.tmp 5),none⟩,⟨some 19, .bF 1 (.tmp 17) (.tmp 18),none⟩,⟨some 20, .load false 1 (.tmp 19),none⟩,⟨some 21, .mv (.tmp 1),none⟩,⟨some 22, .mv (.tmp 5),none⟩,⟨some 23, .bF 1 (.tmp 21) (.tmp 22),none⟩,⟨some 24, .load false 1 (.tmp 23),none⟩,⟨some 25, .bin .neq (.tmp 20) (.tmp 24),none⟩]) (.cond (.tmp 25) abb .skip))) (Nv 5 15))
def tt (nt:Nat)(body:Q6):AFn:=⟨nt,[.tmp 4], .seq (.region [⟨some 4, .mv (.pv (.bool false)),none⟩]) (.seq (.seq (.region [⟨some 6, .mv (.tmp 0),none⟩,⟨some 7, .len (.tmp 6),none⟩,⟨some 8, .mv (.tmp 1),none⟩,⟨some 9, .len (.tmp 8),none⟩,⟨some 10, .bin .neq (.tmp 7) (.tmp 9),none⟩]) (.cond (.tmp 10) abb .skip)) (.seq (.seq (.region [⟨some 5, .mv (.pv (.int .i64 0)),none⟩]) (.block 0 (.loop body))) (.seq (.region [⟨some 4, .mv (.pv (.bool true)),none⟩]) .ret)))⟩
def aaA {z kx:Nat}{rows:List (List PV)}(hz:∀r∈rows,r.length=z)(hlen:rows.length<=maxLen)(ao:∀r∈rows,cf Φ ext kx [.agg (r.map .pv), .agg (r.map .pv)]=some (cK true)):∀(m k:Nat),k+m=rows.length->
 ∀(u2 u3 u4 u6 u7 u8 u9 a1 ar aj ak al ah a5 a6 a7 a8 aa ab ad ae af ag ax:V)(h:List Q0),
  ∃t',cR (cD (cf Φ ext) cR (i7 z kx)) ⟨[eQ rows,eQ rows,u2,u3,u4,ce .i64 k,u6,u7,u8,u9,a1,ar,aj,ak,al,ah,a5,a6,a7,a8,aa,ab,ad,ae,af,ag,ax],h⟩=some (.exit 0,⟨t',h⟩)/\ t'.length=27:=by
 intro m;induction m with
 |zero=>
  intro k hk u2 u3 u4 u6 u7 u8 u9 a1 ar aj ak al ah a5 a6 a7 a8 aa ab ad ae af ag ax h;have aw:k=rows.length:=by omega
  subst aw;refine⟨[eQ rows,eQ rows,u2,u3,u4,ce .i64 rows.length,u6,u7,u8,u9,a1,ce .i64 rows.length,eQ rows,ce .i64 rows.length,cK false,ah,a5,a6,a7,a8,aa,ab,ad,ae,af,ag,ax],lW ?_ (by simp),rfl⟩;simp[i7,Ma,cD,cj,cS,dy,dX,Opd.ev,put,asList,L.view,bin,ff,isBool]
 |succ m ih=>
  intro k hk u2 u3 u4 u6 u7 u8 u9 a1 ar aj ak al ah a5 a6 a7 a8 aa ab ad ae af ag ax h;have hlt:k<rows.length:=by omega
  have an:(rows[k]).length=z:=hz _ (Zf hlt);have c1:=ao _ (Zf hlt);have hw:=oe (k:=k) (by unfold maxLen at hlen;omega);have ai:iZ true z 0 ((rows[k]).map L.pv)=some (.agg ((rows[k]).map .pv)):=by simp[iZ,an,Zs (show((rows[k]).map L.pv).length<=z by simp[an])]
  have a2:((k+1:Nat):Int)=(k:Int)+1:=by omega
  obtain⟨t',g1,g2⟩:=ih (k+1) (by omega) u2 u3 u4 u6 u7 u8 u9 a1 (ce .i64 k) (eQ rows) (ce .i64 rows.length) (cK true) (ce .i64 k) (ce .i64 ((k:Int)+1)) (eQ rows) (ce .i64 k) (.one (.ip rows[k] 0)) (.agg ((rows[k]).map .pv)) (eQ rows) (ce .i64 k) (.one (.ip rows[k] 0)) (.agg ((rows[k]).map .pv)) (cK true) (cK false) h;refine⟨t',(jN ?_).trans g1,g2⟩;rw[a2];simp[i7,Ma,Nv,cD,cj,cS,dy,dX,Opd.ev,put,asList,L.view,bin,ff,un,isBool,isInt,hlt,cN,an,dM,ai,cy,vE,V.view,c1,V.flat,L.flat,fb,ft,hw]
def adz {k z kx:Nat}{rows:List (List PV)}(hk:Φ k=some (tt 27 (i7 z kx)))(hz:∀r∈rows,r.length=z)(hlen:rows.length<=maxLen)(ao:∀r∈rows,cf Φ ext kx [.agg (r.map .pv), .agg (r.map .pv)]=some (cK true)):
 cf Φ ext k [eQ rows,eQ rows]=some (cK true):=by refine jg hk ?_;obtain⟨t',g1,g2⟩:=aaA (Φ:=Φ) (ext:=ext) hz hlen ao rows.length 0 (by omega) (.b8 []) (.b8 []) (cK false) (eQ rows) (ce .i64 rows.length) (eQ rows) (ce .i64 rows.length) (cK false) (.b8 []) (.b8 []) (.b8 []) (.b8 []) (.b8 []) (.b8 []) (.b8 []) (.b8 []) (.b8 []) (.b8 []) (.b8 []) (.b8 []) (.b8 []) (.b8 []) (.b8 []) (.b8 []) [];simp only[show((0:Nat):Int)=0 from rfl]at g1;generalize hF:cD (cf Φ ext) cR (i7 z kx)=F at g1;simp[tt,abb,start,iI,cD,hF,cj,cS,dy,dX,Opd.ev,put,asList,L.view,bin,ff,isBool,done,dd,cu,eY,ee,comp,cV,dS,cz,V.cells,g1,g2]
def PV.plain :PV->Bool
 | .lst _=>false
 | .bool _=>false
 |_=>true
def JI {p:PV}(h:p.plain=true):bin .neq (.one (.pv p)) (.one (.pv p))=some (cK false):=by
 cases p with
 |int k n=>simp[bin,ff]
 |str s=>simp[bin,mA]
 |bool b=>simp[PV.plain]at h
 |lst es=>simp[PV.plain]at h
def aaz {qs:List PV}(hp:∀q∈qs,q.plain=true)(hlen:qs.length<=maxLen):∀(m k:Nat),k+m=qs.length->
 ∀(u2 u3 u4 u6 u7 u8 u9 a1 ar aj ak al ah a5 a6 a7 a8 aa ab ad ae af ag:V)(h:List Q0),
  ∃t',cR (cD (cf Φ ext) cR t6) ⟨[eQ (qs.map fun q=>[q]),eQ (qs.map fun q=>[q]),u2,u3,u4,ce .i64 k,u6,u7,u8,u9,a1,ar,aj,ak,al,ah,a5,a6,a7,a8,aa,ab,ad,ae,af,ag],h⟩=some (.exit 0,⟨t',h⟩)/\ t'.length=26:=by
 intro m;induction m with
 |zero=>
  intro k hk u2 u3 u4 u6 u7 u8 u9 a1 ar aj ak al ah a5 a6 a7 a8 aa ab ad ae af ag h;have aw:k=qs.length:=by omega
  subst aw;refine⟨[eQ (qs.map fun q=>[q]),eQ (qs.map fun q=>[q]),u2,u3,u4,ce .i64 qs.length,u6,u7,u8,u9,a1,ce .i64 qs.length,eQ (qs.map fun q=>[q]),ce .i64 qs.length,cK false,ah,a5,a6,a7,a8,aa,ab,ad,ae,af,ag],lW ?_ (by simp),rfl⟩;simp[t6,Ma,cD,cj,cS,dy,dX,Opd.ev,put,asList,L.view,bin,ff,isBool]
 |succ m ih=>
  intro k hk u2 u3 u4 u6 u7 u8 u9 a1 ar aj ak al ah a5 a6 a7 a8 aa ab ad ae af ag h;have hlt:k<qs.length:=by omega
  have hn:=JI (hp _ (Zf hlt));have hw:=oe (k:=k) (by unfold maxLen at hlen;omega);have a2:((k+1:Nat):Int)=(k:Int)+1:=by omega
  have ai:iZ false 1 0 [L.pv qs[k]]=some (.one (.pv qs[k])):=by simp[iZ]
  have ay:bin .lss (ce .i64 k) (ce .i64 qs.length)=some (cK true):=by simp[bin,ff,hlt]
  have az:bin .add (ce .i64 k) (ce .i64 1)=some (ce .i64 ((k:Int)+1)):=by simp[bin,ff,hw]
  obtain⟨t',g1,g2⟩:=ih (k+1) (by omega) u2 u3 u4 u6 u7 u8 u9 a1 (ce .i64 k) (eQ (qs.map fun q=>[q])) (ce .i64 qs.length) (cK true) (ce .i64 k) (ce .i64 ((k:Int)+1)) (eQ (qs.map fun q=>[q])) (ce .i64 k) (.one (.ip [qs[k]] 0)) (.one (.pv qs[k])) (eQ (qs.map fun q=>[q])) (ce .i64 k) (.one (.ip [qs[k]] 0)) (.one (.pv qs[k])) (cK false) h;refine⟨t',(jN ?_).trans g1,g2⟩;rw[a2];simp[t6,Ma,Nv,cD,cj,cS,dy,dX,Opd.ev,put,asList,L.view,ay,az,isBool,isInt,hlt,cN,dM,ai,hn]
def ady {k:Nat}{qs:List PV}(hk:Φ k=some (tt 26 t6))(hp:∀q∈qs,q.plain=true)(hlen:qs.length<=maxLen):cf Φ ext k [eQ (qs.map fun q=>[q]),eQ (qs.map fun q=>[q])]=some (cK true):=by refine jg hk ?_;obtain⟨t',g1,g2⟩:=aaz (Φ:=Φ) (ext:=ext) hp hlen qs.length 0 (by omega) (.b8 []) (.b8 []) (cK false) (eQ (qs.map fun q=>[q])) (ce .i64 qs.length) (eQ (qs.map fun q=>[q])) (ce .i64 qs.length) (cK false) (.b8 []) (.b8 []) (.b8 []) (.b8 []) (.b8 []) (.b8 []) (.b8 []) (.b8 []) (.b8 []) (.b8 []) (.b8 []) (.b8 []) (.b8 []) (.b8 []) (.b8 []) [];simp only[show((0:Nat):Int)=0 from rfl]at g1;generalize hF:cD (cf Φ ext) cR t6=F at g1;simp[tt,abb,start,iI,cD,hF,cj,cS,dy,dX,Opd.ev,put,asList,L.view,bin,ff,isBool,done,dd,cu,eY,ee,comp,cV,dS,cz,V.cells,g1,g2]
end
def gY {t:PTy}{ts:List PTy}{ps:List PV}(h:dW (t::ts) ps):∃p r,ps=p::r/\ qa t p/\ dW ts r:=by
 cases ps with
 |nil=>cases h
 |cons p r=>exact⟨p,r,rfl,h.1,h.2⟩
def ja {ps:List PV}(h:dW [] ps):ps=[]:=by
 cases ps with
 |nil=>rfl
 |cons p r=>cases h
def qh {k:IntKind}{p:PV}(h:qa (.int k) p):∃n,p= .int k n:=by
 cases p with
 |int k' n=>exact⟨n,by rw[h.1]⟩
 |_=>cases h
def oh {p:PV}(h:qa .str p):∃s,p= .str s:=by
 cases p with
 |str s=>exact⟨s,rfl⟩
 |_=>cases h
def oZ {p:PV}(h:qa .bool p):∃b,p= .bool b:=by
 cases p with
 |bool b=>exact⟨b,rfl⟩
 |_=>cases h
def sB {ts:List PTy}{p:PV}(h:qa (.lst ts) p):∃rows,p= .lst rows:=by
 cases p with
 |lst rows=>exact⟨rows,rfl⟩
 |_=>cases h
def dJ {ts:List PTy}{rows:List (List PV)}(h:qa (.lst ts) (.lst rows)):rows.length<=maxLen/\ ∀r∈rows,dW ts r:=h
def nK :∀{ts:List PTy}{ps:List PV},dW ts ps->ps.length=ts.length
 |[],ps,h=>by rw[ja h];rfl
 |t::ts,ps,h=>by obtain⟨p,r,rfl,_,h2⟩:=gY h;simp[nK h2]
def Ck :∀{rows:List (List PV)}{r:List PV},r∈rows->gT r<=dP rows
 |a::rows,r,h=>by rcases ZF.1 h with rfl|h;simp only[dP];omega;have:=Ck h;simp only[dP];omega
def mG (rows:List (List PV)):sz (.lst rows)=rows.length+dP rows:=by simp only[sz]
def adQ {rows:List (List PV)}{r:List PV}(m:r∈rows)(h:sz (.lst rows)<=1048576):gT r<=1048576:=by have:=Ck m;rw[mG]at h;omega
def UP {t:PTy}:∀{rows:List (List PV)},(∀r∈rows,dW [t] r)->∃qs:List PV,rows=qs.map fun q=>[q]
 |[],_=>⟨[],rfl⟩
 |a::rows,h=>by obtain⟨qs,rfl⟩:=UP (fun r m=>h r (Ym _ m));obtain⟨p,r,rfl,_,h2⟩:=gY (h a (Yw));obtain rfl:=ja h2;exact⟨p::qs,rfl⟩
def PTy.cf :PTy->Bool
 | .int _=>true
 | .str=>true
 |_=>false
def adM {t:PTy}{qs:List PV}(ht:t.cf=true)(h:∀r∈(qs.map fun q=>[q]),dW [t] r):∀q∈qs,q.plain=true:=by
 intro q m;have:=(h [q] (ZV.2 ⟨q,m,rfl⟩)).1;cases t with
 |int k=>obtain⟨n,rfl⟩:=qh this;rfl
 |str=>obtain⟨n,rfl⟩:=oh this;rfl
 |_=>cases ht
def PTy.small :PTy->Bool
 | .int _=>true
 | .bool=>true
 |_=>false
def Ke :∀{ts:List PTy}{ps:List PV},ts.all PTy.small=true->dW ts ps->gT ps=0
 |[],ps,_,h=>by rw[ja h];simp only[gT]
 |t::ts,ps,ha,h=>by
  simp only[Zq,Zg]at ha;obtain⟨p,r,rfl,h1,h2⟩:=gY h;have:=Ke ha.2 h2;cases t with
  |int k=>obtain⟨n,rfl⟩:=qh h1;simp only[gT,sz,this]
  |bool=>obtain⟨n,rfl⟩:=oZ h1;simp only[gT,sz,this]
  |_=>cases ha.1
def Gt {ts:List PTy}(ha:ts.all PTy.small=true):∀{rows:List (List PV)},(∀r∈rows,dW ts r)->dP rows=0
 |[],_=>by simp only[dP]
 |r::rows,h=>by simp only[dP,Ke ha (h r (Yw)),Gt ha (fun r m=>h r (Ym _ m))]
def acl {left:Int}{n:Nat}(h:left<n):less left n= -1:=by unfold less;rw[if_pos h]
def aaW {left l:Int}{n:Nat}(h0:0<=left)(q:less left n=l)(hn:¬l<0):l=left-n/\ (n:Int)<=left:=by unfold less at q;split at q;omega;omega
end Gi
