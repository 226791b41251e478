/- A part. -/
import Derived.Test.YtndiampmpmbfoaaGreatGit
set_option linter.all false
namespace Gi
open Go Go.RowKit
section
variable {Φ:Nat->Option AFn}{ext:Nat->List V->Option V}
def Qa {left:Int}{a:Nat}(h:less left a<0)(h0:0<=left):less left a= -1:=by
 unfold less at*
 split at h
 ·rename_i h1;rw[if_pos h1]
 ·omega
def Qb {left:Int}{a:Nat}(h0:0<=left):less left a<=left:=by
 unfold less;split<;>omega
def Dq {rows:List (List PV)}{k:Nat}(h:k<rows.length):bI (rows.drop k)=eN (rows[k])+bI (rows.drop (k+1)):=by
 rw[List.drop_eq_getElem_cons h,bI]
def Uh {z kx:Nat}{rows:List (List PV)}(hz:∀r∈rows,r.length=z)(hlen:rows.length<=maxLen)(ax:∀r∈rows,ET Φ ext kx r):∀(m k:Nat),k+m=rows.length->∀(left:Int),0<=left->left<=1048576->
 ∀(u2 u3 u4 u6 u7 u8 u9 a1 aB ar au av an a5 a6 a7 a8 ab ad ae af ai ak aC:V)(h:List Y0),
  ∃e t',aF (ap (ag Φ ext) aF (uL z kx)) ⟨[bY rows,aa .i64 left,u2,u3,u4,aa .i64 k,u6,u7,u8,u9,a1,aB,ar,au,av,an,a5,a6,a7,a8,ab,ad,ae,af,ai,ak,aC],h⟩=some (e,⟨t',h⟩)/\ t'.length=27/\
   ((e= .exit 0/\ 0<=less left (bI (rows.drop k))/\ t'[1]? =some (aa .i64 (less left (bI (rows.drop k))))) \/(e= .ret/\ less left (bI (rows.drop k))= -1/\ t'[4]? =some (aa .i64 (-1)))):=by
 intro m
 induction m with
 |zero=>
  intro k hk left h0 h1 u2 u3 u4 u6 u7 u8 u9 a1 aB ar au av an a5 a6 a7 a8 ab ad ae af ai ak aC h
  have aD:k=rows.length:=by omega
  subst aD
  have aL:less left (bI (rows.drop rows.length))=left:=by simp[bI,less];omega
  rw[aL,vO]
  refine⟨.exit 0,[bY rows,aa .i64 left,u2,u3,u4,aa .i64 rows.length,u6,u7,u8,u9,a1,aB,aa .i64 rows.length,bY rows,aa .i64 rows.length,az false,a5,a6,a7,a8,ab,ad,ae,af,ai,ak,aC],?_,rfl, .inl ⟨rfl,h0,rfl⟩⟩
  simp[uL,Je,ap,ah,aG,bc,bG,Opd.ev,put,asList,L.view,bin,cG,isBool]
 |succ m ih=>
  intro k hk left h0 h1 u2 u3 u4 u6 u7 u8 u9 a1 aB ar au av an a5 a6 a7 a8 ab ad ae af ai ak aC h
  have ao:k<rows.length:=by omega
  have aw:(rows[k]).length=z:=hz _ (Zf ao)
  have c1:=ax _ (Zf ao) left h0 h1
  have hw:=lm (k:=k) (by unfold maxLen at hlen;omega)
  have aq:gv true z 0 ((rows[k]).map L.pv)=some (.agg ((rows[k]).map .pv)):=by
   simp[gv,aw,Zs (show((rows[k]).map L.pv).length<=z by simp[aw])]
  have a2:((k+1:Nat):Int)=(k:Int)+1:=by omega
  rw[Dq ao]
  by_cases ay:less left (eN rows[k])<0
  ·have e1:=MQ (b:=bI (rows.drop (k+1))) h0 ay
   have e2:=Qa ay h0
   rw[e1]
   rw[e2]at c1
   refine⟨.ret,[bY rows,aa .i64 (-1),u2,u3,aa .i64 (-1),aa .i64 k,u6,u7,u8,u9,a1,aB,aa .i64 k,bY rows,aa .i64 rows.length,az true,a5,a6,bY rows,aa .i64 k, .one (.ip rows[k] 0), .agg ((rows[k]).map .pv),aa .i64 left,aa .i64 (-1),aa .i64 (-1),az true,aC],?_,rfl, .inr ⟨rfl,rfl,rfl⟩⟩
   refine jt ?_ (by simp)
   simp[uL,Je,Kj,p7,ap,ah,aG,bc,bG,Opd.ev,put,asList,L.view,bin,cG,isBool,isInt,ao,aJ,aw,bA,aq,al,rE,V.view,c1,V.flat,L.flat,da,df]
  ·have aK:0<=less left (eN rows[k]):=by omega
   obtain⟨e,t',g1,g2,g3⟩:=ih (k+1) (by omega) (less left (eN rows[k])) aK (Int.le_trans (Qb h0) h1) u2 u3 u4 u6 u7 u8 u9 a1 aB (aa .i64 k) (bY rows) (aa .i64 rows.length) (az true) (aa .i64 k) (aa .i64 ((k:Int)+1)) (bY rows) (aa .i64 k) (.one (.ip rows[k] 0)) (.agg ((rows[k]).map .pv)) (aa .i64 left) (aa .i64 (less left (eN rows[k]))) (aa .i64 (less left (eN rows[k]))) (az false) aC h
   rw[tH aK]at g3
   refine⟨e,t',(gF ?_).trans g1,g2,g3⟩
   rw[a2]
   simp[uL,Je,Kj,p7,ap,ah,aG,bc,bG,Opd.ev,put,asList,L.view,bin,cG,isBool,isInt,ao,aJ,aw,bA,aq,al,rE,V.view,c1,V.flat,L.flat,da,df,hw,ay]
def WC {k z kx:Nat}{rows:List (List PV)}(hk:Φ k=some (La z kx))(hz:∀r∈rows,r.length=z)(hlen:rows.length<=maxLen)(ax:∀r∈rows,ET Φ ext kx r){left:Int}(h0:0<=left)(h1:left<=1048576):
 ag Φ ext k [bY rows,aa .i64 left]=some (aa .i64 (less left (rows.length+bI rows))):=by
 refine fW hk ?_
 have hw:IntKind.i64.wrap (left-rows.length)=left-rows.length:=by unfold maxLen at hlen;rw[IntKind.wrap_i64];omega
 by_cases hl:left<rows.length
 ·have hn:left-(rows.length:Int)<0:=by omega
  have e:less left (rows.length+bI rows)= -1:=by unfold less;rw[if_pos (by omega)]
  rw[e]
  generalize hF:ap (ag Φ ext) aF (uL z kx)=F
  simp[La,za,p7,start,fB,ap,hF,ah,aG,bc,bG,Opd.ev,put,asList,L.view,bin,cG,isBool,hw,hn,done,aZ,am,cj,bS,comp,aO,bJ,aj,V.cells]
 ·have hn:¬left-(rows.length:Int)<0:=by omega
  have hle:left-(rows.length:Int)=less left rows.length:=by unfold less;rw[if_neg hl]
  obtain⟨e,t',g1,g2,g3⟩:=Uh (Φ:=Φ) (ext:=ext) hz hlen ax rows.length 0 (by omega) (left-rows.length) (by omega) (by omega) (.b9 []) (.b9 []) (aa .i64 0) (aa .i64 left) (bY rows) (aa .i64 rows.length) (aa .i64 (left-rows.length)) (aa .i64 (left-rows.length)) (az false) (.b9 []) (.b9 []) (.b9 []) (.b9 []) (.b9 []) (.b9 []) (.b9 []) (.b9 []) (.b9 []) (.b9 []) (.b9 []) (.b9 []) (.b9 []) (.b9 []) (.b9 []) []
  simp only[List.drop_zero,show((0:Nat):Int)=0 from rfl]at g1 g3
  have aM:less (left-rows.length) (bI rows)=less left (rows.length+bI rows):=by rw[hle];exact tH (by rw[<-hle];omega)
  rw[aM]at g3
  generalize hF:ap (ag Φ ext) aF (uL z kx)=F at g1
  rcases g3 with⟨rfl,g4,g5⟩|⟨rfl,g4,g5⟩
  ·obtain⟨_,g6⟩:=Zb.1 g5
   simp[La,za,p7,start,fB,ap,hF,ah,aG,bc,bG,Opd.ev,put,asList,L.view,bin,cG,isBool,hw,hn,done,aZ,am,cj,bS,comp,aO,bJ,aj,V.cells,g1,g2,g6]
  ·obtain⟨_,g6⟩:=Zb.1 g5
   simp[La,za,p7,start,fB,ap,hF,ah,aG,bc,bG,Opd.ev,put,asList,L.view,bin,cG,isBool,hw,hn,done,aZ,am,cj,bS,comp,aO,bJ,aj,V.cells,g1,g2,g6,g4]
def TZ :Y5:= .seq (.region [⟨some 4, .mv (.pv (.bool false)),none⟩]) .ret
def fR (z kx:Nat):Y5:= .seq (Je 5 0 11) (.seq (.block 1 (.seq (.region [⟨some 17, .mv (.tmp 0),none⟩,⟨some 18, .mv (.tmp 5),none⟩,⟨some 19, .bF z (.tmp 17) (.tmp 18),none⟩,⟨some 20, .load true z (.tmp 19),none⟩,⟨some 21, .mv (.tmp 1),none⟩,⟨some 22, .mv (.tmp 5),none⟩,⟨some 23, .bF z (.tmp 21) (.tmp 22),none⟩,⟨some 24, .load true z (.tmp 23),none⟩,⟨some 25, .call kx [.tmp 20, .tmp 24] true true,none⟩,⟨some 26, .un .not (.tmp 25),none⟩]) (.cond (.tmp 26) TZ .skip))) (Kj 5 15))
def p4 :Y5:= .seq (Je 5 0 11) (.seq (.block 1 (.seq (.region [⟨some 17, .mv (.tmp 0),none⟩,⟨some 18, .mv (.tmp 5),none⟩,⟨some 19, .bF 1 (.tmp 17) (.tmp 18),none⟩,⟨some 20, .load false 1 (.tmp 19),none⟩,⟨some 21, .mv (.tmp 1),none⟩,⟨some 22, .mv (.tmp 5),none⟩,⟨some 23, .bF 1 (.tmp 21) (.tmp 22),none⟩,⟨some 24, .load false 1 (.tmp 23),none⟩,⟨some 25, .bin .neq (.tmp 20) (.tmp 24),none⟩]) (.cond (.tmp 25) TZ .skip))) (Kj 5 15))
def pC (nt:Nat)(body:Y5):AFn:=⟨nt,[.tmp 4], .seq (.region [⟨some 4, .mv (.pv (.bool false)),none⟩]) (.seq (.seq (.region [⟨some 6, .mv (.tmp 0),none⟩,⟨some 7, .len (.tmp 6),none⟩,⟨some 8, .mv (.tmp 1),none⟩,⟨some 9, .len (.tmp 8),none⟩,⟨some 10, .bin .neq (.tmp 7) (.tmp 9),none⟩]) (.cond (.tmp 10) TZ .skip)) (.seq (.seq (.region [⟨some 5, .mv (.pv (.int .i64 0)),none⟩]) (.block 0 (.loop body))) (.seq (.region [⟨some 4, .mv (.pv (.bool true)),none⟩]) .ret)))⟩
def Tm {z kx:Nat}{rows:List (List PV)}(hz:∀r∈rows,r.length=z)(hlen:rows.length<=maxLen)(ax:∀r∈rows,ag Φ ext kx [.agg (r.map .pv), .agg (r.map .pv)]=some (az true)):∀(m k:Nat),k+m=rows.length->
 ∀(u2 u3 u4 u6 u7 u8 u9 a1 aA ar au av an a5 a6 a7 a8 ab ad ae af ai ak aE:V)(h:List Y0),
  ∃t',aF (ap (ag Φ ext) aF (fR z kx)) ⟨[bY rows,bY rows,u2,u3,u4,aa .i64 k,u6,u7,u8,u9,a1,aA,ar,au,av,an,a5,a6,a7,a8,ab,ad,ae,af,ai,ak,aE],h⟩=some (.exit 0,⟨t',h⟩)/\ t'.length=27:=by
 intro m
 induction m with
 |zero=>
  intro k hk u2 u3 u4 u6 u7 u8 u9 a1 aA ar au av an a5 a6 a7 a8 ab ad ae af ai ak aE h
  have aD:k=rows.length:=by omega
  subst aD
  refine⟨[bY rows,bY rows,u2,u3,u4,aa .i64 rows.length,u6,u7,u8,u9,a1,aa .i64 rows.length,bY rows,aa .i64 rows.length,az false,an,a5,a6,a7,a8,ab,ad,ae,af,ai,ak,aE],jt ?_ (by simp),rfl⟩
  simp[fR,Je,ap,ah,aG,bc,bG,Opd.ev,put,asList,L.view,bin,cG,isBool]
 |succ m ih=>
  intro k hk u2 u3 u4 u6 u7 u8 u9 a1 aA ar au av an a5 a6 a7 a8 ab ad ae af ai ak aE h
  have ao:k<rows.length:=by omega
  have aw:(rows[k]).length=z:=hz _ (Zf ao)
  have c1:=ax _ (Zf ao)
  have hw:=lm (k:=k) (by unfold maxLen at hlen;omega)
  have aq:gv true z 0 ((rows[k]).map L.pv)=some (.agg ((rows[k]).map .pv)):=by
   simp[gv,aw,Zs (show((rows[k]).map L.pv).length<=z by simp[aw])]
  have a2:((k+1:Nat):Int)=(k:Int)+1:=by omega
  obtain⟨t',g1,g2⟩:=ih (k+1) (by omega) u2 u3 u4 u6 u7 u8 u9 a1 (aa .i64 k) (bY rows) (aa .i64 rows.length) (az true) (aa .i64 k) (aa .i64 ((k:Int)+1)) (bY rows) (aa .i64 k) (.one (.ip rows[k] 0)) (.agg ((rows[k]).map .pv)) (bY rows) (aa .i64 k) (.one (.ip rows[k] 0)) (.agg ((rows[k]).map .pv)) (az true) (az false) h
  refine⟨t',(gF ?_).trans g1,g2⟩
  rw[a2]
  simp[fR,Je,Kj,ap,ah,aG,bc,bG,Opd.ev,put,asList,L.view,bin,cG,un,isBool,isInt,ao,aJ,aw,bA,aq,al,rE,V.view,c1,V.flat,L.flat,da,df,hw]
def Wb {k z kx:Nat}{rows:List (List PV)}(hk:Φ k=some (pC 27 (fR z kx)))(hz:∀r∈rows,r.length=z)(hlen:rows.length<=maxLen)(ax:∀r∈rows,ag Φ ext kx [.agg (r.map .pv), .agg (r.map .pv)]=some (az true)):
 ag Φ ext k [bY rows,bY rows]=some (az true):=by
 refine fW hk ?_
 obtain⟨t',g1,g2⟩:=Tm (Φ:=Φ) (ext:=ext) hz hlen ax rows.length 0 (by omega) (.b9 []) (.b9 []) (az false) (bY rows) (aa .i64 rows.length) (bY rows) (aa .i64 rows.length) (az false) (.b9 []) (.b9 []) (.b9 []) (.b9 []) (.b9 []) (.b9 []) (.b9 []) (.b9 []) (.b9 []) (.b9 []) (.b9 []) (.b9 []) (.b9 []) (.b9 []) (.b9 []) (.b9 []) []
 simp only[show((0:Nat):Int)=0 from rfl]at g1
 generalize hF:ap (ag Φ ext) aF (fR z kx)=F at g1
 simp[pC,TZ,start,fB,ap,hF,ah,aG,bc,bG,Opd.ev,put,asList,L.view,bin,cG,isBool,done,aZ,am,cj,bS,comp,aO,bJ,aj,V.cells,g1,g2]
def PV.plain :PV->Bool
 | .lst _=>false
 | .bool _=>false
 |_=>true
def GT {p:PV}(h:p.plain=true):bin .neq (.one (.pv p)) (.one (.pv p))=some (az false):=by
 cases p with
 |int k n=>simp[bin,cG]
 |str s=>simp[bin,jN]
 |bool b=>simp[PV.plain]at h
 |lst es=>simp[PV.plain]at h
def Tl {qs:List PV}(hp:∀q∈qs,q.plain=true)(hlen:qs.length<=maxLen):∀(m k:Nat),k+m=qs.length->
 ∀(u2 u3 u4 u6 u7 u8 u9 a1 aA ar au av an a5 a6 a7 a8 ab ad ae af ai ak:V)(h:List Y0),
  ∃t',aF (ap (ag Φ ext) aF p4) ⟨[bY (qs.map fun q=>[q]),bY (qs.map fun q=>[q]),u2,u3,u4,aa .i64 k,u6,u7,u8,u9,a1,aA,ar,au,av,an,a5,a6,a7,a8,ab,ad,ae,af,ai,ak],h⟩=some (.exit 0,⟨t',h⟩)/\ t'.length=26:=by
 intro m
 induction m with
 |zero=>
  intro k hk u2 u3 u4 u6 u7 u8 u9 a1 aA ar au av an a5 a6 a7 a8 ab ad ae af ai ak h
  have aD:k=qs.length:=by omega
  subst aD
  refine⟨[bY (qs.map fun q=>[q]),bY (qs.map fun q=>[q]),u2,u3,u4,aa .i64 qs.length,u6,u7,u8,u9,a1,aa .i64 qs.length,bY (qs.map fun q=>[q]),aa .i64 qs.length,az false,an,a5,a6,a7,a8,ab,ad,ae,af,ai,ak],jt ?_ (by simp),rfl⟩
  simp[p4,Je,ap,ah,aG,bc,bG,Opd.ev,put,asList,L.view,bin,cG,isBool]
 |succ m ih=>
  intro k hk u2 u3 u4 u6 u7 u8 u9 a1 aA ar au av an a5 a6 a7 a8 ab ad ae af ai ak h
  have ao:k<qs.length:=by omega
  have hn:=GT (hp _ (Zf ao))
  have hw:=lm (k:=k) (by unfold maxLen at hlen;omega)
  have a2:((k+1:Nat):Int)=(k:Int)+1:=by omega
  have aq:gv false 1 0 [L.pv qs[k]]=some (.one (.pv qs[k])):=by simp[gv]
  have aH:bin .lss (aa .i64 k) (aa .i64 qs.length)=some (az true):=by simp[bin,cG,ao]
  have aI:bin .add (aa .i64 k) (aa .i64 1)=some (aa .i64 ((k:Int)+1)):=by simp[bin,cG,hw]
  obtain⟨t',g1,g2⟩:=ih (k+1) (by omega) u2 u3 u4 u6 u7 u8 u9 a1 (aa .i64 k) (bY (qs.map fun q=>[q])) (aa .i64 qs.length) (az true) (aa .i64 k) (aa .i64 ((k:Int)+1)) (bY (qs.map fun q=>[q])) (aa .i64 k) (.one (.ip [qs[k]] 0)) (.one (.pv qs[k])) (bY (qs.map fun q=>[q])) (aa .i64 k) (.one (.ip [qs[k]] 0)) (.one (.pv qs[k])) (az false) h
  refine⟨t',(gF ?_).trans g1,g2⟩
  rw[a2]
  simp[p4,Je,Kj,ap,ah,aG,bc,bG,Opd.ev,put,asList,L.view,aH,aI,isBool,isInt,ao,aJ,bA,aq,hn]
def Wa {k:Nat}{qs:List PV}(hk:Φ k=some (pC 26 p4))(hp:∀q∈qs,q.plain=true)(hlen:qs.length<=maxLen):ag Φ ext k [bY (qs.map fun q=>[q]),bY (qs.map fun q=>[q])]=some (az true):=by
 refine fW hk ?_
 obtain⟨t',g1,g2⟩:=Tl (Φ:=Φ) (ext:=ext) hp hlen qs.length 0 (by omega) (.b9 []) (.b9 []) (az false) (bY (qs.map fun q=>[q])) (aa .i64 qs.length) (bY (qs.map fun q=>[q])) (aa .i64 qs.length) (az false) (.b9 []) (.b9 []) (.b9 []) (.b9 []) (.b9 []) (.b9 []) (.b9 []) (.b9 []) (.b9 []) (.b9 []) (.b9 []) (.b9 []) (.b9 []) (.b9 []) (.b9 []) []
 simp only[show((0:Nat):Int)=0 from rfl]at g1
 generalize hF:ap (ag Φ ext) aF p4=F at g1
 simp[pC,TZ,start,fB,ap,hF,ah,aG,bc,bG,Opd.ev,put,asList,L.view,bin,cG,isBool,done,aZ,am,cj,bS,comp,aO,bJ,aj,V.cells,g1,g2]
end
def ee {t:PTy}{ts:List PTy}{ps:List PV}(h:bF (t::ts) ps):∃p r,ps=p::r/\ oq t p/\ bF ts r:=by
 cases ps with
 |nil=>cases h
 |cons p r=>exact⟨p,r,rfl,h.1,h.2⟩
def fv {ps:List PV}(h:bF [] ps):ps=[]:=by
 cases ps with
 |nil=>rfl
 |cons p r=>cases h
def mp {k:IntKind}{p:PV}(h:oq (.int k) p):∃n,p= .int k n:=by
 cases p with
 |int k' n=>exact⟨n,by rw[h.1]⟩
 |_=>cases h
def lu {p:PV}(h:oq .str p):∃s,p= .str s:=by
 cases p with
 |str s=>exact⟨s,rfl⟩
 |_=>cases h
def ma {p:PV}(h:oq .bool p):∃b,p= .bool b:=by
 cases p with
 |bool b=>exact⟨b,rfl⟩
 |_=>cases h
def pg {ts:List PTy}{p:PV}(h:oq (.lst ts) p):∃rows,p= .lst rows:=by
 cases p with
 |lst rows=>exact⟨rows,rfl⟩
 |_=>cases h
def bi {ts:List PTy}{rows:List (List PV)}(h:oq (.lst ts) (.lst rows)):rows.length<=maxLen/\ ∀r∈rows,bF ts r:=h
def kN :∀{ts:List PTy}{ps:List PV},bF ts ps->ps.length=ts.length
 |[],ps,h=>by rw[fv h];rfl
 |t::ts,ps,h=>by
  obtain⟨p,r,rfl,_,h2⟩:=ee h
  simp[kN h2]
def zb :∀{rows:List (List PV)}{r:List PV},r∈rows->eN r<=bI rows
 |a::rows,r,h=>by
  rcases ZL.1 h with rfl|h
  ·simp only[bI];omega
  ·have:=zb h
   simp only[bI];omega
def lY (rows:List (List PV)):sz (.lst rows)=rows.length+bI rows:=by simp only[sz]
def Wr {rows:List (List PV)}{r:List PV}(m:r∈rows)(h:sz (.lst rows)<=1048576):eN r<=1048576:=by
 have:=zb m
 rw[lY]at h
 omega
def Qt {t:PTy}:∀{rows:List (List PV)},(∀r∈rows,bF [t] r)->∃qs:List PV,rows=qs.map fun q=>[q]
 |[],_=>⟨[],rfl⟩
 |a::rows,h=>by
  obtain⟨qs,rfl⟩:=Qt (fun r m=>h r (Za1 _ m))
  obtain⟨p,r,rfl,_,h2⟩:=ee (h a (Zb2))
  obtain rfl:=fv h2
  exact⟨p::qs,rfl⟩
def PTy.cg :PTy->Bool
 | .int _=>true
 | .str=>true
 |_=>false
def Wn {t:PTy}{qs:List PV}(ht:t.cg=true)(h:∀r∈(qs.map fun q=>[q]),bF [t] r):∀q∈qs,q.plain=true:=by
 intro q m
 have:=(h [q] (V'.2 ⟨q,m,rfl⟩)).1
 cases t with
 |int k=>obtain⟨n,rfl⟩:=mp this;rfl
 |str=>obtain⟨n,rfl⟩:=lu this;rfl
 |_=>cases ht
def PTy.small :PTy->Bool
 | .int _=>true
 | .bool=>true
 |_=>false
def Ho :∀{ts:List PTy}{ps:List PV},ts.all PTy.small=true->bF ts ps->eN ps=0
 |[],ps,_,h=>by rw[fv h];simp only[eN]
 |t::ts,ps,ha,h=>by
  simp only[Zq,Zh]at ha
  obtain⟨p,r,rfl,h1,h2⟩:=ee h
  have:=Ho ha.2 h2
  cases t with
  |int k=>obtain⟨n,rfl⟩:=mp h1;simp only[eN,sz,this]
  |bool=>obtain⟨n,rfl⟩:=ma h1;simp only[eN,sz,this]
  |_=>cases ha.1
def Ds {ts:List PTy}(ha:ts.all PTy.small=true):∀{rows:List (List PV)},(∀r∈rows,bF ts r)->bI rows=0
 |[],_=>by simp only[bI]
 |r::rows,h=>by
  simp only[bI,Ho ha (h r (Zb2)),Ds ha (fun r m=>h r (Za1 _ m))]
def U3 {left:Int}{n:Nat}(h:left<n):less left n= -1:=by unfold less;rw[if_pos h]
def TK {left l:Int}{n:Nat}(h0:0<=left)(q:less left n=l)(hn:¬l<0):l=left-n/\ (n:Int)<=left:=by
 unfold less at q
 split at q
 ·omega
 ·omega
end Gi
