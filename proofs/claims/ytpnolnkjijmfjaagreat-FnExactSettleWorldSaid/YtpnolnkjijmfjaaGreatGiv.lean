/- Of this proof. -/
import Derived.Test.YtpnolnkjijmfjaaGreatGit
set_option linter.all false
namespace Gi
open Go Go.RowKit
section
variable {Φ:Nat->Option AFn}{ext:Nat->List V->Option V}
def UU {left:Int}{a:Nat}(h:less left a<0)(h0:0<=left):less left a= -1:=by unfold less at*;split at h;rename_i h1;rw[if_pos h1];omega
def UV {left:Int}{a:Nat}(h0:0<=left):less left a<=left:=by unfold less;split<;>omega
def GN {rows:List (List PV)}{k:Nat}(h:k<rows.length):dR (rows.drop k)=gV (rows[k])+dR (rows.drop (k+1)):=by rw[QS h,dR]
def ab1 {z kx:Nat}{rows:List (List PV)}(hz:∀r∈rows,r.length=z)(hlen:rows.length<=maxLen)(ao:∀r∈rows,Im Φ ext kx r):∀(m k:Nat),k+m=rows.length->∀(left:Int),0<=left->left<=1048576->
 ∀(u2 u3 u4 u6 u7 u8 u9 a1 au aj ak al ah a5 a6 a7 a8 aa ab ad ae af ag av:V)(h:List Q0),
  ∃e t',cS (cD (cf Φ ext) cS (yz z kx)) ⟨[eW rows,ce .i64 left,u2,u3,u4,ce .i64 k,u6,u7,u8,u9,a1,au,aj,ak,al,ah,a5,a6,a7,a8,aa,ab,ad,ae,af,ag,av],h⟩=some (e,⟨t',h⟩)/\ t'.length=27/\
   ((e= .exit 0/\ 0<=less left (dR (rows.drop k))/\ t'[1]? =some (ce .i64 (less left (dR (rows.drop k))))) \/(e= .ret/\ less left (dR (rows.drop k))= -1/\ t'[4]? =some (ce .i64 (-1)))):=by
 intro m;induction m with
 |zero=>
  intro k hk left h0 h1 u2 u3 u4 u6 u7 u8 u9 a1 au aj ak al ah a5 a6 a7 a8 aa ab ad ae af ag av h;have aw:k=rows.length:=by omega
  subst aw;have aB:less left (dR (rows.drop rows.length))=left:=by simp[dR,less];omega
  rw[aB,zJ];refine⟨.exit 0,[eW rows,ce .i64 left,u2,u3,u4,ce .i64 rows.length,u6,u7,u8,u9,a1,au,ce .i64 rows.length,eW rows,ce .i64 rows.length,cL false,a5,a6,a7,a8,aa,ab,ad,ae,af,ag,av],?_,rfl, .inl ⟨rfl,h0,rfl⟩⟩;simp[yz,Mz,cD,cj,cT,dG,dY,Opd.ev,put,asList,L.view,bin,ft,isBool]
 |succ m ih=>
  intro k hk left h0 h1 u2 u3 u4 u6 u7 u8 u9 a1 au aj ak al ah a5 a6 a7 a8 aa ab ad ae af ag av h;have hlt:k<rows.length:=by omega
  have an:(rows[k]).length=z:=hz _ (Zf hlt);have c1:=ao _ (Zf hlt) left h0 h1;have hw:=oA (k:=k) (by unfold maxLen at hlen;omega);have ai:ja true z 0 ((rows[k]).map L.pv)=some (.agg ((rows[k]).map .pv)):=by simp[ja,an,Zs (show((rows[k]).map L.pv).length<=z by simp[an])]
  have a2:((k+1:Nat):Int)=(k:Int)+1:=by omega
  rw[GN hlt];by_cases aq:less left (gV rows[k])<0;have e1:=Ry (b:=dR (rows.drop (k+1))) h0 aq;have e2:=UU aq h0;rw[e1];rw[e2]at c1;refine⟨.ret,[eW rows,ce .i64 (-1),u2,u3,ce .i64 (-1),ce .i64 k,u6,u7,u8,u9,a1,au,ce .i64 k,eW rows,ce .i64 rows.length,cL true,a5,a6,eW rows,ce .i64 k, .one (.ip rows[k] 0), .agg ((rows[k]).map .pv),ce .i64 left,ce .i64 (-1),ce .i64 (-1),cL true,av],?_,rfl, .inr ⟨rfl,rfl,rfl⟩⟩;refine mf ?_ (by simp);simp[yz,Mz,NP,uo,cD,cj,cT,dG,dY,Opd.ev,put,asList,L.view,bin,ft,isBool,isInt,hlt,cN,an,dP,ai,cy,vS,V.view,c1,V.flat,L.flat,fe,fv];have aA:0<=less left (gV rows[k]):=by omega
  obtain⟨e,t',g1,g2,g3⟩:=ih (k+1) (by omega) (less left (gV rows[k])) aA (Int.le_trans (UV h0) h1) u2 u3 u4 u6 u7 u8 u9 a1 au (ce .i64 k) (eW rows) (ce .i64 rows.length) (cL true) (ce .i64 k) (ce .i64 ((k:Int)+1)) (eW rows) (ce .i64 k) (.one (.ip rows[k] 0)) (.agg ((rows[k]).map .pv)) (ce .i64 left) (ce .i64 (less left (gV rows[k]))) (ce .i64 (less left (gV rows[k]))) (cL false) av h;rw[xx aA]at g3;refine⟨e,t',(jR ?_).trans g1,g2,g3⟩;rw[a2];simp[yz,Mz,NP,uo,cD,cj,cT,dG,dY,Opd.ev,put,asList,L.view,bin,ft,isBool,isInt,hlt,cN,an,dP,ai,cy,vS,V.view,c1,V.flat,L.flat,fe,fv,hw,aq]
def aeC {k z kx:Nat}{rows:List (List PV)}(hk:Φ k=some (OL z kx))(hz:∀r∈rows,r.length=z)(hlen:rows.length<=maxLen)(ao:∀r∈rows,Im Φ ext kx r){left:Int}(h0:0<=left)(h1:left<=1048576):
 cf Φ ext k [eW rows,ce .i64 left]=some (ce .i64 (less left (rows.length+dR rows))):=by
 refine j0 hk ?_;have hw:IntKind.i64.wrap (left-rows.length)=left-rows.length:=by unfold maxLen at hlen;rw[IntKind.wrap_i64];omega
 by_cases hl:left<rows.length
 ·have hn:left-(rows.length:Int)<0:=by omega
  have e:less left (rows.length+dR rows)= -1:=by unfold less;rw[if_pos (by omega)]
  rw[e];generalize hF:cD (cf Φ ext) cS (yz z kx)=F;simp[OL,CE,uo,start,iN,cD,hF,cj,cT,dG,dY,Opd.ev,put,asList,L.view,bin,ft,isBool,hw,hn,done,dd,cu,fb,eh,comp,cU,dS,cz,V.cells]
 ·have hn:¬left-(rows.length:Int)<0:=by omega
  have hle:left-(rows.length:Int)=less left rows.length:=by unfold less;rw[if_neg hl]
  obtain⟨e,t',g1,g2,g3⟩:=ab1 (Φ:=Φ) (ext:=ext) hz hlen ao rows.length 0 (by omega) (left-rows.length) (by omega) (by omega) (.b8 []) (.b8 []) (ce .i64 0) (ce .i64 left) (eW rows) (ce .i64 rows.length) (ce .i64 (left-rows.length)) (ce .i64 (left-rows.length)) (cL false) (.b8 []) (.b8 []) (.b8 []) (.b8 []) (.b8 []) (.b8 []) (.b8 []) (.b8 []) (.b8 []) (.b8 []) (.b8 []) (.b8 []) (.b8 []) (.b8 []) (.b8 []) [];simp only[List.drop_zero,show((0:Nat):Int)=0 from rfl]at g1 g3;have aC:less (left-rows.length) (dR rows)=less left (rows.length+dR rows):=by rw[hle];exact xx (by rw[<-hle];omega)
  rw[aC]at g3;generalize hF:cD (cf Φ ext) cS (yz z kx)=F at g1;rcases g3 with⟨rfl,g4,g5⟩|⟨rfl,g4,g5⟩
  ·obtain⟨_,g6⟩:=Zb.1 g5;simp[OL,CE,uo,start,iN,cD,hF,cj,cT,dG,dY,Opd.ev,put,asList,L.view,bin,ft,isBool,hw,hn,done,dd,cu,fb,eh,comp,cU,dS,cz,V.cells,g1,g2,g6]
  ·obtain⟨_,g6⟩:=Zb.1 g5;simp[OL,CE,uo,start,iN,cD,hF,cj,cT,dG,dY,Opd.ev,put,asList,L.view,bin,ft,isBool,hw,hn,done,dd,cu,fb,eh,comp,cU,dS,cz,V.cells,g1,g2,g6,g4]
def abG :Q7:= .seq (.region [⟨some 4, .mv (.pv (.bool false)),none⟩]) .ret
def jf (z kx:Nat):Q7:= .seq (Mz 5 0 11) (.seq (.block 1 (.seq (.region [⟨some 17, .mv (.tmp 0),none⟩,⟨some 18, .mv (.tmp 5),none⟩,⟨some 19, .bH z (.tmp 17) (.tmp 18),none⟩,⟨some 20, .load true z (.tmp 19),none⟩,⟨some 21, .mv (.tmp 1),none⟩,⟨some 22, .mv (.tmp 5),none⟩,⟨some 23, .bH z (.tmp 21) (.tmp 22),none⟩,⟨some 24, .load true z (.tmp 23),none⟩,⟨some 25, .call kx [.tmp 20, .tmp 24] true true,none⟩,⟨some 26, .un .not (.tmp 25),none⟩]) (.cond (.tmp 26) abG .skip))) (NP 5 15))
def uk :Q7:= .seq (Mz 5 0 11) (.seq (.block 1 (.seq (.region [⟨some 17, .mv (.tmp 0),none⟩,⟨some 18, .mv (.tmp 5),none⟩,⟨some 19, .bH 1 (.tmp 17) (.tmp 18),none⟩,⟨some 20, .load false 1 (.tmp 19),none⟩,⟨some 21, .mv (.tmp 1),none⟩,⟨some 22, .mv (.tmp 5),none⟩,⟨some 23, .bH 1 (.tmp 21) (.tmp 22),none⟩,⟨some 24, .load false 1 (.tmp 23),none⟩,⟨some 25, .bin .neq (.tmp 20) (.tmp 24),none⟩]) (.cond (.tmp 25) abG .skip))) (NP 5 15))
def tK (nt:Nat)(body:Q7):AFn:=⟨nt,[.tmp 4], .seq (.region [⟨some 4, .mv (.pv (.bool false)),none⟩]) (.seq (.seq (.region [⟨some 6, .mv (.tmp 0),none⟩,⟨some 7, .len (.tmp 6),none⟩,⟨some 8, .mv (.tmp 1),none⟩,⟨some 9, .len (.tmp 8),none⟩,⟨some 10, .bin .neq (.tmp 7) (.tmp 9),none⟩]) (.cond (.tmp 10) abG .skip)) (.seq (.seq (.region [⟨some 5, .mv (.pv (.int .i64 0)),none⟩]) (.block 0 (.loop body))) (.seq (.region [⟨some 4, .mv (.pv (.bool true)),none⟩]) .ret)))⟩
def aa4 {z kx:Nat}{rows:List (List PV)}(hz:∀r∈rows,r.length=z)(hlen:rows.length<=maxLen)(ao:∀r∈rows,cf Φ ext kx [.agg (r.map .pv), .agg (r.map .pv)]=some (cL true)):∀(m k:Nat),k+m=rows.length->
 ∀(u2 u3 u4 u6 u7 u8 u9 a1 ar aj ak al ah a5 a6 a7 a8 aa ab ad ae af ag ax:V)(h:List Q0),
  ∃t',cS (cD (cf Φ ext) cS (jf z kx)) ⟨[eW rows,eW rows,u2,u3,u4,ce .i64 k,u6,u7,u8,u9,a1,ar,aj,ak,al,ah,a5,a6,a7,a8,aa,ab,ad,ae,af,ag,ax],h⟩=some (.exit 0,⟨t',h⟩)/\ t'.length=27:=by
 intro m;induction m with
 |zero=>
  intro k hk u2 u3 u4 u6 u7 u8 u9 a1 ar aj ak al ah a5 a6 a7 a8 aa ab ad ae af ag ax h;have aw:k=rows.length:=by omega
  subst aw;refine⟨[eW rows,eW rows,u2,u3,u4,ce .i64 rows.length,u6,u7,u8,u9,a1,ce .i64 rows.length,eW rows,ce .i64 rows.length,cL false,ah,a5,a6,a7,a8,aa,ab,ad,ae,af,ag,ax],mf ?_ (by simp),rfl⟩;simp[jf,Mz,cD,cj,cT,dG,dY,Opd.ev,put,asList,L.view,bin,ft,isBool]
 |succ m ih=>
  intro k hk u2 u3 u4 u6 u7 u8 u9 a1 ar aj ak al ah a5 a6 a7 a8 aa ab ad ae af ag ax h;have hlt:k<rows.length:=by omega
  have an:(rows[k]).length=z:=hz _ (Zf hlt);have c1:=ao _ (Zf hlt);have hw:=oA (k:=k) (by unfold maxLen at hlen;omega);have ai:ja true z 0 ((rows[k]).map L.pv)=some (.agg ((rows[k]).map .pv)):=by simp[ja,an,Zs (show((rows[k]).map L.pv).length<=z by simp[an])]
  have a2:((k+1:Nat):Int)=(k:Int)+1:=by omega
  obtain⟨t',g1,g2⟩:=ih (k+1) (by omega) u2 u3 u4 u6 u7 u8 u9 a1 (ce .i64 k) (eW rows) (ce .i64 rows.length) (cL true) (ce .i64 k) (ce .i64 ((k:Int)+1)) (eW rows) (ce .i64 k) (.one (.ip rows[k] 0)) (.agg ((rows[k]).map .pv)) (eW rows) (ce .i64 k) (.one (.ip rows[k] 0)) (.agg ((rows[k]).map .pv)) (cL true) (cL false) h;refine⟨t',(jR ?_).trans g1,g2⟩;rw[a2];simp[jf,Mz,NP,cD,cj,cT,dG,dY,Opd.ev,put,asList,L.view,bin,ft,un,isBool,isInt,hlt,cN,an,dP,ai,cy,vS,V.view,c1,V.flat,L.flat,fe,fv,hw]
def aec {k z kx:Nat}{rows:List (List PV)}(hk:Φ k=some (tK 27 (jf z kx)))(hz:∀r∈rows,r.length=z)(hlen:rows.length<=maxLen)(ao:∀r∈rows,cf Φ ext kx [.agg (r.map .pv), .agg (r.map .pv)]=some (cL true)):
 cf Φ ext k [eW rows,eW rows]=some (cL true):=by refine j0 hk ?_;obtain⟨t',g1,g2⟩:=aa4 (Φ:=Φ) (ext:=ext) hz hlen ao rows.length 0 (by omega) (.b8 []) (.b8 []) (cL false) (eW rows) (ce .i64 rows.length) (eW rows) (ce .i64 rows.length) (cL false) (.b8 []) (.b8 []) (.b8 []) (.b8 []) (.b8 []) (.b8 []) (.b8 []) (.b8 []) (.b8 []) (.b8 []) (.b8 []) (.b8 []) (.b8 []) (.b8 []) (.b8 []) (.b8 []) [];simp only[show((0:Nat):Int)=0 from rfl]at g1;generalize hF:cD (cf Φ ext) cS (jf z kx)=F at g1;simp[tK,abG,start,iN,cD,hF,cj,cT,dG,dY,Opd.ev,put,asList,L.view,bin,ft,isBool,done,dd,cu,fb,eh,comp,cU,dS,cz,V.cells,g1,g2]
def PV.plain :PV->Bool
 | .lst _=>false
 | .bool _=>false
 |_=>true
def J5 {p:PV}(h:p.plain=true):bin .neq (.one (.pv p)) (.one (.pv p))=some (cL false):=by
 cases p with
 |int k n=>simp[bin,ft]
 |str s=>simp[bin,mJ]
 |bool b=>simp[PV.plain]at h
 |lst es=>simp[PV.plain]at h
def aa3 {qs:List PV}(hp:∀q∈qs,q.plain=true)(hlen:qs.length<=maxLen):∀(m k:Nat),k+m=qs.length->
 ∀(u2 u3 u4 u6 u7 u8 u9 a1 ar aj ak al ah a5 a6 a7 a8 aa ab ad ae af ag:V)(h:List Q0),
  ∃t',cS (cD (cf Φ ext) cS uk) ⟨[eW (qs.map fun q=>[q]),eW (qs.map fun q=>[q]),u2,u3,u4,ce .i64 k,u6,u7,u8,u9,a1,ar,aj,ak,al,ah,a5,a6,a7,a8,aa,ab,ad,ae,af,ag],h⟩=some (.exit 0,⟨t',h⟩)/\ t'.length=26:=by
 intro m;induction m with
 |zero=>
  intro k hk u2 u3 u4 u6 u7 u8 u9 a1 ar aj ak al ah a5 a6 a7 a8 aa ab ad ae af ag h;have aw:k=qs.length:=by omega
  subst aw;refine⟨[eW (qs.map fun q=>[q]),eW (qs.map fun q=>[q]),u2,u3,u4,ce .i64 qs.length,u6,u7,u8,u9,a1,ce .i64 qs.length,eW (qs.map fun q=>[q]),ce .i64 qs.length,cL false,ah,a5,a6,a7,a8,aa,ab,ad,ae,af,ag],mf ?_ (by simp),rfl⟩;simp[uk,Mz,cD,cj,cT,dG,dY,Opd.ev,put,asList,L.view,bin,ft,isBool]
 |succ m ih=>
  intro k hk u2 u3 u4 u6 u7 u8 u9 a1 ar aj ak al ah a5 a6 a7 a8 aa ab ad ae af ag h;have hlt:k<qs.length:=by omega
  have hn:=J5 (hp _ (Zf hlt));have hw:=oA (k:=k) (by unfold maxLen at hlen;omega);have a2:((k+1:Nat):Int)=(k:Int)+1:=by omega
  have ai:ja false 1 0 [L.pv qs[k]]=some (.one (.pv qs[k])):=by simp[ja]
  have ay:bin .lss (ce .i64 k) (ce .i64 qs.length)=some (cL true):=by simp[bin,ft,hlt]
  have az:bin .add (ce .i64 k) (ce .i64 1)=some (ce .i64 ((k:Int)+1)):=by simp[bin,ft,hw]
  obtain⟨t',g1,g2⟩:=ih (k+1) (by omega) u2 u3 u4 u6 u7 u8 u9 a1 (ce .i64 k) (eW (qs.map fun q=>[q])) (ce .i64 qs.length) (cL true) (ce .i64 k) (ce .i64 ((k:Int)+1)) (eW (qs.map fun q=>[q])) (ce .i64 k) (.one (.ip [qs[k]] 0)) (.one (.pv qs[k])) (eW (qs.map fun q=>[q])) (ce .i64 k) (.one (.ip [qs[k]] 0)) (.one (.pv qs[k])) (cL false) h;refine⟨t',(jR ?_).trans g1,g2⟩;rw[a2];simp[uk,Mz,NP,cD,cj,cT,dG,dY,Opd.ev,put,asList,L.view,ay,az,isBool,isInt,hlt,cN,dP,ai,hn]
def aeb {k:Nat}{qs:List PV}(hk:Φ k=some (tK 26 uk))(hp:∀q∈qs,q.plain=true)(hlen:qs.length<=maxLen):cf Φ ext k [eW (qs.map fun q=>[q]),eW (qs.map fun q=>[q])]=some (cL true):=by refine j0 hk ?_;obtain⟨t',g1,g2⟩:=aa3 (Φ:=Φ) (ext:=ext) hp hlen qs.length 0 (by omega) (.b8 []) (.b8 []) (cL false) (eW (qs.map fun q=>[q])) (ce .i64 qs.length) (eW (qs.map fun q=>[q])) (ce .i64 qs.length) (cL false) (.b8 []) (.b8 []) (.b8 []) (.b8 []) (.b8 []) (.b8 []) (.b8 []) (.b8 []) (.b8 []) (.b8 []) (.b8 []) (.b8 []) (.b8 []) (.b8 []) (.b8 []) [];simp only[show((0:Nat):Int)=0 from rfl]at g1;generalize hF:cD (cf Φ ext) cS uk=F at g1;simp[tK,abG,start,iN,cD,hF,cj,cT,dG,dY,Opd.ev,put,asList,L.view,bin,ft,isBool,done,dd,cu,fb,eh,comp,cU,dS,cz,V.cells,g1,g2]
end
def ir {t:PTy}{ts:List PTy}{ps:List PV}(h:dX (t::ts) ps):∃p r,ps=p::r/\ mY t p/\ dX ts r:=by
 cases ps with
 |nil=>cases h
 |cons p r=>exact⟨p,r,rfl,h.1,h.2⟩
def jT {ps:List PV}(h:dX [] ps):ps=[]:=by
 cases ps with
 |nil=>rfl
 |cons p r=>cases h
def qu {k:IntKind}{p:PV}(h:mY (.int k) p):∃n,p= .int k n:=by
 cases p with
 |int k' n=>exact⟨n,by rw[h.1]⟩
 |_=>cases h
def qv {p:PV}(h:mY .str p):∃s,p= .str s:=by
 cases p with
 |str s=>exact⟨s,rfl⟩
 |_=>cases h
def pg {p:PV}(h:mY .bool p):∃b,p= .bool b:=by
 cases p with
 |bool b=>exact⟨b,rfl⟩
 |_=>cases h
def tk {ts:List PTy}{p:PV}(h:mY (.lst ts) p):∃rows,p= .lst rows:=by
 cases p with
 |lst rows=>exact⟨rows,rfl⟩
 |_=>cases h
def dM {ts:List PTy}{rows:List (List PV)}(h:mY (.lst ts) (.lst rows)):rows.length<=maxLen/\ ∀r∈rows,dX ts r:=h
def nT :∀{ts:List PTy}{ps:List PV},dX ts ps->ps.length=ts.length
 |[],ps,h=>by rw[jT h];rfl
 |t::ts,ps,h=>by obtain⟨p,r,rfl,_,h2⟩:=ir h;simp[nT h2]
def CG :∀{rows:List (List PV)}{r:List PV},r∈rows->gV r<=dR rows
 |a::rows,r,h=>by rcases ZG.1 h with rfl|h;simp only[dR];omega;have:=CG h;simp only[dR];omega
def mP (rows:List (List PV)):sz (.lst rows)=rows.length+dR rows:=by simp only[sz]
def aet {rows:List (List PV)}{r:List PV}(m:r∈rows)(h:sz (.lst rows)<=1048576):gV r<=1048576:=by have:=CG m;rw[mP]at h;omega
def Vi {t:PTy}:∀{rows:List (List PV)},(∀r∈rows,dX [t] r)->∃qs:List PV,rows=qs.map fun q=>[q]
 |[],_=>⟨[],rfl⟩
 |a::rows,h=>by obtain⟨qs,rfl⟩:=Vi (fun r m=>h r (Ym _ m));obtain⟨p,r,rfl,_,h2⟩:=ir (h a (Yw));obtain rfl:=jT h2;exact⟨p::qs,rfl⟩
def PTy.cr :PTy->Bool
 | .int _=>true
 | .str=>true
 |_=>false
def aep {t:PTy}{qs:List PV}(ht:t.cr=true)(h:∀r∈(qs.map fun q=>[q]),dX [t] r):∀q∈qs,q.plain=true:=by
 intro q m;have:=(h [q] (ZV.2 ⟨q,m,rfl⟩)).1;cases t with
 |int k=>obtain⟨n,rfl⟩:=qu this;rfl
 |str=>obtain⟨n,rfl⟩:=qv this;rfl
 |_=>cases ht
def PTy.small :PTy->Bool
 | .int _=>true
 | .bool=>true
 |_=>false
def KD :∀{ts:List PTy}{ps:List PV},ts.all PTy.small=true->dX ts ps->gV ps=0
 |[],ps,_,h=>by rw[jT h];simp only[gV]
 |t::ts,ps,ha,h=>by
  simp only[Zq,Zg]at ha;obtain⟨p,r,rfl,h1,h2⟩:=ir h;have:=KD ha.2 h2;cases t with
  |int k=>obtain⟨n,rfl⟩:=qu h1;simp only[gV,sz,this]
  |bool=>obtain⟨n,rfl⟩:=pg h1;simp only[gV,sz,this]
  |_=>cases ha.1
def GO {ts:List PTy}(ha:ts.all PTy.small=true):∀{rows:List (List PV)},(∀r∈rows,dX ts r)->dR rows=0
 |[],_=>by simp only[dR]
 |r::rows,h=>by simp only[dR,KD ha (h r (Yw)),GO ha (fun r m=>h r (Ym _ m))]
def acU {left:Int}{n:Nat}(h:left<n):less left n= -1:=by unfold less;rw[if_pos h]
def abp {left l:Int}{n:Nat}(h0:0<=left)(q:less left n=l)(hn:¬l<0):l=left-n/\ (n:Int)<=left:=by unfold less at q;split at q;omega;omega
end Gi
