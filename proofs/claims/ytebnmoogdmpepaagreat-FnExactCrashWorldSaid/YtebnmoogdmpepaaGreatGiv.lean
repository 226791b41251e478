/- Of this proof. -/
import Derived.Test.YtebnmoogdmpepaaGreatGit
set_option linter.unusedSimpArgs false
set_option linter.unusedVariables false
namespace Gi
open Go Go.RowKit
section
variable {Φ:Nat→Option AFn}{ext:Nat→List V→Option V}
theorem Oe {left:Int}{a:Nat}(h:less left a<0)(h0:0≤left):less left a= -1:=by
 unfold less at*
 split at h
 ·rename_i h1;rw[if_pos h1]
 ·omega
theorem Of {left:Int}{a:Nat}(h0:0≤left):less left a≤left:=by
 unfold less;split<;>omega
theorem Cd {rows:List (List PV)}{k:Nat}(h:k<rows.length):bI (rows.drop k)=fA (rows[k])+bI (rows.drop (k+1)):=by
 rw[List.drop_eq_getElem_cons h,bI]
theorem Sa {z kx:Nat}{rows:List (List PV)}(hz:∀r∈rows,r.length=z)(hlen:rows.length≤maxLen)(hcp:∀r∈rows,DE Φ ext kx r):∀(m k:Nat),k+m=rows.length→∀(left:Int),0≤left→left≤1048576→
 ∀(u2 u3 u4 u6 u7 u8 u9 u10 u11 x12 x13 x14 x15 x16 x17 x18 x19 x20 x21 x22 x23 x24 x25 u26:V)(h:List AObj),
  ∃e t',aB (aq (ah Φ ext) aB (tg z kx)) ⟨[ba rows,aa .i64 left,u2,u3,u4,aa .i64 k,u6,u7,u8,u9,u10,u11,x12,x13,x14,x15,x16,x17,x18,x19,x20,x21,x22,x23,x24,x25,u26],h⟩=some (e,⟨t',h⟩)∧t'.length=27∧
   ((e= .exit 0∧0≤less left (bI (rows.drop k))∧t'[1]? =some (aa .i64 (less left (bI (rows.drop k)))))∨(e= .ret∧less left (bI (rows.drop k))= -1∧t'[4]? =some (aa .i64 (-1)))):=by
 intro m
 induction m with
 |zero=>
  intro k hk left h0 h1 u2 u3 u4 u6 u7 u8 u9 u10 u11 x12 x13 x14 x15 x16 x17 x18 x19 x20 x21 x22 x23 x24 x25 u26 h
  have hk':k=rows.length:=by omega
  subst hk'
  have hl0:less left (bI (rows.drop rows.length))=left:=by simp[bI,less];omega
  rw[hl0,uJ]
  refine⟨.exit 0,[ba rows,aa .i64 left,u2,u3,u4,aa .i64 rows.length,u6,u7,u8,u9,u10,u11,aa .i64 rows.length,ba rows,aa .i64 rows.length,av false,x16,x17,x18,x19,x20,x21,x22,x23,x24,x25,u26],?_,rfl, .inl ⟨rfl,h0,rfl⟩⟩
  simp[tg,BS,aq,ai,az,aK,bj,Opd.ev,put,asList,L.view,bin,bV,isBool]
 |succ m ih=>
  intro k hk left h0 h1 u2 u3 u4 u6 u7 u8 u9 u10 u11 x12 x13 x14 x15 x16 x17 x18 x19 x20 x21 x22 x23 x24 x25 u26 h
  have hlt:k<rows.length:=by omega
  have hrz:(rows[k]).length=z:=hz _ (Zg hlt)
  have c1:=hcp _ (Zg hlt) left h0 h1
  have hw:=j4 (k:=k) (by unfold maxLen at hlen;omega)
  have hcut:gn true z 0 ((rows[k]).map L.pv)=some (.agg ((rows[k]).map .pv)):=by
   simp[gn,hrz,Zt (show((rows[k]).map L.pv).length≤z by simp[hrz])]
  have hcast:((k+1:Nat):Int)=(k:Int)+1:=by omega
  rw[Cd hlt]
  by_cases hneg:less left (fA rows[k])<0
  ·have e1:=K5 (b:=bI (rows.drop (k+1))) h0 hneg
   have e2:=Oe hneg h0
   rw[e1]
   rw[e2]at c1
   refine⟨.ret,[ba rows,aa .i64 (-1),u2,u3,aa .i64 (-1),aa .i64 k,u6,u7,u8,u9,u10,u11,aa .i64 k,ba rows,aa .i64 rows.length,av true,x16,x17,ba rows,aa .i64 k, .one (.ip rows[k] 0), .agg ((rows[k]).map .pv),aa .i64 left,aa .i64 (-1),aa .i64 (-1),av true,u26],?_,rfl, .inr ⟨rfl,rfl,rfl⟩⟩
   refine iO ?_ (by simp)
   simp[tg,BS,IZ,pe,aq,ai,az,aK,bj,Opd.ev,put,asList,L.view,bin,bV,isBool,isInt,hlt,aG,hrz,bo,hcut,am,qt,V.view,c1,V.flat,L.flat,dO,di]
  ·have hge:0≤less left (fA rows[k]):=by omega
   obtain⟨e,t',g1,g2,g3⟩:=ih (k+1) (by omega) (less left (fA rows[k])) hge (Int.le_trans (Of h0) h1) u2 u3 u4 u6 u7 u8 u9 u10 u11 (aa .i64 k) (ba rows) (aa .i64 rows.length) (av true) (aa .i64 k) (aa .i64 ((k:Int)+1)) (ba rows) (aa .i64 k) (.one (.ip rows[k] 0)) (.agg ((rows[k]).map .pv)) (aa .i64 left) (aa .i64 (less left (fA rows[k]))) (aa .i64 (less left (fA rows[k]))) (av false) u26 h
   rw[sd hge]at g3
   refine⟨e,t',(f7 ?_).trans g1,g2,g3⟩
   rw[hcast]
   simp[tg,BS,IZ,pe,aq,ai,az,aK,bj,Opd.ev,put,asList,L.view,bin,bV,isBool,isInt,hlt,aG,hrz,bo,hcut,am,qt,V.view,c1,V.flat,L.flat,dO,di,hw,hneg]
theorem Ui {k z kx:Nat}{rows:List (List PV)}(hk:Φ k=some (Jx z kx))(hz:∀r∈rows,r.length=z)(hlen:rows.length≤maxLen)(hcp:∀r∈rows,DE Φ ext kx r){left:Int}(h0:0≤left)(h1:left≤1048576):
 ah Φ ext k [ba rows,aa .i64 left]=some (aa .i64 (less left (rows.length+bI rows))):=by
 refine fC hk ?_
 have hw:IntKind.i64.wrap (left-rows.length)=left-rows.length:=by unfold maxLen at hlen;rw[IntKind.wrap_i64];omega
 by_cases hl:left<rows.length
 ·have hn:left-(rows.length:Int)<0:=by omega
  have e:less left (rows.length+bI rows)= -1:=by unfold less;rw[if_pos (by omega)]
  rw[e]
  generalize hF:aq (ah Φ ext) aB (tg z kx)=F
  simp[Jx,xL,pe,start,fL,aq,hF,ai,az,aK,bj,Opd.ev,put,asList,L.view,bin,bV,isBool,hw,hn,done,aY,ar,bQ,bM,comp,aJ,bH,al,V.cells]
 ·have hn:¬left-(rows.length:Int)<0:=by omega
  have hle:left-(rows.length:Int)=less left rows.length:=by unfold less;rw[if_neg hl]
  obtain⟨e,t',g1,g2,g3⟩:=Sa (Φ:=Φ) (ext:=ext) hz hlen hcp rows.length 0 (by omega) (left-rows.length) (by omega) (by omega) (.tup []) (.tup []) (aa .i64 0) (aa .i64 left) (ba rows) (aa .i64 rows.length) (aa .i64 (left-rows.length)) (aa .i64 (left-rows.length)) (av false) (.tup []) (.tup []) (.tup []) (.tup []) (.tup []) (.tup []) (.tup []) (.tup []) (.tup []) (.tup []) (.tup []) (.tup []) (.tup []) (.tup []) (.tup []) []
  simp only[List.drop_zero,show((0:Nat):Int)=0 from rfl]at g1 g3
  have hls:less (left-rows.length) (bI rows)=less left (rows.length+bI rows):=by rw[hle];exact sd (by rw[←hle];omega)
  rw[hls]at g3
  generalize hF:aq (ah Φ ext) aB (tg z kx)=F at g1
  rcases g3 with⟨rfl,g4,g5⟩|⟨rfl,g4,g5⟩
  ·obtain⟨_,g6⟩:=Zb.1 g5
   simp[Jx,xL,pe,start,fL,aq,hF,ai,az,aK,bj,Opd.ev,put,asList,L.view,bin,bV,isBool,hw,hn,done,aY,ar,bQ,bM,comp,aJ,bH,al,V.cells,g1,g2,g6]
  ·obtain⟨_,g6⟩:=Zb.1 g5
   simp[Jx,xL,pe,start,fL,aq,hF,ai,az,aK,bj,Opd.ev,put,asList,L.view,bin,bV,isBool,hw,hn,done,aY,ar,bQ,bM,comp,aJ,bH,al,V.cells,g1,g2,g6,g4]
def RZ :ACode:= .seq (.region [⟨some 4, .mv (.pv (.bool false)),none⟩]) .ret
def fB (z kx:Nat):ACode:= .seq (BS 5 0 11) (.seq (.block 1 (.seq (.region [⟨some 17, .mv (.tmp 0),none⟩,⟨some 18, .mv (.tmp 5),none⟩,⟨some 19, .indexA z (.tmp 17) (.tmp 18),none⟩,⟨some 20, .load true z (.tmp 19),none⟩,⟨some 21, .mv (.tmp 1),none⟩,⟨some 22, .mv (.tmp 5),none⟩,⟨some 23, .indexA z (.tmp 21) (.tmp 22),none⟩,⟨some 24, .load true z (.tmp 23),none⟩,⟨some 25, .call kx [.tmp 20, .tmp 24] true true,none⟩,⟨some 26, .un .not (.tmp 25),none⟩]) (.cond (.tmp 26) RZ .skip))) (IZ 5 15))
def pa :ACode:= .seq (BS 5 0 11) (.seq (.block 1 (.seq (.region [⟨some 17, .mv (.tmp 0),none⟩,⟨some 18, .mv (.tmp 5),none⟩,⟨some 19, .indexA 1 (.tmp 17) (.tmp 18),none⟩,⟨some 20, .load false 1 (.tmp 19),none⟩,⟨some 21, .mv (.tmp 1),none⟩,⟨some 22, .mv (.tmp 5),none⟩,⟨some 23, .indexA 1 (.tmp 21) (.tmp 22),none⟩,⟨some 24, .load false 1 (.tmp 23),none⟩,⟨some 25, .bin .neq (.tmp 20) (.tmp 24),none⟩]) (.cond (.tmp 25) RZ .skip))) (IZ 5 15))
def ov (nt:Nat)(body:ACode):AFn:=⟨nt,[.tmp 4], .seq (.region [⟨some 4, .mv (.pv (.bool false)),none⟩]) (.seq (.seq (.region [⟨some 6, .mv (.tmp 0),none⟩,⟨some 7, .len (.tmp 6),none⟩,⟨some 8, .mv (.tmp 1),none⟩,⟨some 9, .len (.tmp 8),none⟩,⟨some 10, .bin .neq (.tmp 7) (.tmp 9),none⟩]) (.cond (.tmp 10) RZ .skip)) (.seq (.seq (.region [⟨some 5, .mv (.pv (.int .i64 0)),none⟩]) (.block 0 (.loop body))) (.seq (.region [⟨some 4, .mv (.pv (.bool true)),none⟩]) .ret)))⟩
theorem Ri {z kx:Nat}{rows:List (List PV)}(hz:∀r∈rows,r.length=z)(hlen:rows.length≤maxLen)(hcp:∀r∈rows,ah Φ ext kx [.agg (r.map .pv), .agg (r.map .pv)]=some (av true)):∀(m k:Nat),k+m=rows.length→
 ∀(u2 u3 u4 u6 u7 u8 u9 u10 x11 x12 x13 x14 x15 x16 x17 x18 x19 x20 x21 x22 x23 x24 x25 x26:V)(h:List AObj),
  ∃t',aB (aq (ah Φ ext) aB (fB z kx)) ⟨[ba rows,ba rows,u2,u3,u4,aa .i64 k,u6,u7,u8,u9,u10,x11,x12,x13,x14,x15,x16,x17,x18,x19,x20,x21,x22,x23,x24,x25,x26],h⟩=some (.exit 0,⟨t',h⟩)∧t'.length=27:=by
 intro m
 induction m with
 |zero=>
  intro k hk u2 u3 u4 u6 u7 u8 u9 u10 x11 x12 x13 x14 x15 x16 x17 x18 x19 x20 x21 x22 x23 x24 x25 x26 h
  have hk':k=rows.length:=by omega
  subst hk'
  refine⟨[ba rows,ba rows,u2,u3,u4,aa .i64 rows.length,u6,u7,u8,u9,u10,aa .i64 rows.length,ba rows,aa .i64 rows.length,av false,x15,x16,x17,x18,x19,x20,x21,x22,x23,x24,x25,x26],iO ?_ (by simp),rfl⟩
  simp[fB,BS,aq,ai,az,aK,bj,Opd.ev,put,asList,L.view,bin,bV,isBool]
 |succ m ih=>
  intro k hk u2 u3 u4 u6 u7 u8 u9 u10 x11 x12 x13 x14 x15 x16 x17 x18 x19 x20 x21 x22 x23 x24 x25 x26 h
  have hlt:k<rows.length:=by omega
  have hrz:(rows[k]).length=z:=hz _ (Zg hlt)
  have c1:=hcp _ (Zg hlt)
  have hw:=j4 (k:=k) (by unfold maxLen at hlen;omega)
  have hcut:gn true z 0 ((rows[k]).map L.pv)=some (.agg ((rows[k]).map .pv)):=by
   simp[gn,hrz,Zt (show((rows[k]).map L.pv).length≤z by simp[hrz])]
  have hcast:((k+1:Nat):Int)=(k:Int)+1:=by omega
  obtain⟨t',g1,g2⟩:=ih (k+1) (by omega) u2 u3 u4 u6 u7 u8 u9 u10 (aa .i64 k) (ba rows) (aa .i64 rows.length) (av true) (aa .i64 k) (aa .i64 ((k:Int)+1)) (ba rows) (aa .i64 k) (.one (.ip rows[k] 0)) (.agg ((rows[k]).map .pv)) (ba rows) (aa .i64 k) (.one (.ip rows[k] 0)) (.agg ((rows[k]).map .pv)) (av true) (av false) h
  refine⟨t',(f7 ?_).trans g1,g2⟩
  rw[hcast]
  simp[fB,BS,IZ,aq,ai,az,aK,bj,Opd.ev,put,asList,L.view,bin,bV,un,isBool,isInt,hlt,aG,hrz,bo,hcut,am,qt,V.view,c1,V.flat,L.flat,dO,di,hw]
theorem T2 {k z kx:Nat}{rows:List (List PV)}(hk:Φ k=some (ov 27 (fB z kx)))(hz:∀r∈rows,r.length=z)(hlen:rows.length≤maxLen)(hcp:∀r∈rows,ah Φ ext kx [.agg (r.map .pv), .agg (r.map .pv)]=some (av true)):
 ah Φ ext k [ba rows,ba rows]=some (av true):=by
 refine fC hk ?_
 obtain⟨t',g1,g2⟩:=Ri (Φ:=Φ) (ext:=ext) hz hlen hcp rows.length 0 (by omega) (.tup []) (.tup []) (av false) (ba rows) (aa .i64 rows.length) (ba rows) (aa .i64 rows.length) (av false) (.tup []) (.tup []) (.tup []) (.tup []) (.tup []) (.tup []) (.tup []) (.tup []) (.tup []) (.tup []) (.tup []) (.tup []) (.tup []) (.tup []) (.tup []) (.tup []) []
 simp only[show((0:Nat):Int)=0 from rfl]at g1
 generalize hF:aq (ah Φ ext) aB (fB z kx)=F at g1
 simp[ov,RZ,start,fL,aq,hF,ai,az,aK,bj,Opd.ev,put,asList,L.view,bin,bV,isBool,done,aY,ar,bQ,bM,comp,aJ,bH,al,V.cells,g1,g2]
def PV.plain :PV→Bool
 | .lst _=>false
 | .bool _=>false
 |_=>true
theorem Fv {p:PV}(h:p.plain=true):bin .neq (.one (.pv p)) (.one (.pv p))=some (av false):=by
 cases p with
 |int k n=>simp[bin,bV]
 |str s=>simp[bin,je]
 |bool b=>simp[PV.plain]at h
 |lst es=>simp[PV.plain]at h
theorem Rh {qs:List PV}(hp:∀q∈qs,q.plain=true)(hlen:qs.length≤maxLen):∀(m k:Nat),k+m=qs.length→
 ∀(u2 u3 u4 u6 u7 u8 u9 u10 x11 x12 x13 x14 x15 x16 x17 x18 x19 x20 x21 x22 x23 x24 x25:V)(h:List AObj),
  ∃t',aB (aq (ah Φ ext) aB pa) ⟨[ba (qs.map fun q=>[q]),ba (qs.map fun q=>[q]),u2,u3,u4,aa .i64 k,u6,u7,u8,u9,u10,x11,x12,x13,x14,x15,x16,x17,x18,x19,x20,x21,x22,x23,x24,x25],h⟩=some (.exit 0,⟨t',h⟩)∧t'.length=26:=by
 intro m
 induction m with
 |zero=>
  intro k hk u2 u3 u4 u6 u7 u8 u9 u10 x11 x12 x13 x14 x15 x16 x17 x18 x19 x20 x21 x22 x23 x24 x25 h
  have hk':k=qs.length:=by omega
  subst hk'
  refine⟨[ba (qs.map fun q=>[q]),ba (qs.map fun q=>[q]),u2,u3,u4,aa .i64 qs.length,u6,u7,u8,u9,u10,aa .i64 qs.length,ba (qs.map fun q=>[q]),aa .i64 qs.length,av false,x15,x16,x17,x18,x19,x20,x21,x22,x23,x24,x25],iO ?_ (by simp),rfl⟩
  simp[pa,BS,aq,ai,az,aK,bj,Opd.ev,put,asList,L.view,bin,bV,isBool]
 |succ m ih=>
  intro k hk u2 u3 u4 u6 u7 u8 u9 u10 x11 x12 x13 x14 x15 x16 x17 x18 x19 x20 x21 x22 x23 x24 x25 h
  have hlt:k<qs.length:=by omega
  have hn:=Fv (hp _ (Zg hlt))
  have hw:=j4 (k:=k) (by unfold maxLen at hlen;omega)
  have hcast:((k+1:Nat):Int)=(k:Int)+1:=by omega
  have hcut:gn false 1 0 [L.pv qs[k]]=some (.one (.pv qs[k])):=by simp[gn]
  have hlss:bin .lss (aa .i64 k) (aa .i64 qs.length)=some (av true):=by simp[bin,bV,hlt]
  have hadd:bin .add (aa .i64 k) (aa .i64 1)=some (aa .i64 ((k:Int)+1)):=by simp[bin,bV,hw]
  obtain⟨t',g1,g2⟩:=ih (k+1) (by omega) u2 u3 u4 u6 u7 u8 u9 u10 (aa .i64 k) (ba (qs.map fun q=>[q])) (aa .i64 qs.length) (av true) (aa .i64 k) (aa .i64 ((k:Int)+1)) (ba (qs.map fun q=>[q])) (aa .i64 k) (.one (.ip [qs[k]] 0)) (.one (.pv qs[k])) (ba (qs.map fun q=>[q])) (aa .i64 k) (.one (.ip [qs[k]] 0)) (.one (.pv qs[k])) (av false) h
  refine⟨t',(f7 ?_).trans g1,g2⟩
  rw[hcast]
  simp[pa,BS,IZ,aq,ai,az,aK,bj,Opd.ev,put,asList,L.view,hlss,hadd,isBool,isInt,hlt,aG,bo,hcut,hn]
theorem T1 {k:Nat}{qs:List PV}(hk:Φ k=some (ov 26 pa))(hp:∀q∈qs,q.plain=true)(hlen:qs.length≤maxLen):ah Φ ext k [ba (qs.map fun q=>[q]),ba (qs.map fun q=>[q])]=some (av true):=by
 refine fC hk ?_
 obtain⟨t',g1,g2⟩:=Rh (Φ:=Φ) (ext:=ext) hp hlen qs.length 0 (by omega) (.tup []) (.tup []) (av false) (ba (qs.map fun q=>[q])) (aa .i64 qs.length) (ba (qs.map fun q=>[q])) (aa .i64 qs.length) (av false) (.tup []) (.tup []) (.tup []) (.tup []) (.tup []) (.tup []) (.tup []) (.tup []) (.tup []) (.tup []) (.tup []) (.tup []) (.tup []) (.tup []) (.tup []) []
 simp only[show((0:Nat):Int)=0 from rfl]at g1
 generalize hF:aq (ah Φ ext) aB pa=F at g1
 simp[ov,RZ,start,fL,aq,hF,ai,az,aK,bj,Opd.ev,put,asList,L.view,bin,bV,isBool,done,aY,ar,bQ,bM,comp,aJ,bH,al,V.cells,g1,g2]
end
theorem eA {t:PTy}{ts:List PTy}{ps:List PV}(h:bi (t::ts) ps):∃p r,ps=p::r∧nQ t p∧bi ts r:=by
 cases ps with
 |nil=>cases h
 |cons p r=>exact⟨p,r,rfl,h.1,h.2⟩
theorem fR {ps:List PV}(h:bi [] ps):ps=[]:=by
 cases ps with
 |nil=>rfl
 |cons p r=>cases h
theorem ma {k:IntKind}{p:PV}(h:nQ (.int k) p):∃n,p= .int k n:=by
 cases p with
 |int k' n=>exact⟨n,by rw[h.1]⟩
 |_=>cases h
theorem mb {p:PV}(h:nQ .str p):∃s,p= .str s:=by
 cases p with
 |str s=>exact⟨s,rfl⟩
 |_=>cases h
theorem kL {p:PV}(h:nQ .bool p):∃b,p= .bool b:=by
 cases p with
 |bool b=>exact⟨b,rfl⟩
 |_=>cases h
theorem nR {ts:List PTy}{p:PV}(h:nQ (.lst ts) p):∃rows,p= .lst rows:=by
 cases p with
 |lst rows=>exact⟨rows,rfl⟩
 |_=>cases h
theorem aL {ts:List PTy}{rows:List (List PV)}(h:nQ (.lst ts) (.lst rows)):rows.length≤maxLen∧∀r∈rows,bi ts r:=h
theorem jM :∀{ts:List PTy}{ps:List PV},bi ts ps→ps.length=ts.length
 |[],ps,h=>by rw[fR h];rfl
 |t::ts,ps,h=>by
  obtain⟨p,r,rfl,_,h2⟩:=eA h
  simp[jM h2]
theorem F4 :∀{rows:List (List PV)}{r:List PV},r∈rows→fA r≤bI rows
 |a::rows,r,h=>by
  rcases Yh.1 h with rfl|h
  ·simp only[bI];omega
  ·have:=F4 h
   simp only[bI];omega
theorem ik (rows:List (List PV)):sz (.lst rows)=rows.length+bI rows:=by simp only[sz]
theorem Ue {rows:List (List PV)}{r:List PV}(m:r∈rows)(h:sz (.lst rows)≤1048576):fA r≤1048576:=by
 have:=F4 m
 rw[ik]at h
 omega
theorem OE {t:PTy}:∀{rows:List (List PV)},(∀r∈rows,bi [t] r)→∃qs:List PV,rows=qs.map fun q=>[q]
 |[],_=>⟨[],rfl⟩
 |a::rows,h=>by
  obtain⟨qs,rfl⟩:=OE (fun r m=>h r (Y5 _ m))
  obtain⟨p,r,rfl,_,h2⟩:=eA (h a (List.mem_cons_self))
  obtain rfl:=fR h2
  exact⟨p::qs,rfl⟩
def PTy.easy :PTy→Bool
 | .int _=>true
 | .str=>true
 |_=>false
theorem Uc {t:PTy}{qs:List PV}(ht:t.easy=true)(h:∀r∈(qs.map fun q=>[q]),bi [t] r):∀q∈qs,q.plain=true:=by
 intro q m
 have:=(h [q] (Yo.2 ⟨q,m,rfl⟩)).1
 cases t with
 |int k=>obtain⟨n,rfl⟩:=ma this;rfl
 |str=>obtain⟨n,rfl⟩:=mb this;rfl
 |_=>cases ht
def PTy.small :PTy→Bool
 | .int _=>true
 | .bool=>true
 |_=>false
theorem FY :∀{ts:List PTy}{ps:List PV},ts.all PTy.small=true→bi ts ps→fA ps=0
 |[],ps,_,h=>by rw[fR h];simp only[fA]
 |t::ts,ps,ha,h=>by
  simp only[Zq,Zm]at ha
  obtain⟨p,r,rfl,h1,h2⟩:=eA h
  have:=FY ha.2 h2
  cases t with
  |int k=>obtain⟨n,rfl⟩:=ma h1;simp only[fA,sz,this]
  |bool=>obtain⟨n,rfl⟩:=kL h1;simp only[fA,sz,this]
  |_=>cases ha.1
theorem Ce {ts:List PTy}(ha:ts.all PTy.small=true):∀{rows:List (List PV)},(∀r∈rows,bi ts r)→bI rows=0
 |[],_=>by simp only[bI]
 |r::rows,h=>by
  simp only[bI,FY ha (h r (List.mem_cons_self)),Ce ha (fun r m=>h r (Y5 _ m))]
theorem S6 {left:Int}{n:Nat}(h:left<n):less left n= -1:=by unfold less;rw[if_pos h]
theorem Ry {left l:Int}{n:Nat}(h0:0≤left)(q:less left n=l)(hn:¬l<0):l=left-n∧(n:Int)≤left:=by
 unfold less at q
 split at q
 ·omega
 ·omega
end Gi
