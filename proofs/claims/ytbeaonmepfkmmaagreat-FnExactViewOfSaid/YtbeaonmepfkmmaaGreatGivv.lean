/- Of this proof. -/
import Derived.Test.YtbeaonmepfkmmaaGreatGitv
set_option linter.unusedSimpArgs false
set_option linter.unusedVariables false
namespace Gi
open Go Go.RowKit
section
variable {Φ:Nat→Option AFn}{ext:Nat→List V→Option V}
theorem NO {left:Int}{a:Nat}(h:less left a<0)(h0:0≤left):less left a= -1:=by
 unfold less at*
 split at h
 ·rename_i h1;rw[if_pos h1]
 ·omega
theorem NP {left:Int}{a:Nat}(h0:0≤left):less left a≤left:=by
 unfold less;split<;>omega
theorem A6 {rows:List (List PV)}{k:Nat}(h:k<rows.length):db (rows.drop k)=fC (rows[k])+db (rows.drop (k+1)):=by
 rw[List.drop_eq_getElem_cons h,db]
theorem Sb {z kx:Nat}{rows:List (List PV)}(hz:∀r∈rows,r.length=z)(hlen:rows.length≤maxLen)(hcp:∀r∈rows,Cu Φ ext kx r):∀(m k:Nat),k+m=rows.length→∀(left:Int),0≤left→left≤1048576→
 ∀(u2 u3 u4 u6 u7 u8 u9 u10 u11 x12 x13 x14 x15 x16 x17 x18 x19 x20 x21 x22 x23 x24 x25 u26:V)(h:List AObj),
  ∃e t',aG (aB (ah Φ ext) aG (ta z kx)) ⟨[aR rows,ae .i64 left,u2,u3,u4,ae .i64 k,u6,u7,u8,u9,u10,u11,x12,x13,x14,x15,x16,x17,x18,x19,x20,x21,x22,x23,x24,x25,u26],h⟩=some (e,⟨t',h⟩)∧t'.length=27∧
   ((e= .exit 0∧0≤less left (db (rows.drop k))∧t'[1]? =some (ae .i64 (less left (db (rows.drop k)))))∨(e= .ret∧less left (db (rows.drop k))= -1∧t'[4]? =some (ae .i64 (-1)))):=by
 intro m
 induction m with
 |zero=>
  intro k hk left h0 h1 u2 u3 u4 u6 u7 u8 u9 u10 u11 x12 x13 x14 x15 x16 x17 x18 x19 x20 x21 x22 x23 x24 x25 u26 h
  have hk':k=rows.length:=by omega
  subst hk'
  have hl0:less left (db (rows.drop rows.length))=left:=by simp[db,less];omega
  rw[hl0,tX]
  refine⟨.exit 0,[aR rows,ae .i64 left,u2,u3,u4,ae .i64 rows.length,u6,u7,u8,u9,u10,u11,ae .i64 rows.length,aR rows,ae .i64 rows.length,aF false,x16,x17,x18,x19,x20,x21,x22,x23,x24,x25,u26],?_,rfl, .inl ⟨rfl,h0,rfl⟩⟩
  simp[ta,GD,aB,am,aK,aW,bo,Opd.ev,put,asList,L.view,bin,cA,isBool]
 |succ m ih=>
  intro k hk left h0 h1 u2 u3 u4 u6 u7 u8 u9 u10 u11 x12 x13 x14 x15 x16 x17 x18 x19 x20 x21 x22 x23 x24 x25 u26 h
  have hlt:k<rows.length:=by omega
  have hrz:(rows[k]).length=z:=hz _ (Zf hlt)
  have c1:=hcp _ (Zf hlt) left h0 h1
  have hw:=jW (k:=k) (by unfold maxLen at hlen;omega)
  have hcut:fT true z 0 ((rows[k]).map L.pv)=some (.agg ((rows[k]).map .pv)):=by
   simp[fT,hrz,Zz (show((rows[k]).map L.pv).length≤z by simp[hrz])]
  have hcast:((k+1:Nat):Int)=(k:Int)+1:=by omega
  rw[A6 hlt]
  by_cases hneg:less left (fC rows[k])<0
  ·have e1:=Kl (b:=db (rows.drop (k+1))) h0 hneg
   have e2:=NO hneg h0
   rw[e1]
   rw[e2]at c1
   refine⟨.ret,[aR rows,ae .i64 (-1),u2,u3,ae .i64 (-1),ae .i64 k,u6,u7,u8,u9,u10,u11,ae .i64 k,aR rows,ae .i64 rows.length,aF true,x16,x17,aR rows,ae .i64 k, .one (.ip rows[k] 0), .agg ((rows[k]).map .pv),ae .i64 left,ae .i64 (-1),ae .i64 (-1),aF true,u26],?_,rfl, .inr ⟨rfl,rfl,rfl⟩⟩
   refine iG ?_ (by simp)
   simp[ta,GD,HW,rh,aB,am,aK,aW,bo,Opd.ev,put,asList,L.view,bin,cA,isBool,isInt,hlt,aI,hrz,bi,hcut,az,qq,V.view,c1,V.flat,L.flat,cT,cS]
  ·have hge:0≤less left (fC rows[k]):=by omega
   obtain⟨e,t',g1,g2,g3⟩:=ih (k+1) (by omega) (less left (fC rows[k])) hge (Int.le_trans (NP h0) h1) u2 u3 u4 u6 u7 u8 u9 u10 u11 (ae .i64 k) (aR rows) (ae .i64 rows.length) (aF true) (ae .i64 k) (ae .i64 ((k:Int)+1)) (aR rows) (ae .i64 k) (.one (.ip rows[k] 0)) (.agg ((rows[k]).map .pv)) (ae .i64 left) (ae .i64 (less left (fC rows[k]))) (ae .i64 (less left (fC rows[k]))) (aF false) u26 h
   rw[rZ hge]at g3
   refine⟨e,t',(fJ ?_).trans g1,g2,g3⟩
   rw[hcast]
   simp[ta,GD,HW,rh,aB,am,aK,aW,bo,Opd.ev,put,asList,L.view,bin,cA,isBool,isInt,hlt,aI,hrz,bi,hcut,az,qq,V.view,c1,V.flat,L.flat,cT,cS,hw,hneg]
theorem UA {k z kx:Nat}{rows:List (List PV)}(hk:Φ k=some (IK z kx))(hz:∀r∈rows,r.length=z)(hlen:rows.length≤maxLen)(hcp:∀r∈rows,Cu Φ ext kx r){left:Int}(h0:0≤left)(h1:left≤1048576):
 ah Φ ext k [aR rows,ae .i64 left]=some (ae .i64 (less left (rows.length+db rows))):=by
 refine fy hk ?_
 have hw:IntKind.i64.wrap (left-rows.length)=left-rows.length:=by unfold maxLen at hlen;rw[IntKind.wrap_i64];omega
 by_cases hl:left<rows.length
 ·have hn:left-(rows.length:Int)<0:=by omega
  have e:less left (rows.length+db rows)= -1:=by unfold less;rw[if_pos (by omega)]
  rw[e]
  generalize hF:aB (ah Φ ext) aG (ta z kx)=F
  simp[IK,wO,rh,start,f8,aB,hF,am,aK,aW,bo,Opd.ev,put,asList,L.view,bin,cA,isBool,hw,hn,done,aS,aA,cN,bJ,comp,aM,bA,ar,V.cells]
 ·have hn:¬left-(rows.length:Int)<0:=by omega
  have hle:left-(rows.length:Int)=less left rows.length:=by unfold less;rw[if_neg hl]
  obtain⟨e,t',g1,g2,g3⟩:=Sb (Φ:=Φ) (ext:=ext) hz hlen hcp rows.length 0 (by omega) (left-rows.length) (by omega) (by omega) (.tup []) (.tup []) (ae .i64 0) (ae .i64 left) (aR rows) (ae .i64 rows.length) (ae .i64 (left-rows.length)) (ae .i64 (left-rows.length)) (aF false) (.tup []) (.tup []) (.tup []) (.tup []) (.tup []) (.tup []) (.tup []) (.tup []) (.tup []) (.tup []) (.tup []) (.tup []) (.tup []) (.tup []) (.tup []) []
  simp only[List.drop_zero,show((0:Nat):Int)=0 from rfl]at g1 g3
  have hls:less (left-rows.length) (db rows)=less left (rows.length+db rows):=by rw[hle];exact rZ (by rw[←hle];omega)
  rw[hls]at g3
  generalize hF:aB (ah Φ ext) aG (ta z kx)=F at g1
  rcases g3 with⟨rfl,g4,g5⟩|⟨rfl,g4,g5⟩
  ·obtain⟨_,g6⟩:=Zb.1 g5
   simp[IK,wO,rh,start,f8,aB,hF,am,aK,aW,bo,Opd.ev,put,asList,L.view,bin,cA,isBool,hw,hn,done,aS,aA,cN,bJ,comp,aM,bA,ar,V.cells,g1,g2,g6]
  ·obtain⟨_,g6⟩:=Zb.1 g5
   simp[IK,wO,rh,start,f8,aB,hF,am,aK,aW,bo,Opd.ev,put,asList,L.view,bin,cA,isBool,hw,hn,done,aS,aA,cN,bJ,comp,aM,bA,ar,V.cells,g1,g2,g6,g4]
def RP :ACode:= .seq (.region [⟨some 4, .mv (.pv (.bool false)),none⟩]) .ret
def eX (z kx:Nat):ACode:= .seq (GD 5 0 11) (.seq (.block 1 (.seq (.region [⟨some 17, .mv (.tmp 0),none⟩,⟨some 18, .mv (.tmp 5),none⟩,⟨some 19, .indexA z (.tmp 17) (.tmp 18),none⟩,⟨some 20, .load true z (.tmp 19),none⟩,⟨some 21, .mv (.tmp 1),none⟩,⟨some 22, .mv (.tmp 5),none⟩,⟨some 23, .indexA z (.tmp 21) (.tmp 22),none⟩,⟨some 24, .load true z (.tmp 23),none⟩,⟨some 25, .call kx [.tmp 20, .tmp 24] true true,none⟩,⟨some 26, .un .not (.tmp 25),none⟩]) (.cond (.tmp 26) RP .skip))) (HW 5 15))
def oN :ACode:= .seq (GD 5 0 11) (.seq (.block 1 (.seq (.region [⟨some 17, .mv (.tmp 0),none⟩,⟨some 18, .mv (.tmp 5),none⟩,⟨some 19, .indexA 1 (.tmp 17) (.tmp 18),none⟩,⟨some 20, .load false 1 (.tmp 19),none⟩,⟨some 21, .mv (.tmp 1),none⟩,⟨some 22, .mv (.tmp 5),none⟩,⟨some 23, .indexA 1 (.tmp 21) (.tmp 22),none⟩,⟨some 24, .load false 1 (.tmp 23),none⟩,⟨some 25, .bin .neq (.tmp 20) (.tmp 24),none⟩]) (.cond (.tmp 25) RP .skip))) (HW 5 15))
def n6 (nt:Nat)(body:ACode):AFn:=⟨nt,[.tmp 4], .seq (.region [⟨some 4, .mv (.pv (.bool false)),none⟩]) (.seq (.seq (.region [⟨some 6, .mv (.tmp 0),none⟩,⟨some 7, .len (.tmp 6),none⟩,⟨some 8, .mv (.tmp 1),none⟩,⟨some 9, .len (.tmp 8),none⟩,⟨some 10, .bin .neq (.tmp 7) (.tmp 9),none⟩]) (.cond (.tmp 10) RP .skip)) (.seq (.seq (.region [⟨some 5, .mv (.pv (.int .i64 0)),none⟩]) (.block 0 (.loop body))) (.seq (.region [⟨some 4, .mv (.pv (.bool true)),none⟩]) .ret)))⟩
theorem Q3 {z kx:Nat}{rows:List (List PV)}(hz:∀r∈rows,r.length=z)(hlen:rows.length≤maxLen)(hcp:∀r∈rows,ah Φ ext kx [.agg (r.map .pv), .agg (r.map .pv)]=some (aF true)):∀(m k:Nat),k+m=rows.length→
 ∀(u2 u3 u4 u6 u7 u8 u9 u10 x11 x12 x13 x14 x15 x16 x17 x18 x19 x20 x21 x22 x23 x24 x25 x26:V)(h:List AObj),
  ∃t',aG (aB (ah Φ ext) aG (eX z kx)) ⟨[aR rows,aR rows,u2,u3,u4,ae .i64 k,u6,u7,u8,u9,u10,x11,x12,x13,x14,x15,x16,x17,x18,x19,x20,x21,x22,x23,x24,x25,x26],h⟩=some (.exit 0,⟨t',h⟩)∧t'.length=27:=by
 intro m
 induction m with
 |zero=>
  intro k hk u2 u3 u4 u6 u7 u8 u9 u10 x11 x12 x13 x14 x15 x16 x17 x18 x19 x20 x21 x22 x23 x24 x25 x26 h
  have hk':k=rows.length:=by omega
  subst hk'
  refine⟨[aR rows,aR rows,u2,u3,u4,ae .i64 rows.length,u6,u7,u8,u9,u10,ae .i64 rows.length,aR rows,ae .i64 rows.length,aF false,x15,x16,x17,x18,x19,x20,x21,x22,x23,x24,x25,x26],iG ?_ (by simp),rfl⟩
  simp[eX,GD,aB,am,aK,aW,bo,Opd.ev,put,asList,L.view,bin,cA,isBool]
 |succ m ih=>
  intro k hk u2 u3 u4 u6 u7 u8 u9 u10 x11 x12 x13 x14 x15 x16 x17 x18 x19 x20 x21 x22 x23 x24 x25 x26 h
  have hlt:k<rows.length:=by omega
  have hrz:(rows[k]).length=z:=hz _ (Zf hlt)
  have c1:=hcp _ (Zf hlt)
  have hw:=jW (k:=k) (by unfold maxLen at hlen;omega)
  have hcut:fT true z 0 ((rows[k]).map L.pv)=some (.agg ((rows[k]).map .pv)):=by
   simp[fT,hrz,Zz (show((rows[k]).map L.pv).length≤z by simp[hrz])]
  have hcast:((k+1:Nat):Int)=(k:Int)+1:=by omega
  obtain⟨t',g1,g2⟩:=ih (k+1) (by omega) u2 u3 u4 u6 u7 u8 u9 u10 (ae .i64 k) (aR rows) (ae .i64 rows.length) (aF true) (ae .i64 k) (ae .i64 ((k:Int)+1)) (aR rows) (ae .i64 k) (.one (.ip rows[k] 0)) (.agg ((rows[k]).map .pv)) (aR rows) (ae .i64 k) (.one (.ip rows[k] 0)) (.agg ((rows[k]).map .pv)) (aF true) (aF false) h
  refine⟨t',(fJ ?_).trans g1,g2⟩
  rw[hcast]
  simp[eX,GD,HW,aB,am,aK,aW,bo,Opd.ev,put,asList,L.view,bin,cA,un,isBool,isInt,hlt,aI,hrz,bi,hcut,az,qq,V.view,c1,V.flat,L.flat,cT,cS,hw]
theorem Uh {k z kx:Nat}{rows:List (List PV)}(hk:Φ k=some (n6 27 (eX z kx)))(hz:∀r∈rows,r.length=z)(hlen:rows.length≤maxLen)(hcp:∀r∈rows,ah Φ ext kx [.agg (r.map .pv), .agg (r.map .pv)]=some (aF true)):
 ah Φ ext k [aR rows,aR rows]=some (aF true):=by
 refine fy hk ?_
 obtain⟨t',g1,g2⟩:=Q3 (Φ:=Φ) (ext:=ext) hz hlen hcp rows.length 0 (by omega) (.tup []) (.tup []) (aF false) (aR rows) (ae .i64 rows.length) (aR rows) (ae .i64 rows.length) (aF false) (.tup []) (.tup []) (.tup []) (.tup []) (.tup []) (.tup []) (.tup []) (.tup []) (.tup []) (.tup []) (.tup []) (.tup []) (.tup []) (.tup []) (.tup []) (.tup []) []
 simp only[show((0:Nat):Int)=0 from rfl]at g1
 generalize hF:aB (ah Φ ext) aG (eX z kx)=F at g1
 simp[n6,RP,start,f8,aB,hF,am,aK,aW,bo,Opd.ev,put,asList,L.view,bin,cA,isBool,done,aS,aA,cN,bJ,comp,aM,bA,ar,V.cells,g1,g2]
def PV.plain :PV→Bool
 | .lst _=>false
 | .bool _=>false
 |_=>true
theorem Ei {p:PV}(h:p.plain=true):bin .neq (.one (.pv p)) (.one (.pv p))=some (aF false):=by
 cases p with
 |int k n=>simp[bin,cA]
 |str s=>simp[bin,i7]
 |bool b=>simp[PV.plain]at h
 |lst es=>simp[PV.plain]at h
theorem Q2 {qs:List PV}(hp:∀q∈qs,q.plain=true)(hlen:qs.length≤maxLen):∀(m k:Nat),k+m=qs.length→
 ∀(u2 u3 u4 u6 u7 u8 u9 u10 x11 x12 x13 x14 x15 x16 x17 x18 x19 x20 x21 x22 x23 x24 x25:V)(h:List AObj),
  ∃t',aG (aB (ah Φ ext) aG oN) ⟨[aR (qs.map fun q=>[q]),aR (qs.map fun q=>[q]),u2,u3,u4,ae .i64 k,u6,u7,u8,u9,u10,x11,x12,x13,x14,x15,x16,x17,x18,x19,x20,x21,x22,x23,x24,x25],h⟩=some (.exit 0,⟨t',h⟩)∧t'.length=26:=by
 intro m
 induction m with
 |zero=>
  intro k hk u2 u3 u4 u6 u7 u8 u9 u10 x11 x12 x13 x14 x15 x16 x17 x18 x19 x20 x21 x22 x23 x24 x25 h
  have hk':k=qs.length:=by omega
  subst hk'
  refine⟨[aR (qs.map fun q=>[q]),aR (qs.map fun q=>[q]),u2,u3,u4,ae .i64 qs.length,u6,u7,u8,u9,u10,ae .i64 qs.length,aR (qs.map fun q=>[q]),ae .i64 qs.length,aF false,x15,x16,x17,x18,x19,x20,x21,x22,x23,x24,x25],iG ?_ (by simp),rfl⟩
  simp[oN,GD,aB,am,aK,aW,bo,Opd.ev,put,asList,L.view,bin,cA,isBool]
 |succ m ih=>
  intro k hk u2 u3 u4 u6 u7 u8 u9 u10 x11 x12 x13 x14 x15 x16 x17 x18 x19 x20 x21 x22 x23 x24 x25 h
  have hlt:k<qs.length:=by omega
  have hn:=Ei (hp _ (Zf hlt))
  have hw:=jW (k:=k) (by unfold maxLen at hlen;omega)
  have hcast:((k+1:Nat):Int)=(k:Int)+1:=by omega
  have hcut:fT false 1 0 [L.pv qs[k]]=some (.one (.pv qs[k])):=by simp[fT]
  have hlss:bin .lss (ae .i64 k) (ae .i64 qs.length)=some (aF true):=by simp[bin,cA,hlt]
  have hadd:bin .add (ae .i64 k) (ae .i64 1)=some (ae .i64 ((k:Int)+1)):=by simp[bin,cA,hw]
  obtain⟨t',g1,g2⟩:=ih (k+1) (by omega) u2 u3 u4 u6 u7 u8 u9 u10 (ae .i64 k) (aR (qs.map fun q=>[q])) (ae .i64 qs.length) (aF true) (ae .i64 k) (ae .i64 ((k:Int)+1)) (aR (qs.map fun q=>[q])) (ae .i64 k) (.one (.ip [qs[k]] 0)) (.one (.pv qs[k])) (aR (qs.map fun q=>[q])) (ae .i64 k) (.one (.ip [qs[k]] 0)) (.one (.pv qs[k])) (aF false) h
  refine⟨t',(fJ ?_).trans g1,g2⟩
  rw[hcast]
  simp[oN,GD,HW,aB,am,aK,aW,bo,Opd.ev,put,asList,L.view,hlss,hadd,isBool,isInt,hlt,aI,bi,hcut,hn]
theorem Ug {k:Nat}{qs:List PV}(hk:Φ k=some (n6 26 oN))(hp:∀q∈qs,q.plain=true)(hlen:qs.length≤maxLen):ah Φ ext k [aR (qs.map fun q=>[q]),aR (qs.map fun q=>[q])]=some (aF true):=by
 refine fy hk ?_
 obtain⟨t',g1,g2⟩:=Q2 (Φ:=Φ) (ext:=ext) hp hlen qs.length 0 (by omega) (.tup []) (.tup []) (aF false) (aR (qs.map fun q=>[q])) (ae .i64 qs.length) (aR (qs.map fun q=>[q])) (ae .i64 qs.length) (aF false) (.tup []) (.tup []) (.tup []) (.tup []) (.tup []) (.tup []) (.tup []) (.tup []) (.tup []) (.tup []) (.tup []) (.tup []) (.tup []) (.tup []) (.tup []) []
 simp only[show((0:Nat):Int)=0 from rfl]at g1
 generalize hF:aB (ah Φ ext) aG oN=F at g1
 simp[n6,RP,start,f8,aB,hF,am,aK,aW,bo,Opd.ev,put,asList,L.view,bin,cA,isBool,done,aS,aA,cN,bJ,comp,aM,bA,ar,V.cells,g1,g2]
end
theorem dO {t:PTy}{ts:List PTy}{ps:List PV}(h:bF (t::ts) ps):∃p r,ps=p::r∧oI t p∧bF ts r:=by
 cases ps with
 |nil=>cases h
 |cons p r=>exact⟨p,r,rfl,h.1,h.2⟩
theorem fL {ps:List PV}(h:bF [] ps):ps=[]:=by
 cases ps with
 |nil=>rfl
 |cons p r=>cases h
theorem lX {k:IntKind}{p:PV}(h:oI (.int k) p):∃n,p= .int k n:=by
 cases p with
 |int k' n=>exact⟨n,by rw[h.1]⟩
 |_=>cases h
theorem jY {p:PV}(h:oI .str p):∃s,p= .str s:=by
 cases p with
 |str s=>exact⟨s,rfl⟩
 |_=>cases h
theorem kH {p:PV}(h:oI .bool p):∃b,p= .bool b:=by
 cases p with
 |bool b=>exact⟨b,rfl⟩
 |_=>cases h
theorem oJ {ts:List PTy}{p:PV}(h:oI (.lst ts) p):∃rows,p= .lst rows:=by
 cases p with
 |lst rows=>exact⟨rows,rfl⟩
 |_=>cases h
theorem aX {ts:List PTy}{rows:List (List PV)}(h:oI (.lst ts) (.lst rows)):rows.length≤maxLen∧∀r∈rows,bF ts r:=h
theorem kG :∀{ts:List PTy}{ps:List PV},bF ts ps→ps.length=ts.length
 |[],ps,h=>by rw[fL h];rfl
 |t::ts,ps,h=>by
  obtain⟨p,r,rfl,_,h2⟩:=dO h
  simp[kG h2]
theorem EP :∀{rows:List (List PV)}{r:List PV},r∈rows→fC r≤db rows
 |a::rows,r,h=>by
  rcases Z6.1 h with rfl|h
  ·simp only[db];omega
  ·have:=EP h
   simp only[db];omega
theorem lN (rows:List (List PV)):sz (.lst rows)=rows.length+db rows:=by simp only[sz]
theorem Uw {rows:List (List PV)}{r:List PV}(m:r∈rows)(h:sz (.lst rows)≤1048576):fC r≤1048576:=by
 have:=EP m
 rw[lN]at h
 omega
theorem Oj {t:PTy}:∀{rows:List (List PV)},(∀r∈rows,bF [t] r)→∃qs:List PV,rows=qs.map fun q=>[q]
 |[],_=>⟨[],rfl⟩
 |a::rows,h=>by
  obtain⟨qs,rfl⟩:=Oj (fun r m=>h r (List.mem_cons_of_mem _ m))
  obtain⟨p,r,rfl,_,h2⟩:=dO (h a (List.mem_cons_self))
  obtain rfl:=fL h2
  exact⟨p::qs,rfl⟩
def PTy.easy :PTy→Bool
 | .int _=>true
 | .str=>true
 |_=>false
theorem Ur {t:PTy}{qs:List PV}(ht:t.easy=true)(h:∀r∈(qs.map fun q=>[q]),bF [t] r):∀q∈qs,q.plain=true:=by
 intro q m
 have:=(h [q] (List.mem_map.2 ⟨q,m,rfl⟩)).1
 cases t with
 |int k=>obtain⟨n,rfl⟩:=lX this;rfl
 |str=>obtain⟨n,rfl⟩:=jY this;rfl
 |_=>cases ht
def PTy.small :PTy→Bool
 | .int _=>true
 | .bool=>true
 |_=>false
theorem EN :∀{ts:List PTy}{ps:List PV},ts.all PTy.small=true→bF ts ps→fC ps=0
 |[],ps,_,h=>by rw[fL h];simp only[fC]
 |t::ts,ps,ha,h=>by
  simp only[Zq,Zg]at ha
  obtain⟨p,r,rfl,h1,h2⟩:=dO h
  have:=EN ha.2 h2
  cases t with
  |int k=>obtain⟨n,rfl⟩:=lX h1;simp only[fC,sz,this]
  |bool=>obtain⟨n,rfl⟩:=kH h1;simp only[fC,sz,this]
  |_=>cases ha.1
theorem A7 {ts:List PTy}(ha:ts.all PTy.small=true):∀{rows:List (List PV)},(∀r∈rows,bF ts r)→db rows=0
 |[],_=>by simp only[db]
 |r::rows,h=>by
  simp only[db,EN ha (h r (List.mem_cons_self)),A7 ha (fun r m=>h r (List.mem_cons_of_mem _ m))]
theorem Tb {left:Int}{n:Nat}(h:left<n):less left n= -1:=by unfold less;rw[if_pos h]
theorem Rp {left l:Int}{n:Nat}(h0:0≤left)(q:less left n=l)(hn:¬l<0):l=left-n∧(n:Int)≤left:=by
 unfold less at q
 split at q
 ·omega
 ·omega
end Gi
