/- Of this proof. -/
import Derived.Test.YtebnmoogdmpepaaGreatGit
set_option linter.unusedSimpArgs false
set_option linter.unusedVariables false
namespace Gi
open Go Go.RowKit
section
variable {Φ:Nat→Option AFn}{ext:Nat→List V→Option V}
theorem OP {left:Int}{a:Nat}(h:less left a<0)(h0:0≤left):less left a= -1:=by
 unfold less at*
 split at h
 ·rename_i h1;rw[if_pos h1]
 ·omega
theorem OQ {left:Int}{a:Nat}(h0:0≤left):less left a≤left:=by
 unfold less;split<;>omega
theorem Cu {rows:List (List PV)}{k:Nat}(h:k<rows.length):cM (rows.drop k)=fg (rows[k])+cM (rows.drop (k+1)):=by
 rw[List.drop_eq_getElem_cons h,cM]
theorem SN {z kx:Nat}{rows:List (List PV)}(hz:∀r∈rows,r.length=z)(hlen:rows.length≤maxLen)(hcp:∀r∈rows,DY Φ ext kx r):∀(m k:Nat),k+m=rows.length→∀(left:Int),0≤left→left≤1048576→
 ∀(u2 u3 u4 u6 u7 u8 u9 u10 u11 x12 x13 x14 x15 x16 x17 x18 x19 x20 x21 x22 x23 x24 x25 u26:V)(h:List AObj),
  ∃e t',aL (aw (ag Φ ext) aL (uq z kx)) ⟨[cA rows,aa .i64 left,u2,u3,u4,aa .i64 k,u6,u7,u8,u9,u10,u11,x12,x13,x14,x15,x16,x17,x18,x19,x20,x21,x22,x23,x24,x25,u26],h⟩=some (e,⟨t',h⟩)∧t'.length=27∧
   ((e= .exit 0∧0≤less left (cM (rows.drop k))∧t'[1]? =some (aa .i64 (less left (cM (rows.drop k)))))∨(e= .ret∧less left (cM (rows.drop k))= -1∧t'[4]? =some (aa .i64 (-1)))):=by
 intro m
 induction m with
 |zero=>
  intro k hk left h0 h1 u2 u3 u4 u6 u7 u8 u9 u10 u11 x12 x13 x14 x15 x16 x17 x18 x19 x20 x21 x22 x23 x24 x25 u26 h
  have hk':k=rows.length:=by omega
  subst hk'
  have hl0:less left (cM (rows.drop rows.length))=left:=by simp[cM,less];omega
  rw[hl0,vp]
  refine⟨.exit 0,[cA rows,aa .i64 left,u2,u3,u4,aa .i64 rows.length,u6,u7,u8,u9,u10,u11,aa .i64 rows.length,cA rows,aa .i64 rows.length,aA false,x16,x17,x18,x19,x20,x21,x22,x23,x24,x25,u26],?_,rfl, .inl ⟨rfl,h0,rfl⟩⟩
  simp[uq,H9,aw,ah,aJ,bf,bJ,Opd.ev,put,asList,L.view,bin,cK,isBool]
 |succ m ih=>
  intro k hk left h0 h1 u2 u3 u4 u6 u7 u8 u9 u10 u11 x12 x13 x14 x15 x16 x17 x18 x19 x20 x21 x22 x23 x24 x25 u26 h
  have hlt:k<rows.length:=by omega
  have hrz:(rows[k]).length=z:=hz _ (Zf hlt)
  have c1:=hcp _ (Zf hlt) left h0 h1
  have hw:=kK (k:=k) (by unfold maxLen at hlen;omega)
  have hcut:fR true z 0 ((rows[k]).map L.pv)=some (.agg ((rows[k]).map .pv)):=by
   simp[fR,hrz,Zs (show((rows[k]).map L.pv).length≤z by simp[hrz])]
  have hcast:((k+1:Nat):Int)=(k:Int)+1:=by omega
  rw[Cu hlt]
  by_cases hneg:less left (fg rows[k])<0
  ·have e1:=LA (b:=cM (rows.drop (k+1))) h0 hneg
   have e2:=OP hneg h0
   rw[e1]
   rw[e2]at c1
   refine⟨.ret,[cA rows,aa .i64 (-1),u2,u3,aa .i64 (-1),aa .i64 k,u6,u7,u8,u9,u10,u11,aa .i64 k,cA rows,aa .i64 rows.length,aA true,x16,x17,cA rows,aa .i64 k, .one (.ip rows[k] 0), .agg ((rows[k]).map .pv),aa .i64 left,aa .i64 (-1),aa .i64 (-1),aA true,u26],?_,rfl, .inr ⟨rfl,rfl,rfl⟩⟩
   refine je ?_ (by simp)
   simp[uq,H9,Ji,pV,aw,ah,aJ,bf,bJ,Opd.ev,put,asList,L.view,bin,cK,isBool,isInt,hlt,aH,hrz,bA,hcut,aj,rp,V.view,c1,V.flat,L.flat,db,da]
  ·have hge:0≤less left (fg rows[k]):=by omega
   obtain⟨e,t',g1,g2,g3⟩:=ih (k+1) (by omega) (less left (fg rows[k])) hge (Int.le_trans (OQ h0) h1) u2 u3 u4 u6 u7 u8 u9 u10 u11 (aa .i64 k) (cA rows) (aa .i64 rows.length) (aA true) (aa .i64 k) (aa .i64 ((k:Int)+1)) (cA rows) (aa .i64 k) (.one (.ip rows[k] 0)) (.agg ((rows[k]).map .pv)) (aa .i64 left) (aa .i64 (less left (fg rows[k]))) (aa .i64 (less left (fg rows[k]))) (aA false) u26 h
   rw[tk hge]at g3
   refine⟨e,t',(gB ?_).trans g1,g2,g3⟩
   rw[hcast]
   simp[uq,H9,Ji,pV,aw,ah,aJ,bf,bJ,Opd.ev,put,asList,L.view,bin,cK,isBool,isInt,hlt,aH,hrz,bA,hcut,aj,rp,V.view,c1,V.flat,L.flat,db,da,hw,hneg]
theorem UN {k z kx:Nat}{rows:List (List PV)}(hk:Φ k=some (JW z kx))(hz:∀r∈rows,r.length=z)(hlen:rows.length≤maxLen)(hcp:∀r∈rows,DY Φ ext kx r){left:Int}(h0:0≤left)(h1:left≤1048576):
 ag Φ ext k [cA rows,aa .i64 left]=some (aa .i64 (less left (rows.length+cM rows))):=by
 refine fJ hk ?_
 have hw:IntKind.i64.wrap (left-rows.length)=left-rows.length:=by unfold maxLen at hlen;rw[IntKind.wrap_i64];omega
 by_cases hl:left<rows.length
 ·have hn:left-(rows.length:Int)<0:=by omega
  have e:less left (rows.length+cM rows)= -1:=by unfold less;rw[if_pos (by omega)]
  rw[e]
  generalize hF:aw (ag Φ ext) aL (uq z kx)=F
  simp[JW,yx,pV,start,f9,aw,hF,ah,aJ,bf,bJ,Opd.ev,put,asList,L.view,bin,cK,isBool,hw,hn,done,aW,am,cF,bS,comp,aQ,bI,ai,V.cells]
 ·have hn:¬left-(rows.length:Int)<0:=by omega
  have hle:left-(rows.length:Int)=less left rows.length:=by unfold less;rw[if_neg hl]
  obtain⟨e,t',g1,g2,g3⟩:=SN (Φ:=Φ) (ext:=ext) hz hlen hcp rows.length 0 (by omega) (left-rows.length) (by omega) (by omega) (.tup []) (.tup []) (aa .i64 0) (aa .i64 left) (cA rows) (aa .i64 rows.length) (aa .i64 (left-rows.length)) (aa .i64 (left-rows.length)) (aA false) (.tup []) (.tup []) (.tup []) (.tup []) (.tup []) (.tup []) (.tup []) (.tup []) (.tup []) (.tup []) (.tup []) (.tup []) (.tup []) (.tup []) (.tup []) []
  simp only[List.drop_zero,show((0:Nat):Int)=0 from rfl]at g1 g3
  have hls:less (left-rows.length) (cM rows)=less left (rows.length+cM rows):=by rw[hle];exact tk (by rw[←hle];omega)
  rw[hls]at g3
  generalize hF:aw (ag Φ ext) aL (uq z kx)=F at g1
  rcases g3 with⟨rfl,g4,g5⟩|⟨rfl,g4,g5⟩
  ·obtain⟨_,g6⟩:=Zb.1 g5
   simp[JW,yx,pV,start,f9,aw,hF,ah,aJ,bf,bJ,Opd.ev,put,asList,L.view,bin,cK,isBool,hw,hn,done,aW,am,cF,bS,comp,aQ,bI,ai,V.cells,g1,g2,g6]
  ·obtain⟨_,g6⟩:=Zb.1 g5
   simp[JW,yx,pV,start,f9,aw,hF,ah,aJ,bf,bJ,Opd.ev,put,asList,L.view,bin,cK,isBool,hw,hn,done,aW,am,cF,bS,comp,aQ,bI,ai,V.cells,g1,g2,g6,g4]
def Su :ACode:= .seq (.region [⟨some 4, .mv (.pv (.bool false)),none⟩]) .ret
def fD (z kx:Nat):ACode:= .seq (H9 5 0 11) (.seq (.block 1 (.seq (.region [⟨some 17, .mv (.tmp 0),none⟩,⟨some 18, .mv (.tmp 5),none⟩,⟨some 19, .indexA z (.tmp 17) (.tmp 18),none⟩,⟨some 20, .load true z (.tmp 19),none⟩,⟨some 21, .mv (.tmp 1),none⟩,⟨some 22, .mv (.tmp 5),none⟩,⟨some 23, .indexA z (.tmp 21) (.tmp 22),none⟩,⟨some 24, .load true z (.tmp 23),none⟩,⟨some 25, .call kx [.tmp 20, .tmp 24] true true,none⟩,⟨some 26, .un .not (.tmp 25),none⟩]) (.cond (.tmp 26) Su .skip))) (Ji 5 15))
def pS :ACode:= .seq (H9 5 0 11) (.seq (.block 1 (.seq (.region [⟨some 17, .mv (.tmp 0),none⟩,⟨some 18, .mv (.tmp 5),none⟩,⟨some 19, .indexA 1 (.tmp 17) (.tmp 18),none⟩,⟨some 20, .load false 1 (.tmp 19),none⟩,⟨some 21, .mv (.tmp 1),none⟩,⟨some 22, .mv (.tmp 5),none⟩,⟨some 23, .indexA 1 (.tmp 21) (.tmp 22),none⟩,⟨some 24, .load false 1 (.tmp 23),none⟩,⟨some 25, .bin .neq (.tmp 20) (.tmp 24),none⟩]) (.cond (.tmp 25) Su .skip))) (Ji 5 15))
def oS (nt:Nat)(body:ACode):AFn:=⟨nt,[.tmp 4], .seq (.region [⟨some 4, .mv (.pv (.bool false)),none⟩]) (.seq (.seq (.region [⟨some 6, .mv (.tmp 0),none⟩,⟨some 7, .len (.tmp 6),none⟩,⟨some 8, .mv (.tmp 1),none⟩,⟨some 9, .len (.tmp 8),none⟩,⟨some 10, .bin .neq (.tmp 7) (.tmp 9),none⟩]) (.cond (.tmp 10) Su .skip)) (.seq (.seq (.region [⟨some 5, .mv (.pv (.int .i64 0)),none⟩]) (.block 0 (.loop body))) (.seq (.region [⟨some 4, .mv (.pv (.bool true)),none⟩]) .ret)))⟩
theorem RP {z kx:Nat}{rows:List (List PV)}(hz:∀r∈rows,r.length=z)(hlen:rows.length≤maxLen)(hcp:∀r∈rows,ag Φ ext kx [.agg (r.map .pv), .agg (r.map .pv)]=some (aA true)):∀(m k:Nat),k+m=rows.length→
 ∀(u2 u3 u4 u6 u7 u8 u9 u10 x11 x12 x13 x14 x15 x16 x17 x18 x19 x20 x21 x22 x23 x24 x25 x26:V)(h:List AObj),
  ∃t',aL (aw (ag Φ ext) aL (fD z kx)) ⟨[cA rows,cA rows,u2,u3,u4,aa .i64 k,u6,u7,u8,u9,u10,x11,x12,x13,x14,x15,x16,x17,x18,x19,x20,x21,x22,x23,x24,x25,x26],h⟩=some (.exit 0,⟨t',h⟩)∧t'.length=27:=by
 intro m
 induction m with
 |zero=>
  intro k hk u2 u3 u4 u6 u7 u8 u9 u10 x11 x12 x13 x14 x15 x16 x17 x18 x19 x20 x21 x22 x23 x24 x25 x26 h
  have hk':k=rows.length:=by omega
  subst hk'
  refine⟨[cA rows,cA rows,u2,u3,u4,aa .i64 rows.length,u6,u7,u8,u9,u10,aa .i64 rows.length,cA rows,aa .i64 rows.length,aA false,x15,x16,x17,x18,x19,x20,x21,x22,x23,x24,x25,x26],je ?_ (by simp),rfl⟩
  simp[fD,H9,aw,ah,aJ,bf,bJ,Opd.ev,put,asList,L.view,bin,cK,isBool]
 |succ m ih=>
  intro k hk u2 u3 u4 u6 u7 u8 u9 u10 x11 x12 x13 x14 x15 x16 x17 x18 x19 x20 x21 x22 x23 x24 x25 x26 h
  have hlt:k<rows.length:=by omega
  have hrz:(rows[k]).length=z:=hz _ (Zf hlt)
  have c1:=hcp _ (Zf hlt)
  have hw:=kK (k:=k) (by unfold maxLen at hlen;omega)
  have hcut:fR true z 0 ((rows[k]).map L.pv)=some (.agg ((rows[k]).map .pv)):=by
   simp[fR,hrz,Zs (show((rows[k]).map L.pv).length≤z by simp[hrz])]
  have hcast:((k+1:Nat):Int)=(k:Int)+1:=by omega
  obtain⟨t',g1,g2⟩:=ih (k+1) (by omega) u2 u3 u4 u6 u7 u8 u9 u10 (aa .i64 k) (cA rows) (aa .i64 rows.length) (aA true) (aa .i64 k) (aa .i64 ((k:Int)+1)) (cA rows) (aa .i64 k) (.one (.ip rows[k] 0)) (.agg ((rows[k]).map .pv)) (cA rows) (aa .i64 k) (.one (.ip rows[k] 0)) (.agg ((rows[k]).map .pv)) (aA true) (aA false) h
  refine⟨t',(gB ?_).trans g1,g2⟩
  rw[hcast]
  simp[fD,H9,Ji,aw,ah,aJ,bf,bJ,Opd.ev,put,asList,L.view,bin,cK,un,isBool,isInt,hlt,aH,hrz,bA,hcut,aj,rp,V.view,c1,V.flat,L.flat,db,da,hw]
theorem Ux {k z kx:Nat}{rows:List (List PV)}(hk:Φ k=some (oS 27 (fD z kx)))(hz:∀r∈rows,r.length=z)(hlen:rows.length≤maxLen)(hcp:∀r∈rows,ag Φ ext kx [.agg (r.map .pv), .agg (r.map .pv)]=some (aA true)):
 ag Φ ext k [cA rows,cA rows]=some (aA true):=by
 refine fJ hk ?_
 obtain⟨t',g1,g2⟩:=RP (Φ:=Φ) (ext:=ext) hz hlen hcp rows.length 0 (by omega) (.tup []) (.tup []) (aA false) (cA rows) (aa .i64 rows.length) (cA rows) (aa .i64 rows.length) (aA false) (.tup []) (.tup []) (.tup []) (.tup []) (.tup []) (.tup []) (.tup []) (.tup []) (.tup []) (.tup []) (.tup []) (.tup []) (.tup []) (.tup []) (.tup []) (.tup []) []
 simp only[show((0:Nat):Int)=0 from rfl]at g1
 generalize hF:aw (ag Φ ext) aL (fD z kx)=F at g1
 simp[oS,Su,start,f9,aw,hF,ah,aJ,bf,bJ,Opd.ev,put,asList,L.view,bin,cK,isBool,done,aW,am,cF,bS,comp,aQ,bI,ai,V.cells,g1,g2]
def PV.plain :PV→Bool
 | .lst _=>false
 | .bool _=>false
 |_=>true
theorem FP {p:PV}(h:p.plain=true):bin .neq (.one (.pv p)) (.one (.pv p))=some (aA false):=by
 cases p with
 |int k n=>simp[bin,cK]
 |str s=>simp[bin,jx]
 |bool b=>simp[PV.plain]at h
 |lst es=>simp[PV.plain]at h
theorem RO {qs:List PV}(hp:∀q∈qs,q.plain=true)(hlen:qs.length≤maxLen):∀(m k:Nat),k+m=qs.length→
 ∀(u2 u3 u4 u6 u7 u8 u9 u10 x11 x12 x13 x14 x15 x16 x17 x18 x19 x20 x21 x22 x23 x24 x25:V)(h:List AObj),
  ∃t',aL (aw (ag Φ ext) aL pS) ⟨[cA (qs.map fun q=>[q]),cA (qs.map fun q=>[q]),u2,u3,u4,aa .i64 k,u6,u7,u8,u9,u10,x11,x12,x13,x14,x15,x16,x17,x18,x19,x20,x21,x22,x23,x24,x25],h⟩=some (.exit 0,⟨t',h⟩)∧t'.length=26:=by
 intro m
 induction m with
 |zero=>
  intro k hk u2 u3 u4 u6 u7 u8 u9 u10 x11 x12 x13 x14 x15 x16 x17 x18 x19 x20 x21 x22 x23 x24 x25 h
  have hk':k=qs.length:=by omega
  subst hk'
  refine⟨[cA (qs.map fun q=>[q]),cA (qs.map fun q=>[q]),u2,u3,u4,aa .i64 qs.length,u6,u7,u8,u9,u10,aa .i64 qs.length,cA (qs.map fun q=>[q]),aa .i64 qs.length,aA false,x15,x16,x17,x18,x19,x20,x21,x22,x23,x24,x25],je ?_ (by simp),rfl⟩
  simp[pS,H9,aw,ah,aJ,bf,bJ,Opd.ev,put,asList,L.view,bin,cK,isBool]
 |succ m ih=>
  intro k hk u2 u3 u4 u6 u7 u8 u9 u10 x11 x12 x13 x14 x15 x16 x17 x18 x19 x20 x21 x22 x23 x24 x25 h
  have hlt:k<qs.length:=by omega
  have hn:=FP (hp _ (Zf hlt))
  have hw:=kK (k:=k) (by unfold maxLen at hlen;omega)
  have hcast:((k+1:Nat):Int)=(k:Int)+1:=by omega
  have hcut:fR false 1 0 [L.pv qs[k]]=some (.one (.pv qs[k])):=by simp[fR]
  have hlss:bin .lss (aa .i64 k) (aa .i64 qs.length)=some (aA true):=by simp[bin,cK,hlt]
  have hadd:bin .add (aa .i64 k) (aa .i64 1)=some (aa .i64 ((k:Int)+1)):=by simp[bin,cK,hw]
  obtain⟨t',g1,g2⟩:=ih (k+1) (by omega) u2 u3 u4 u6 u7 u8 u9 u10 (aa .i64 k) (cA (qs.map fun q=>[q])) (aa .i64 qs.length) (aA true) (aa .i64 k) (aa .i64 ((k:Int)+1)) (cA (qs.map fun q=>[q])) (aa .i64 k) (.one (.ip [qs[k]] 0)) (.one (.pv qs[k])) (cA (qs.map fun q=>[q])) (aa .i64 k) (.one (.ip [qs[k]] 0)) (.one (.pv qs[k])) (aA false) h
  refine⟨t',(gB ?_).trans g1,g2⟩
  rw[hcast]
  simp[pS,H9,Ji,aw,ah,aJ,bf,bJ,Opd.ev,put,asList,L.view,hlss,hadd,isBool,isInt,hlt,aH,bA,hcut,hn]
theorem Uw {k:Nat}{qs:List PV}(hk:Φ k=some (oS 26 pS))(hp:∀q∈qs,q.plain=true)(hlen:qs.length≤maxLen):ag Φ ext k [cA (qs.map fun q=>[q]),cA (qs.map fun q=>[q])]=some (aA true):=by
 refine fJ hk ?_
 obtain⟨t',g1,g2⟩:=RO (Φ:=Φ) (ext:=ext) hp hlen qs.length 0 (by omega) (.tup []) (.tup []) (aA false) (cA (qs.map fun q=>[q])) (aa .i64 qs.length) (cA (qs.map fun q=>[q])) (aa .i64 qs.length) (aA false) (.tup []) (.tup []) (.tup []) (.tup []) (.tup []) (.tup []) (.tup []) (.tup []) (.tup []) (.tup []) (.tup []) (.tup []) (.tup []) (.tup []) (.tup []) []
 simp only[show((0:Nat):Int)=0 from rfl]at g1
 generalize hF:aw (ag Φ ext) aL pS=F at g1
 simp[oS,Su,start,f9,aw,hF,ah,aJ,bf,bJ,Opd.ev,put,asList,L.view,bin,cK,isBool,done,aW,am,cF,bS,comp,aQ,bI,ai,V.cells,g1,g2]
end
theorem eD {t:PTy}{ts:List PTy}{ps:List PV}(h:bM (t::ts) ps):∃p r,ps=p::r∧oQ t p∧bM ts r:=by
 cases ps with
 |nil=>cases h
 |cons p r=>exact⟨p,r,rfl,h.1,h.2⟩
theorem fF {ps:List PV}(h:bM [] ps):ps=[]:=by
 cases ps with
 |nil=>rfl
 |cons p r=>cases h
theorem mP {k:IntKind}{p:PV}(h:oQ (.int k) p):∃n,p= .int k n:=by
 cases p with
 |int k' n=>exact⟨n,by rw[h.1]⟩
 |_=>cases h
theorem kM {p:PV}(h:oQ .str p):∃s,p= .str s:=by
 cases p with
 |str s=>exact⟨s,rfl⟩
 |_=>cases h
theorem lB {p:PV}(h:oQ .bool p):∃b,p= .bool b:=by
 cases p with
 |bool b=>exact⟨b,rfl⟩
 |_=>cases h
theorem oE {ts:List PTy}{p:PV}(h:oQ (.lst ts) p):∃rows,p= .lst rows:=by
 cases p with
 |lst rows=>exact⟨rows,rfl⟩
 |_=>cases h
theorem bw {ts:List PTy}{rows:List (List PV)}(h:oQ (.lst ts) (.lst rows)):rows.length≤maxLen∧∀r∈rows,bM ts r:=h
theorem km :∀{ts:List PTy}{ps:List PV},bM ts ps→ps.length=ts.length
 |[],ps,h=>by rw[fF h];rfl
 |t::ts,ps,h=>by
  obtain⟨p,r,rfl,_,h2⟩:=eD h
  simp[km h2]
theorem Gr :∀{rows:List (List PV)}{r:List PV},r∈rows→fg r≤cM rows
 |a::rows,r,h=>by
  rcases Z8.1 h with rfl|h
  ·simp only[cM];omega
  ·have:=Gr h
   simp only[cM];omega
theorem ly (rows:List (List PV)):sz (.lst rows)=rows.length+cM rows:=by simp only[sz]
theorem UJ {rows:List (List PV)}{r:List PV}(m:r∈rows)(h:sz (.lst rows)≤1048576):fg r≤1048576:=by
 have:=Gr m
 rw[ly]at h
 omega
theorem Pe {t:PTy}:∀{rows:List (List PV)},(∀r∈rows,bM [t] r)→∃qs:List PV,rows=qs.map fun q=>[q]
 |[],_=>⟨[],rfl⟩
 |a::rows,h=>by
  obtain⟨qs,rfl⟩:=Pe (fun r m=>h r (Y5 _ m))
  obtain⟨p,r,rfl,_,h2⟩:=eD (h a (Xq))
  obtain rfl:=fF h2
  exact⟨p::qs,rfl⟩
def PTy.easy :PTy→Bool
 | .int _=>true
 | .str=>true
 |_=>false
theorem UH {t:PTy}{qs:List PV}(ht:t.easy=true)(h:∀r∈(qs.map fun q=>[q]),bM [t] r):∀q∈qs,q.plain=true:=by
 intro q m
 have:=(h [q] (Yt.2 ⟨q,m,rfl⟩)).1
 cases t with
 |int k=>obtain⟨n,rfl⟩:=mP this;rfl
 |str=>obtain⟨n,rfl⟩:=kM this;rfl
 |_=>cases ht
def PTy.small :PTy→Bool
 | .int _=>true
 | .bool=>true
 |_=>false
theorem Gp :∀{ts:List PTy}{ps:List PV},ts.all PTy.small=true→bM ts ps→fg ps=0
 |[],ps,_,h=>by rw[fF h];simp only[fg]
 |t::ts,ps,ha,h=>by
  simp only[Zr,Zh]at ha
  obtain⟨p,r,rfl,h1,h2⟩:=eD h
  have:=Gp ha.2 h2
  cases t with
  |int k=>obtain⟨n,rfl⟩:=mP h1;simp only[fg,sz,this]
  |bool=>obtain⟨n,rfl⟩:=lB h1;simp only[fg,sz,this]
  |_=>cases ha.1
theorem Cw {ts:List PTy}(ha:ts.all PTy.small=true):∀{rows:List (List PV)},(∀r∈rows,bM ts r)→cM rows=0
 |[],_=>by simp only[cM]
 |r::rows,h=>by
  simp only[cM,Gp ha (h r (Xq)),Cw ha (fun r m=>h r (Y5 _ m))]
theorem TE {left:Int}{n:Nat}(h:left<n):less left n= -1:=by unfold less;rw[if_pos h]
theorem Sd {left l:Int}{n:Nat}(h0:0≤left)(q:less left n=l)(hn:¬l<0):l=left-n∧(n:Int)≤left:=by
 unfold less at q
 split at q
 ·omega
 ·omega
end Gi
