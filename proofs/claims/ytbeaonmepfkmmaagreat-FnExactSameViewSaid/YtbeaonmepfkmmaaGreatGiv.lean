/- Of this proof. -/
import Derived.Test.YtbeaonmepfkmmaaGreatGis
import Derived.KernelRfl
set_option linter.unusedSimpArgs false
set_option linter.unusedVariables false
namespace Gi
open Go Go.RowKit
attribute [local simp] start mr aG aK bA cI bZ Opd.ev put asList L.view bin ee isBool done aT az dO b6 comp aN bU aw V.cells
theorem uQ (f:St→Option (Ex×St))(σ:St):aV f σ=(match f σ with
 |some (.normal,σ')=>aV f σ'
 |r=>r):=by
 cases h:f σ with
 |none=>
  cases hl:aV f σ with
  |none=>rfl
  |some r=>
   obtain⟨n,hn⟩:=mh.1 hl
   cases n with
   |zero=>simp[eH]at hn
   |succ n=>simp[eH,h]at hn
 |some x=>
  obtain⟨e,σ'⟩:=x
  cases e with
  |normal=>exact jq h
  |exit i=>exact pS h (by simp)
  |ret=>exact pS h (by simp)
def D0 :L→PV
 | .pv p=>p
 | .own _ es=> .lst es
 | .down _ es=> .lst es
 |_=> .lst []
theorem qP (h:List AObj):∀(ps:List PV),viewL h (ps.map .pv)=some ps
 |[]=>rfl
 |p::ps=>by simp only[List.map_cons,viewL,L.view,qP h ps]
theorem vw (h:List AObj)(ps:List PV):V.view h (.agg (ps.map .pv))=some (.agg (ps.map .pv)):=by simp only[V.view,qP]
theorem oQ :∀(ls:List L)(h:List AObj),ls.all L.clean=true→∃t,(thawL h ls).2=h++t:=fun ls h hc=>(lu ls h hc).2.1
theorem tb :∀(ls:List L)(h:List AObj),ls.all L.clean=true→viewL (thawL h ls).2 (thawL h ls).1=some (ls.map D0)
 |[],h,_=>rfl
 |l::ls,h,hc=>by
  simp only[List.all_cons,Bool.and_eq_true]at hc
  cases l with
  |own z es=>
   simp only[thawL,List.map_cons,viewL]
   obtain⟨t,ht⟩:=oQ ls (h++[.arr z es]) hc.2
   rw[tb ls _ hc.2]
   have:L.view (thawL (h++[AObj.arr z es]) ls).2 (.arr h.length)=some (.lst es):=by
    rw[ht]
    simp[L.view]
   rw[this]
   rfl
  |down z es=>
   simp only[thawL,List.map_cons,viewL]
   obtain⟨t,ht⟩:=oQ ls (h++[.darr z es]) hc.2
   rw[tb ls _ hc.2]
   have:L.view (thawL (h++[AObj.darr z es]) ls).2 (.arr h.length)=some (.lst es):=by
    rw[ht]
    simp[L.view]
   rw[this]
   rfl
  |pv p=>simp only[thawL,List.map_cons,viewL,L.view,tb ls h hc.2];rfl
  |nil=>simp only[thawL,List.map_cons,viewL,L.view,tb ls h hc.2];rfl
  |_=>simp[L.clean]at hc
theorem oR :∀(ls:List L)(h:List AObj)(o:Nat),ls.all L.clean=true→o<h.length→(thawL h ls).1.all (L.notArr o)=true
 |[],_,_,_,_=>rfl
 |l::ls,h,o,hc,ho=>by
  simp only[List.all_cons,Bool.and_eq_true]at hc
  cases l with
  |own z es=>
   simp only[thawL,List.all_cons,Bool.and_eq_true]
   exact⟨by simp[L.notArr];omega,oR ls _ o hc.2 (by simp;omega)⟩
  |down z es=>
   simp only[thawL,List.all_cons,Bool.and_eq_true]
   exact⟨by simp[L.notArr];omega,oR ls _ o hc.2 (by simp;omega)⟩
  |pv p=>simp only[thawL,List.all_cons,Bool.and_eq_true];exact⟨rfl,oR ls h o hc.2 ho⟩
  |nil=>simp only[thawL,List.all_cons,Bool.and_eq_true];exact⟨rfl,oR ls h o hc.2 ho⟩
  |_=>simp[L.clean]at hc
theorem Er {α:Type}(a b:List α)(h:a.length=b.length):putAt a 0 b=b:=by
 simp[putAt,h.symm]
theorem Bf (h:List AObj):∀(ps:List PV),freezeLs h (ps.map .pv)=h
 |[]=>rfl
 |p::ps=>by
  show freezeLs (freezeL h (.pv p)) (ps.map .pv)=h
  exact Bf h ps
theorem Bg (h:List AObj)(ps:List PV):freezeVs h [.agg (ps.map .pv)]=h:=Bf h ps
theorem O3 (o:Nat)(ps:List PV):(ps.map L.pv).all (L.notArr o)=true:=by
 simp[L.notArr]
theorem SJ {rows:List (List PV)}{k m:Nat}{zero:List PV}(h:k+(m+1)=rows.length):(rows.take k++List.replicate (m+1) zero)[k]? =some zero:=by
 rw[List.getElem?_append_right (by simp;omega),List.getElem?_replicate]
 rw[if_pos (by simp;omega)]
theorem Qr {rows:List (List PV)}{k m:Nat}{zero:List PV}(h:k+(m+1)=rows.length):(rows.take k++List.replicate (m+1) zero).set k (rows[k]'(by omega))=rows.take (k+1)++List.replicate m zero:=by
 have hk:k<rows.length:=by omega
 rw[List.set_append_right _ _ (by simp;omega)]
 have:k-(rows.take k).length=0:=by simp;omega
 rw[this,List.replicate_succ,List.set_cons_zero,List.take_succ_eq_append_getElem hk,List.append_assoc]
 rfl
section
variable {Φ:Nat→Option AFn}{ext:Nat→List V→Option V}
def JP (i a t0:Nat):ACode:= .seq (.region [⟨some t0, .mv (.tmp i),none⟩,⟨some (t0+1), .mv (.tmp a),none⟩,⟨some (t0+2), .len (.tmp (t0+1)),none⟩,⟨some (t0+3), .bin .lss (.tmp t0) (.tmp (t0+2)),none⟩]) (.cond (.tmp (t0+3)) .skip (.exit 0))
def PG (i t0:Nat):ACode:= .region [⟨some t0, .mv (.tmp i),none⟩,⟨some (t0+1), .bin .add (.tmp t0) (.pv (.int .i64 1)),none⟩,⟨some i, .mv (.tmp (t0+1)),none⟩]
theorem nZ {k:Nat}(h:k<9223372036854775807):IntKind.i64.wrap ((k:Int)+1)=(k:Int)+1:=by
 rw[IntKind.wrap_i64];omega
def Ux (Φ:Nat→Option AFn)(ext:Nat→List V→Option V)(kx:Nat)(fl:Bool)(r:List PV):Prop:=
 ∃ls,ag Φ ext kx [.agg (r.map .pv)]=some (.agg ls)∧ls.all L.clean=true∧ls.map D0=r∧(fl=true→ls=r.map .pv∧ls.all L.flat=true)
def xJ (t0:Nat):List AOper:=[⟨some t0, .mv (.tmp 1),none⟩,⟨some (t0+1), .mv (.tmp 0),none⟩,⟨some (t0+2), .len (.tmp (t0+1)),none⟩,⟨some (t0+3), .bin .sub (.tmp t0) (.tmp (t0+2)),none⟩,⟨some 1, .mv (.tmp (t0+3)),none⟩]
def tJ (t0:Nat):ACode:= .seq (.region [⟨some t0, .mv (.tmp 1),none⟩,⟨some (t0+1), .bin .lss (.tmp t0) (.pv (.int .i64 0)),none⟩]) (.cond (.tmp (t0+1)) (.seq (.region [⟨some 4, .mv (.pv (.int .i64 (-1))),none⟩]) .ret) .skip)
def tW (z kx:Nat):ACode:= .seq (JP 5 0 12) (.seq (.block 1 (.seq (.region [⟨some 18, .mv (.tmp 0),none⟩,⟨some 19, .mv (.tmp 5),none⟩,⟨some 20, .indexA z (.tmp 18) (.tmp 19),none⟩,⟨some 21, .load true z (.tmp 20),none⟩,⟨some 22, .mv (.tmp 1),none⟩,⟨some 23, .call kx [.tmp 21, .tmp 22] true false,none⟩,⟨some 1, .mv (.tmp 23),none⟩]) (tJ 24))) (PG 5 16))
def Ix (z kx:Nat):AFn:=⟨27,[.tmp 4], .seq (.region [⟨some 4, .mv (.pv (.int .i64 0)),none⟩]) (.seq (.region (xJ 6)) (.seq (tJ 10) (.seq (.seq (.region [⟨some 5, .mv (.pv (.int .i64 0)),none⟩]) (.block 0 (.loop (tW z kx)))) (.seq (.region [⟨some 26, .mv (.tmp 1),none⟩,⟨some 4, .mv (.tmp 26),none⟩]) .ret))))⟩
def S0 :AFn:=⟨12,[.tmp 4], .seq (.region [⟨some 4, .mv (.pv (.int .i64 0)),none⟩]) (.seq (.region (xJ 5)) (.seq (tJ 9) (.seq (.region [⟨some 11, .mv (.tmp 1),none⟩,⟨some 4, .mv (.tmp 11),none⟩]) .ret)))⟩
mutual
def sz :PV→Nat
 | .str s=>s.length
 | .lst rows=>rows.length+dW rows
 |_=>0
def gM :List PV→Nat
 |[]=>0
 |p::ps=>sz p+gM ps
def dW :List (List PV)→Nat
 |[]=>0
 |r::rs=>gM r+dW rs
end
def less (left:Int)(n:Nat):Int:=if left<n then-1 else left-n
def CP (Φ:Nat→Option AFn)(ext:Nat→List V→Option V)(kx:Nat)(r:List PV):Prop:=
 ∀left:Int,0≤left→left≤1048576→ag Φ ext kx [.agg (r.map .pv),ai .i64 left]=some (ai .i64 (less left (gM r)))
theorem sF {left:Int}{a b:Nat}(h:0≤less left a):less (less left a) b=less left (a+b):=by
 unfold less at*
 split at h
 ·omega
 ·rename_i h1
  rw[if_neg h1]
  by_cases h2:left-(a:Int)<b
  ·rw[if_pos h2,if_pos (by omega)]
  ·rw[if_neg h2,if_neg (by omega)];omega
theorem J2 {left:Int}{a b:Nat}(h0:0≤left)(h:less left a<0):less left (a+b)= -1:=by
 unfold less at*
 split at h
 ·rw[if_pos (by omega)]
 ·omega
theorem Ty {k:Nat}{rows:List (List PV)}(hk:Φ k=some S0)(hlen:rows.length≤maxLen){left:Int}(h0:0≤left)(h1:left≤1048576):ag Φ ext k [bi rows,ai .i64 left]=some (ai .i64 (less left rows.length)):=by
 refine gA hk ?_
 have hw:IntKind.i64.wrap (left-rows.length)=left-rows.length:=by unfold maxLen at hlen;rw[IntKind.wrap_i64];omega
 by_cases hl:left<rows.length
 ·have:left-(rows.length:Int)<0:=by omega
  simp[S0,xJ,tJ,hw,this,less,hl]
 ·have:¬left-(rows.length:Int)<0:=by omega
  simp[S0,xJ,tJ,hw,this,less,hl]
end
end Gi
namespace Gi
open Go Go.RowKit
section
variable {Φ:Nat→Option AFn}{ext:Nat→List V→Option V}
theorem Ni {left:Int}{a:Nat}(h:less left a<0)(h0:0≤left):less left a= -1:=by
 unfold less at*
 split at h
 ·rename_i h1;rw[if_pos h1]
 ·omega
theorem Nj {left:Int}{a:Nat}(h0:0≤left):less left a≤left:=by
 unfold less;split<;>omega
theorem Bw {rows:List (List PV)}{k:Nat}(h:k<rows.length):dW (rows.drop k)=gM (rows[k])+dW (rows.drop (k+1)):=by
 rw[List.drop_eq_getElem_cons h,dW]
theorem Rh {z kx:Nat}{rows:List (List PV)}(hz:∀r∈rows,r.length=z)(hlen:rows.length≤maxLen)(hcp:∀r∈rows,CP Φ ext kx r):∀(m k:Nat),k+m=rows.length→∀(left:Int),0≤left→left≤1048576→
 ∀(u2 u3 u4 u6 u7 u8 u9 u10 u11 x12 x13 x14 x15 x16 x17 x18 x19 x20 x21 x22 x23 x24 x25 u26:V)(h:List AObj),
  ∃e t',aV (aG (ag Φ ext) aV (tW z kx)) ⟨[bi rows,ai .i64 left,u2,u3,u4,ai .i64 k,u6,u7,u8,u9,u10,u11,x12,x13,x14,x15,x16,x17,x18,x19,x20,x21,x22,x23,x24,x25,u26],h⟩=some (e,⟨t',h⟩)∧t'.length=27∧
   ((e= .exit 0∧0≤less left (dW (rows.drop k))∧t'[1]? =some (ai .i64 (less left (dW (rows.drop k)))))∨(e= .ret∧less left (dW (rows.drop k))= -1∧t'[4]? =some (ai .i64 (-1)))):=by
 intro m
 induction m with
 |zero=>
  intro k hk left h0 h1 u2 u3 u4 u6 u7 u8 u9 u10 u11 x12 x13 x14 x15 x16 x17 x18 x19 x20 x21 x22 x23 x24 x25 u26 h
  have hk':k=rows.length:=by omega
  subst hk'
  have hl0:less left (dW (rows.drop rows.length))=left:=by simp[dW,less];omega
  rw[hl0,uQ]
  refine⟨.exit 0,[bi rows,ai .i64 left,u2,u3,u4,ai .i64 rows.length,u6,u7,u8,u9,u10,u11,ai .i64 rows.length,bi rows,ai .i64 rows.length,aD false,x16,x17,x18,x19,x20,x21,x22,x23,x24,x25,u26],?_,rfl, .inl ⟨rfl,h0,rfl⟩⟩
  simp[tW,JP,aG,aK,bA,cI,bZ,Opd.ev,put,asList,L.view,bin,ee,isBool]
 |succ m ih=>
  intro k hk left h0 h1 u2 u3 u4 u6 u7 u8 u9 u10 u11 x12 x13 x14 x15 x16 x17 x18 x19 x20 x21 x22 x23 x24 x25 u26 h
  have hlt:k<rows.length:=by omega
  have hrz:(rows[k]).length=z:=hz _ (List.getElem_mem hlt)
  have c1:=hcp _ (List.getElem_mem hlt) left h0 h1
  have hw:=nZ (k:=k) (by unfold maxLen at hlen;omega)
  have hcut:gD true z 0 ((rows[k]).map L.pv)=some (.agg ((rows[k]).map .pv)):=by
   simp[gD,hrz,List.take_of_length_le (show((rows[k]).map L.pv).length≤z by simp[hrz])]
  have hcast:((k+1:Nat):Int)=(k:Int)+1:=by omega
  rw[Bw hlt]
  by_cases hneg:less left (gM rows[k])<0
  ·have e1:=J2 (b:=dW (rows.drop (k+1))) h0 hneg
   have e2:=Ni hneg h0
   rw[e1]
   rw[e2]at c1
   refine⟨.ret,[bi rows,ai .i64 (-1),u2,u3,ai .i64 (-1),ai .i64 k,u6,u7,u8,u9,u10,u11,ai .i64 k,bi rows,ai .i64 rows.length,aD true,x16,x17,bi rows,ai .i64 k, .one (.ip rows[k] 0), .agg ((rows[k]).map .pv),ai .i64 left,ai .i64 (-1),ai .i64 (-1),aD true,u26],?_,rfl, .inr ⟨rfl,rfl,rfl⟩⟩
   refine pS ?_ (by simp)
   simp[tW,JP,PG,tJ,aG,aK,bA,cI,bZ,Opd.ev,put,asList,L.view,bin,ee,isBool,isInt,hlt,aH,hrz,bt,hcut,au,qP,V.view,c1,V.flat,L.flat,cZ,cV]
  ·have hge:0≤less left (gM rows[k]):=by omega
   obtain⟨e,t',g1,g2,g3⟩:=ih (k+1) (by omega) (less left (gM rows[k])) hge (Int.le_trans (Nj h0) h1) u2 u3 u4 u6 u7 u8 u9 u10 u11 (ai .i64 k) (bi rows) (ai .i64 rows.length) (aD true) (ai .i64 k) (ai .i64 ((k:Int)+1)) (bi rows) (ai .i64 k) (.one (.ip rows[k] 0)) (.agg ((rows[k]).map .pv)) (ai .i64 left) (ai .i64 (less left (gM rows[k]))) (ai .i64 (less left (gM rows[k]))) (aD false) u26 h
   rw[sF hge]at g3
   refine⟨e,t',(jq ?_).trans g1,g2,g3⟩
   rw[hcast]
   simp[tW,JP,PG,tJ,aG,aK,bA,cI,bZ,Opd.ev,put,asList,L.view,bin,ee,isBool,isInt,hlt,aH,hrz,bt,hcut,au,qP,V.view,c1,V.flat,L.flat,cZ,cV,hw,hneg]
theorem Tz {k z kx:Nat}{rows:List (List PV)}(hk:Φ k=some (Ix z kx))(hz:∀r∈rows,r.length=z)(hlen:rows.length≤maxLen)(hcp:∀r∈rows,CP Φ ext kx r){left:Int}(h0:0≤left)(h1:left≤1048576):
 ag Φ ext k [bi rows,ai .i64 left]=some (ai .i64 (less left (rows.length+dW rows))):=by
 refine gA hk ?_
 have hw:IntKind.i64.wrap (left-rows.length)=left-rows.length:=by unfold maxLen at hlen;rw[IntKind.wrap_i64];omega
 by_cases hl:left<rows.length
 ·have hn:left-(rows.length:Int)<0:=by omega
  have e:less left (rows.length+dW rows)= -1:=by unfold less;rw[if_pos (by omega)]
  rw[e]
  generalize hF:aG (ag Φ ext) aV (tW z kx)=F
  simp[Ix,xJ,tJ,start,mr,aG,hF,aK,bA,cI,bZ,Opd.ev,put,asList,L.view,bin,ee,isBool,hw,hn,done,aT,az,dO,b6,comp,aN,bU,aw,V.cells]
 ·have hn:¬left-(rows.length:Int)<0:=by omega
  have hle:left-(rows.length:Int)=less left rows.length:=by unfold less;rw[if_neg hl]
  obtain⟨e,t',g1,g2,g3⟩:=Rh (Φ:=Φ) (ext:=ext) hz hlen hcp rows.length 0 (by omega) (left-rows.length) (by omega) (by omega) (.tup []) (.tup []) (ai .i64 0) (ai .i64 left) (bi rows) (ai .i64 rows.length) (ai .i64 (left-rows.length)) (ai .i64 (left-rows.length)) (aD false) (.tup []) (.tup []) (.tup []) (.tup []) (.tup []) (.tup []) (.tup []) (.tup []) (.tup []) (.tup []) (.tup []) (.tup []) (.tup []) (.tup []) (.tup []) []
  simp only[List.drop_zero,show((0:Nat):Int)=0 from rfl]at g1 g3
  have hls:less (left-rows.length) (dW rows)=less left (rows.length+dW rows):=by rw[hle];exact sF (by rw[←hle];omega)
  rw[hls]at g3
  generalize hF:aG (ag Φ ext) aV (tW z kx)=F at g1
  rcases g3 with⟨rfl,g4,g5⟩|⟨rfl,g4,g5⟩
  ·obtain⟨_,g6⟩:=List.getElem?_eq_some_iff.1 g5
   simp[Ix,xJ,tJ,start,mr,aG,hF,aK,bA,cI,bZ,Opd.ev,put,asList,L.view,bin,ee,isBool,hw,hn,done,aT,az,dO,b6,comp,aN,bU,aw,V.cells,g1,g2,g6]
  ·obtain⟨_,g6⟩:=List.getElem?_eq_some_iff.1 g5
   simp[Ix,xJ,tJ,start,mr,aG,hF,aK,bA,cI,bZ,Opd.ev,put,asList,L.view,bin,ee,isBool,hw,hn,done,aT,az,dO,b6,comp,aN,bU,aw,V.cells,g1,g2,g6,g4]
def Q0 :ACode:= .seq (.region [⟨some 4, .mv (.pv (.bool false)),none⟩]) .ret
def fC (z kx:Nat):ACode:= .seq (JP 5 0 11) (.seq (.block 1 (.seq (.region [⟨some 17, .mv (.tmp 0),none⟩,⟨some 18, .mv (.tmp 5),none⟩,⟨some 19, .indexA z (.tmp 17) (.tmp 18),none⟩,⟨some 20, .load true z (.tmp 19),none⟩,⟨some 21, .mv (.tmp 1),none⟩,⟨some 22, .mv (.tmp 5),none⟩,⟨some 23, .indexA z (.tmp 21) (.tmp 22),none⟩,⟨some 24, .load true z (.tmp 23),none⟩,⟨some 25, .call kx [.tmp 20, .tmp 24] true true,none⟩,⟨some 26, .un .not (.tmp 25),none⟩]) (.cond (.tmp 26) Q0 .skip))) (PG 5 15))
def pD :ACode:= .seq (JP 5 0 11) (.seq (.block 1 (.seq (.region [⟨some 17, .mv (.tmp 0),none⟩,⟨some 18, .mv (.tmp 5),none⟩,⟨some 19, .indexA 1 (.tmp 17) (.tmp 18),none⟩,⟨some 20, .load false 1 (.tmp 19),none⟩,⟨some 21, .mv (.tmp 1),none⟩,⟨some 22, .mv (.tmp 5),none⟩,⟨some 23, .indexA 1 (.tmp 21) (.tmp 22),none⟩,⟨some 24, .load false 1 (.tmp 23),none⟩,⟨some 25, .bin .neq (.tmp 20) (.tmp 24),none⟩]) (.cond (.tmp 25) Q0 .skip))) (PG 5 15))
def oV (nt:Nat)(body:ACode):AFn:=⟨nt,[.tmp 4], .seq (.region [⟨some 4, .mv (.pv (.bool false)),none⟩]) (.seq (.seq (.region [⟨some 6, .mv (.tmp 0),none⟩,⟨some 7, .len (.tmp 6),none⟩,⟨some 8, .mv (.tmp 1),none⟩,⟨some 9, .len (.tmp 8),none⟩,⟨some 10, .bin .neq (.tmp 7) (.tmp 9),none⟩]) (.cond (.tmp 10) Q0 .skip)) (.seq (.seq (.region [⟨some 5, .mv (.pv (.int .i64 0)),none⟩]) (.block 0 (.loop body))) (.seq (.region [⟨some 4, .mv (.pv (.bool true)),none⟩]) .ret)))⟩
theorem Qp {z kx:Nat}{rows:List (List PV)}(hz:∀r∈rows,r.length=z)(hlen:rows.length≤maxLen)(hcp:∀r∈rows,ag Φ ext kx [.agg (r.map .pv), .agg (r.map .pv)]=some (aD true)):∀(m k:Nat),k+m=rows.length→
 ∀(u2 u3 u4 u6 u7 u8 u9 u10 x11 x12 x13 x14 x15 x16 x17 x18 x19 x20 x21 x22 x23 x24 x25 x26:V)(h:List AObj),
  ∃t',aV (aG (ag Φ ext) aV (fC z kx)) ⟨[bi rows,bi rows,u2,u3,u4,ai .i64 k,u6,u7,u8,u9,u10,x11,x12,x13,x14,x15,x16,x17,x18,x19,x20,x21,x22,x23,x24,x25,x26],h⟩=some (.exit 0,⟨t',h⟩)∧t'.length=27:=by
 intro m
 induction m with
 |zero=>
  intro k hk u2 u3 u4 u6 u7 u8 u9 u10 x11 x12 x13 x14 x15 x16 x17 x18 x19 x20 x21 x22 x23 x24 x25 x26 h
  have hk':k=rows.length:=by omega
  subst hk'
  refine⟨[bi rows,bi rows,u2,u3,u4,ai .i64 rows.length,u6,u7,u8,u9,u10,ai .i64 rows.length,bi rows,ai .i64 rows.length,aD false,x15,x16,x17,x18,x19,x20,x21,x22,x23,x24,x25,x26],pS ?_ (by simp),rfl⟩
  simp[fC,JP,aG,aK,bA,cI,bZ,Opd.ev,put,asList,L.view,bin,ee,isBool]
 |succ m ih=>
  intro k hk u2 u3 u4 u6 u7 u8 u9 u10 x11 x12 x13 x14 x15 x16 x17 x18 x19 x20 x21 x22 x23 x24 x25 x26 h
  have hlt:k<rows.length:=by omega
  have hrz:(rows[k]).length=z:=hz _ (List.getElem_mem hlt)
  have c1:=hcp _ (List.getElem_mem hlt)
  have hw:=nZ (k:=k) (by unfold maxLen at hlen;omega)
  have hcut:gD true z 0 ((rows[k]).map L.pv)=some (.agg ((rows[k]).map .pv)):=by
   simp[gD,hrz,List.take_of_length_le (show((rows[k]).map L.pv).length≤z by simp[hrz])]
  have hcast:((k+1:Nat):Int)=(k:Int)+1:=by omega
  obtain⟨t',g1,g2⟩:=ih (k+1) (by omega) u2 u3 u4 u6 u7 u8 u9 u10 (ai .i64 k) (bi rows) (ai .i64 rows.length) (aD true) (ai .i64 k) (ai .i64 ((k:Int)+1)) (bi rows) (ai .i64 k) (.one (.ip rows[k] 0)) (.agg ((rows[k]).map .pv)) (bi rows) (ai .i64 k) (.one (.ip rows[k] 0)) (.agg ((rows[k]).map .pv)) (aD true) (aD false) h
  refine⟨t',(jq ?_).trans g1,g2⟩
  rw[hcast]
  simp[fC,JP,PG,aG,aK,bA,cI,bZ,Opd.ev,put,asList,L.view,bin,ee,un,isBool,isInt,hlt,aH,hrz,bt,hcut,au,qP,V.view,c1,V.flat,L.flat,cZ,cV,hw]
theorem Tk {k z kx:Nat}{rows:List (List PV)}(hk:Φ k=some (oV 27 (fC z kx)))(hz:∀r∈rows,r.length=z)(hlen:rows.length≤maxLen)(hcp:∀r∈rows,ag Φ ext kx [.agg (r.map .pv), .agg (r.map .pv)]=some (aD true)):
 ag Φ ext k [bi rows,bi rows]=some (aD true):=by
 refine gA hk ?_
 obtain⟨t',g1,g2⟩:=Qp (Φ:=Φ) (ext:=ext) hz hlen hcp rows.length 0 (by omega) (.tup []) (.tup []) (aD false) (bi rows) (ai .i64 rows.length) (bi rows) (ai .i64 rows.length) (aD false) (.tup []) (.tup []) (.tup []) (.tup []) (.tup []) (.tup []) (.tup []) (.tup []) (.tup []) (.tup []) (.tup []) (.tup []) (.tup []) (.tup []) (.tup []) (.tup []) []
 simp only[show((0:Nat):Int)=0 from rfl]at g1
 generalize hF:aG (ag Φ ext) aV (fC z kx)=F at g1
 simp[oV,Q0,start,mr,aG,hF,aK,bA,cI,bZ,Opd.ev,put,asList,L.view,bin,ee,isBool,done,aT,az,dO,b6,comp,aN,bU,aw,V.cells,g1,g2]
def PV.plain :PV→Bool
 | .lst _=>false
 | .bool _=>false
 |_=>true
theorem QP {p:PV}(h:p.plain=true):bin .neq (.one (.pv p)) (.one (.pv p))=some (aD false):=by
 cases p with
 |int k n=>simp[bin,ee]
 |str s=>simp[bin,j3]
 |bool b=>simp[PV.plain]at h
 |lst es=>simp[PV.plain]at h
theorem Qk {qs:List PV}(hp:∀q∈qs,q.plain=true)(hlen:qs.length≤maxLen):∀(m k:Nat),k+m=qs.length→
 ∀(u2 u3 u4 u6 u7 u8 u9 u10 x11 x12 x13 x14 x15 x16 x17 x18 x19 x20 x21 x22 x23 x24 x25:V)(h:List AObj),
  ∃t',aV (aG (ag Φ ext) aV pD) ⟨[bi (qs.map fun q=>[q]),bi (qs.map fun q=>[q]),u2,u3,u4,ai .i64 k,u6,u7,u8,u9,u10,x11,x12,x13,x14,x15,x16,x17,x18,x19,x20,x21,x22,x23,x24,x25],h⟩=some (.exit 0,⟨t',h⟩)∧t'.length=26:=by
 intro m
 induction m with
 |zero=>
  intro k hk u2 u3 u4 u6 u7 u8 u9 u10 x11 x12 x13 x14 x15 x16 x17 x18 x19 x20 x21 x22 x23 x24 x25 h
  have hk':k=qs.length:=by omega
  subst hk'
  refine⟨[bi (qs.map fun q=>[q]),bi (qs.map fun q=>[q]),u2,u3,u4,ai .i64 qs.length,u6,u7,u8,u9,u10,ai .i64 qs.length,bi (qs.map fun q=>[q]),ai .i64 qs.length,aD false,x15,x16,x17,x18,x19,x20,x21,x22,x23,x24,x25],pS ?_ (by simp),rfl⟩
  simp[pD,JP,aG,aK,bA,cI,bZ,Opd.ev,put,asList,L.view,bin,ee,isBool]
 |succ m ih=>
  intro k hk u2 u3 u4 u6 u7 u8 u9 u10 x11 x12 x13 x14 x15 x16 x17 x18 x19 x20 x21 x22 x23 x24 x25 h
  have hlt:k<qs.length:=by omega
  have hn:=QP (hp _ (List.getElem_mem hlt))
  have hw:=nZ (k:=k) (by unfold maxLen at hlen;omega)
  have hcast:((k+1:Nat):Int)=(k:Int)+1:=by omega
  have hcut:gD false 1 0 [L.pv qs[k]]=some (.one (.pv qs[k])):=by simp[gD]
  have hlss:bin .lss (ai .i64 k) (ai .i64 qs.length)=some (aD true):=by simp[bin,ee,hlt]
  have hadd:bin .add (ai .i64 k) (ai .i64 1)=some (ai .i64 ((k:Int)+1)):=by simp[bin,ee,hw]
  obtain⟨t',g1,g2⟩:=ih (k+1) (by omega) u2 u3 u4 u6 u7 u8 u9 u10 (ai .i64 k) (bi (qs.map fun q=>[q])) (ai .i64 qs.length) (aD true) (ai .i64 k) (ai .i64 ((k:Int)+1)) (bi (qs.map fun q=>[q])) (ai .i64 k) (.one (.ip [qs[k]] 0)) (.one (.pv qs[k])) (bi (qs.map fun q=>[q])) (ai .i64 k) (.one (.ip [qs[k]] 0)) (.one (.pv qs[k])) (aD false) h
  refine⟨t',(jq ?_).trans g1,g2⟩
  rw[hcast]
  simp[pD,JP,PG,aG,aK,bA,cI,bZ,Opd.ev,put,asList,L.view,hlss,hadd,isBool,isInt,hlt,aH,bt,hcut,hn]
theorem Ti {k:Nat}{qs:List PV}(hk:Φ k=some (oV 26 pD))(hp:∀q∈qs,q.plain=true)(hlen:qs.length≤maxLen):ag Φ ext k [bi (qs.map fun q=>[q]),bi (qs.map fun q=>[q])]=some (aD true):=by
 refine gA hk ?_
 obtain⟨t',g1,g2⟩:=Qk (Φ:=Φ) (ext:=ext) hp hlen qs.length 0 (by omega) (.tup []) (.tup []) (aD false) (bi (qs.map fun q=>[q])) (ai .i64 qs.length) (bi (qs.map fun q=>[q])) (ai .i64 qs.length) (aD false) (.tup []) (.tup []) (.tup []) (.tup []) (.tup []) (.tup []) (.tup []) (.tup []) (.tup []) (.tup []) (.tup []) (.tup []) (.tup []) (.tup []) (.tup []) []
 simp only[show((0:Nat):Int)=0 from rfl]at g1
 generalize hF:aG (ag Φ ext) aV pD=F at g1
 simp[oV,Q0,start,mr,aG,hF,aK,bA,cI,bZ,Opd.ev,put,asList,L.view,bin,ee,isBool,done,aT,az,dO,b6,comp,aN,bU,aw,V.cells,g1,g2]
end
theorem fk {t:PTy}{ts:List PTy}{ps:List PV}(h:cP (t::ts) ps):∃p r,ps=p::r∧zB t p∧cP ts r:=by
 cases ps with
 |nil=>cases h
 |cons p r=>exact⟨p,r,rfl,h.1,h.2⟩
theorem ju {ps:List PV}(h:cP [] ps):ps=[]:=by
 cases ps with
 |nil=>rfl
 |cons p r=>cases h
theorem qU {k:IntKind}{p:PV}(h:zB (.int k) p):∃n,p= .int k n:=by
 cases p with
 |int k' n=>exact⟨n,by rw[h.1]⟩
 |_=>cases h
theorem py {p:PV}(h:zB .str p):∃s,p= .str s:=by
 cases p with
 |str s=>exact⟨s,rfl⟩
 |_=>cases h
theorem p6 {p:PV}(h:zB .bool p):∃b,p= .bool b:=by
 cases p with
 |bool b=>exact⟨b,rfl⟩
 |_=>cases h
theorem vy {ts:List PTy}{p:PV}(h:zB (.lst ts) p):∃rows,p= .lst rows:=by
 cases p with
 |lst rows=>exact⟨rows,rfl⟩
 |_=>cases h
theorem bz {ts:List PTy}{rows:List (List PV)}(h:zB (.lst ts) (.lst rows)):rows.length≤maxLen∧∀r∈rows,cP ts r:=h
theorem p5 :∀{ts:List PTy}{ps:List PV},cP ts ps→ps.length=ts.length
 |[],ps,h=>by rw[ju h];rfl
 |t::ts,ps,h=>by
  obtain⟨p,r,rfl,_,h2⟩:=fk h
  simp[p5 h2]
theorem EQ :∀{rows:List (List PV)}{r:List PV},r∈rows→gM r≤dW rows
 |a::rows,r,h=>by
  rcases List.mem_cons.1 h with rfl|h
  ·simp only[dW];omega
  ·have:=EQ h
   simp only[dW];omega
theorem pj (rows:List (List PV)):sz (.lst rows)=rows.length+dW rows:=by simp only[sz]
theorem Tv {rows:List (List PV)}{r:List PV}(m:r∈rows)(h:sz (.lst rows)≤1048576):gM r≤1048576:=by
 have:=EQ m
 rw[pj]at h
 omega
theorem NG {t:PTy}:∀{rows:List (List PV)},(∀r∈rows,cP [t] r)→∃qs:List PV,rows=qs.map fun q=>[q]
 |[],_=>⟨[],rfl⟩
 |a::rows,h=>by
  obtain⟨qs,rfl⟩:=NG (fun r m=>h r (List.mem_cons_of_mem _ m))
  obtain⟨p,r,rfl,_,h2⟩:=fk (h a (List.mem_cons_self))
  obtain rfl:=ju h2
  exact⟨p::qs,rfl⟩
def PTy.easy :PTy→Bool
 | .int _=>true
 | .str=>true
 |_=>false
theorem Tr {t:PTy}{qs:List PV}(ht:t.easy=true)(h:∀r∈(qs.map fun q=>[q]),cP [t] r):∀q∈qs,q.plain=true:=by
 intro q m
 have:=(h [q] (List.mem_map.2 ⟨q,m,rfl⟩)).1
 cases t with
 |int k=>obtain⟨n,rfl⟩:=qU this;rfl
 |str=>obtain⟨n,rfl⟩:=py this;rfl
 |_=>cases ht
def PTy.small :PTy→Bool
 | .int _=>true
 | .bool=>true
 |_=>false
theorem EO :∀{ts:List PTy}{ps:List PV},ts.all PTy.small=true→cP ts ps→gM ps=0
 |[],ps,_,h=>by rw[ju h];simp only[gM]
 |t::ts,ps,ha,h=>by
  simp only[List.all_cons,Bool.and_eq_true]at ha
  obtain⟨p,r,rfl,h1,h2⟩:=fk h
  have:=EO ha.2 h2
  cases t with
  |int k=>obtain⟨n,rfl⟩:=qU h1;simp only[gM,sz,this]
  |bool=>obtain⟨n,rfl⟩:=p6 h1;simp only[gM,sz,this]
  |_=>cases ha.1
theorem Bx {ts:List PTy}(ha:ts.all PTy.small=true):∀{rows:List (List PV)},(∀r∈rows,cP ts r)→dW rows=0
 |[],_=>by simp only[dW]
 |r::rows,h=>by
  simp only[dW,EO ha (h r (List.mem_cons_self)),Bx ha (fun r m=>h r (List.mem_cons_of_mem _ m))]
theorem Se {left:Int}{n:Nat}(h:left<n):less left n= -1:=by unfold less;rw[if_pos h]
theorem J3 {left l:Int}{n:Nat}(h0:0≤left)(q:less left n=l)(hn:¬l<0):l=left-n∧(n:Int)≤left:=by
 unfold less at q
 split at q
 ·omega
 ·omega
end Gi
