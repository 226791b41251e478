/- Of this proof. -/
import Derived.Test.YtbeaonmepfkmmaaGreatGisd
import Derived.KernelRfl
set_option linter.unusedSimpArgs false
set_option linter.unusedVariables false
namespace Gi
open Go Go.RowKit
attribute [local simp] start fB au ai aE aO a9 Opd.ev put asList L.view bin ca isBool done aR aw cq bE comp aK bv al V.cells
theorem sL (f:St→Option (Ex×St))(σ:St):aC f σ=(match f σ with
 |some (.normal,σ')=>aC f σ'
 |r=>r):=by
 cases h:f σ with
 |none=>
  cases hl:aC f σ with
  |none=>rfl
  |some r=>
   obtain⟨n,hn⟩:=kX.1 hl
   cases n with
   |zero=>simp[dU]at hn
   |succ n=>simp[dU,h]at hn
 |some x=>
  obtain⟨e,σ'⟩:=x
  cases e with
  |normal=>exact fG h
  |exit i=>exact it h (by simp)
  |ret=>exact it h (by simp)
def Ci :L→PV
 | .pv p=>p
 | .own _ es=> .lst es
 | .down _ es=> .lst es
 |_=> .lst []
theorem o8 (h:List AObj):∀(ps:List PV),viewL h (ps.map .pv)=some ps
 |[]=>rfl
 |p::ps=>by simp only[List.map_cons,viewL,L.view,o8 h ps]
theorem qP (h:List AObj)(ps:List PV):V.view h (.agg (ps.map .pv))=some (.agg (ps.map .pv)):=by simp only[V.view,o8]
theorem ng :∀(ls:List L)(h:List AObj),ls.all L.clean=true→∃t,(thawL h ls).2=h++t:=fun ls h hc=>(ki ls h hc).2.1
theorem qO :∀(ls:List L)(h:List AObj),ls.all L.clean=true→viewL (thawL h ls).2 (thawL h ls).1=some (ls.map Ci)
 |[],h,_=>rfl
 |l::ls,h,hc=>by
  simp only[List.all_cons,Bool.and_eq_true]at hc
  cases l with
  |own z es=>
   simp only[thawL,List.map_cons,viewL]
   obtain⟨t,ht⟩:=ng ls (h++[.arr z es]) hc.2
   rw[qO ls _ hc.2]
   have:L.view (thawL (h++[AObj.arr z es]) ls).2 (.arr h.length)=some (.lst es):=by
    rw[ht]
    simp[L.view]
   rw[this]
   rfl
  |down z es=>
   simp only[thawL,List.map_cons,viewL]
   obtain⟨t,ht⟩:=ng ls (h++[.darr z es]) hc.2
   rw[qO ls _ hc.2]
   have:L.view (thawL (h++[AObj.darr z es]) ls).2 (.arr h.length)=some (.lst es):=by
    rw[ht]
    simp[L.view]
   rw[this]
   rfl
  |pv p=>simp only[thawL,List.map_cons,viewL,L.view,qO ls h hc.2];rfl
  |nil=>simp only[thawL,List.map_cons,viewL,L.view,qO ls h hc.2];rfl
  |_=>simp[L.clean]at hc
theorem nh :∀(ls:List L)(h:List AObj)(o:Nat),ls.all L.clean=true→o<h.length→(thawL h ls).1.all (L.notArr o)=true
 |[],_,_,_,_=>rfl
 |l::ls,h,o,hc,ho=>by
  simp only[List.all_cons,Bool.and_eq_true]at hc
  cases l with
  |own z es=>
   simp only[thawL,List.all_cons,Bool.and_eq_true]
   exact⟨by simp[L.notArr];omega,nh ls _ o hc.2 (by simp;omega)⟩
  |down z es=>
   simp only[thawL,List.all_cons,Bool.and_eq_true]
   exact⟨by simp[L.notArr];omega,nh ls _ o hc.2 (by simp;omega)⟩
  |pv p=>simp only[thawL,List.all_cons,Bool.and_eq_true];exact⟨rfl,nh ls h o hc.2 ho⟩
  |nil=>simp only[thawL,List.all_cons,Bool.and_eq_true];exact⟨rfl,nh ls h o hc.2 ho⟩
  |_=>simp[L.clean]at hc
theorem CV {α:Type}(a b:List α)(h:a.length=b.length):putAt a 0 b=b:=by
 simp[putAt,h.symm]
theorem zp (h:List AObj):∀(ps:List PV),freezeLs h (ps.map .pv)=h
 |[]=>rfl
 |p::ps=>by
  show freezeLs (freezeL h (.pv p)) (ps.map .pv)=h
  exact zp h ps
theorem zq (h:List AObj)(ps:List PV):freezeVs h [.agg (ps.map .pv)]=h:=zp h ps
theorem Oy (o:Nat)(ps:List PV):(ps.map L.pv).all (L.notArr o)=true:=by
 simp[L.notArr]
theorem Sq {rows:List (List PV)}{k m:Nat}{zero:List PV}(h:k+(m+1)=rows.length):(rows.take k++List.replicate (m+1) zero)[k]? =some zero:=by
 rw[List.getElem?_append_right (by simp;omega),List.getElem?_replicate]
 rw[if_pos (by simp;omega)]
theorem PP {rows:List (List PV)}{k m:Nat}{zero:List PV}(h:k+(m+1)=rows.length):(rows.take k++List.replicate (m+1) zero).set k (rows[k]'(by omega))=rows.take (k+1)++List.replicate m zero:=by
 have hk:k<rows.length:=by omega
 rw[List.set_append_right _ _ (by simp;omega)]
 have:k-(rows.take k).length=0:=by simp;omega
 rw[this,List.replicate_succ,List.set_cons_zero,List.take_succ_eq_append_getElem hk,List.append_assoc]
 rfl
section
variable {Φ:Nat→Option AFn}{ext:Nat→List V→Option V}
def ES (i a t0:Nat):ACode:= .seq (.region [⟨some t0, .mv (.tmp i),none⟩,⟨some (t0+1), .mv (.tmp a),none⟩,⟨some (t0+2), .len (.tmp (t0+1)),none⟩,⟨some (t0+3), .bin .lss (.tmp t0) (.tmp (t0+2)),none⟩]) (.cond (.tmp (t0+3)) .skip (.exit 0))
def Ge (i t0:Nat):ACode:= .region [⟨some t0, .mv (.tmp i),none⟩,⟨some (t0+1), .bin .add (.tmp t0) (.pv (.int .i64 1)),none⟩,⟨some i, .mv (.tmp (t0+1)),none⟩]
theorem jE {k:Nat}(h:k<9223372036854775807):IntKind.i64.wrap ((k:Int)+1)=(k:Int)+1:=by
 rw[IntKind.wrap_i64];omega
def Ul (Φ:Nat→Option AFn)(ext:Nat→List V→Option V)(kx:Nat)(fl:Bool)(r:List PV):Prop:=
 ∃ls,ah Φ ext kx [.agg (r.map .pv)]=some (.agg ls)∧ls.all L.clean=true∧ls.map Ci=r∧(fl=true→ls=r.map .pv∧ls.all L.flat=true)
def vp (t0:Nat):List AOper:=[⟨some t0, .mv (.tmp 1),none⟩,⟨some (t0+1), .mv (.tmp 0),none⟩,⟨some (t0+2), .len (.tmp (t0+1)),none⟩,⟨some (t0+3), .bin .sub (.tmp t0) (.tmp (t0+2)),none⟩,⟨some 1, .mv (.tmp (t0+3)),none⟩]
def nX (t0:Nat):ACode:= .seq (.region [⟨some t0, .mv (.tmp 1),none⟩,⟨some (t0+1), .bin .lss (.tmp t0) (.pv (.int .i64 0)),none⟩]) (.cond (.tmp (t0+1)) (.seq (.region [⟨some 4, .mv (.pv (.int .i64 (-1))),none⟩]) .ret) .skip)
def rU (z kx:Nat):ACode:= .seq (ES 5 0 12) (.seq (.block 1 (.seq (.region [⟨some 18, .mv (.tmp 0),none⟩,⟨some 19, .mv (.tmp 5),none⟩,⟨some 20, .indexA z (.tmp 18) (.tmp 19),none⟩,⟨some 21, .load true z (.tmp 20),none⟩,⟨some 22, .mv (.tmp 1),none⟩,⟨some 23, .call kx [.tmp 21, .tmp 22] true false,none⟩,⟨some 1, .mv (.tmp 23),none⟩]) (nX 24))) (Ge 5 16))
def Hb (z kx:Nat):AFn:=⟨27,[.tmp 4], .seq (.region [⟨some 4, .mv (.pv (.int .i64 0)),none⟩]) (.seq (.region (vp 6)) (.seq (nX 10) (.seq (.seq (.region [⟨some 5, .mv (.pv (.int .i64 0)),none⟩]) (.block 0 (.loop (rU z kx)))) (.seq (.region [⟨some 26, .mv (.tmp 1),none⟩,⟨some 4, .mv (.tmp 26),none⟩]) .ret))))⟩
def SG :AFn:=⟨12,[.tmp 4], .seq (.region [⟨some 4, .mv (.pv (.int .i64 0)),none⟩]) (.seq (.region (vp 5)) (.seq (nX 9) (.seq (.region [⟨some 11, .mv (.tmp 1),none⟩,⟨some 4, .mv (.tmp 11),none⟩]) .ret)))⟩
mutual
def sz :PV→Nat
 | .str s=>s.length
 | .lst rows=>rows.length+cU rows
 |_=>0
def eT :List PV→Nat
 |[]=>0
 |p::ps=>sz p+eT ps
def cU :List (List PV)→Nat
 |[]=>0
 |r::rs=>eT r+cU rs
end
def less (left:Int)(n:Nat):Int:=if left<n then-1 else left-n
def A6 (Φ:Nat→Option AFn)(ext:Nat→List V→Option V)(kx:Nat)(r:List PV):Prop:=
 ∀left:Int,0≤left→left≤1048576→ah Φ ext kx [.agg (r.map .pv),aa .i64 left]=some (aa .i64 (less left (eT r)))
theorem qz {left:Int}{a b:Nat}(h:0≤less left a):less (less left a) b=less left (a+b):=by
 unfold less at*
 split at h
 ·omega
 ·rename_i h1
  rw[if_neg h1]
  by_cases h2:left-(a:Int)<b
  ·rw[if_pos h2,if_pos (by omega)]
  ·rw[if_neg h2,if_neg (by omega)];omega
theorem IX {left:Int}{a b:Nat}(h0:0≤left)(h:less left a<0):less left (a+b)= -1:=by
 unfold less at*
 split at h
 ·rw[if_pos (by omega)]
 ·omega
theorem Tm {k:Nat}{rows:List (List PV)}(hk:Φ k=some SG)(hlen:rows.length≤maxLen){left:Int}(h0:0≤left)(h1:left≤1048576):ah Φ ext k [aQ rows,aa .i64 left]=some (aa .i64 (less left rows.length)):=by
 refine eB hk ?_
 have hw:IntKind.i64.wrap (left-rows.length)=left-rows.length:=by unfold maxLen at hlen;rw[IntKind.wrap_i64];omega
 by_cases hl:left<rows.length
 ·have:left-(rows.length:Int)<0:=by omega
  simp[SG,vp,nX,hw,this,less,hl]
 ·have:¬left-(rows.length:Int)<0:=by omega
  simp[SG,vp,nX,hw,this,less,hl]
end
end Gi
namespace Gi
open Go Go.RowKit
section
variable {Φ:Nat→Option AFn}{ext:Nat→List V→Option V}
theorem Mp {left:Int}{a:Nat}(h:less left a<0)(h0:0≤left):less left a= -1:=by
 unfold less at*
 split at h
 ·rename_i h1;rw[if_pos h1]
 ·omega
theorem Mq {left:Int}{a:Nat}(h0:0≤left):less left a≤left:=by
 unfold less;split<;>omega
theorem zJ {rows:List (List PV)}{k:Nat}(h:k<rows.length):cU (rows.drop k)=eT (rows[k])+cU (rows.drop (k+1)):=by
 rw[List.drop_eq_getElem_cons h,cU]
theorem QQ {z kx:Nat}{rows:List (List PV)}(hz:∀r∈rows,r.length=z)(hlen:rows.length≤maxLen)(hcp:∀r∈rows,A6 Φ ext kx r):∀(m k:Nat),k+m=rows.length→∀(left:Int),0≤left→left≤1048576→
 ∀(u2 u3 u4 u6 u7 u8 u9 u10 u11 x12 x13 x14 x15 x16 x17 x18 x19 x20 x21 x22 x23 x24 x25 u26:V)(h:List AObj),
  ∃e t',aC (au (ah Φ ext) aC (rU z kx)) ⟨[aQ rows,aa .i64 left,u2,u3,u4,aa .i64 k,u6,u7,u8,u9,u10,u11,x12,x13,x14,x15,x16,x17,x18,x19,x20,x21,x22,x23,x24,x25,u26],h⟩=some (e,⟨t',h⟩)∧t'.length=27∧
   ((e= .exit 0∧0≤less left (cU (rows.drop k))∧t'[1]? =some (aa .i64 (less left (cU (rows.drop k)))))∨(e= .ret∧less left (cU (rows.drop k))= -1∧t'[4]? =some (aa .i64 (-1)))):=by
 intro m
 induction m with
 |zero=>
  intro k hk left h0 h1 u2 u3 u4 u6 u7 u8 u9 u10 u11 x12 x13 x14 x15 x16 x17 x18 x19 x20 x21 x22 x23 x24 x25 u26 h
  have hk':k=rows.length:=by omega
  subst hk'
  have hl0:less left (cU (rows.drop rows.length))=left:=by simp[cU,less];omega
  rw[hl0,sL]
  refine⟨.exit 0,[aQ rows,aa .i64 left,u2,u3,u4,aa .i64 rows.length,u6,u7,u8,u9,u10,u11,aa .i64 rows.length,aQ rows,aa .i64 rows.length,aD false,x16,x17,x18,x19,x20,x21,x22,x23,x24,x25,u26],?_,rfl, .inl ⟨rfl,h0,rfl⟩⟩
  simp[rU,ES,au,ai,aE,aO,a9,Opd.ev,put,asList,L.view,bin,ca,isBool]
 |succ m ih=>
  intro k hk left h0 h1 u2 u3 u4 u6 u7 u8 u9 u10 u11 x12 x13 x14 x15 x16 x17 x18 x19 x20 x21 x22 x23 x24 x25 u26 h
  have hlt:k<rows.length:=by omega
  have hrz:(rows[k]).length=z:=hz _ (List.getElem_mem hlt)
  have c1:=hcp _ (List.getElem_mem hlt) left h0 h1
  have hw:=jE (k:=k) (by unfold maxLen at hlen;omega)
  have hcut:fO true z 0 ((rows[k]).map L.pv)=some (.agg ((rows[k]).map .pv)):=by
   simp[fO,hrz,List.take_of_length_le (show((rows[k]).map L.pv).length≤z by simp[hrz])]
  have hcast:((k+1:Nat):Int)=(k:Int)+1:=by omega
  rw[zJ hlt]
  by_cases hneg:less left (eT rows[k])<0
  ·have e1:=IX (b:=cU (rows.drop (k+1))) h0 hneg
   have e2:=Mp hneg h0
   rw[e1]
   rw[e2]at c1
   refine⟨.ret,[aQ rows,aa .i64 (-1),u2,u3,aa .i64 (-1),aa .i64 k,u6,u7,u8,u9,u10,u11,aa .i64 k,aQ rows,aa .i64 rows.length,aD true,x16,x17,aQ rows,aa .i64 k, .one (.ip rows[k] 0), .agg ((rows[k]).map .pv),aa .i64 left,aa .i64 (-1),aa .i64 (-1),aD true,u26],?_,rfl, .inr ⟨rfl,rfl,rfl⟩⟩
   refine it ?_ (by simp)
   simp[rU,ES,Ge,nX,au,ai,aE,aO,a9,Opd.ev,put,asList,L.view,bin,ca,isBool,isInt,hlt,aJ,hrz,bf,hcut,av,o8,V.view,c1,V.flat,L.flat,cX,cN]
  ·have hge:0≤less left (eT rows[k]):=by omega
   obtain⟨e,t',g1,g2,g3⟩:=ih (k+1) (by omega) (less left (eT rows[k])) hge (Int.le_trans (Mq h0) h1) u2 u3 u4 u6 u7 u8 u9 u10 u11 (aa .i64 k) (aQ rows) (aa .i64 rows.length) (aD true) (aa .i64 k) (aa .i64 ((k:Int)+1)) (aQ rows) (aa .i64 k) (.one (.ip rows[k] 0)) (.agg ((rows[k]).map .pv)) (aa .i64 left) (aa .i64 (less left (eT rows[k]))) (aa .i64 (less left (eT rows[k]))) (aD false) u26 h
   rw[qz hge]at g3
   refine⟨e,t',(fG ?_).trans g1,g2,g3⟩
   rw[hcast]
   simp[rU,ES,Ge,nX,au,ai,aE,aO,a9,Opd.ev,put,asList,L.view,bin,ca,isBool,isInt,hlt,aJ,hrz,bf,hcut,av,o8,V.view,c1,V.flat,L.flat,cX,cN,hw,hneg]
theorem Tn {k z kx:Nat}{rows:List (List PV)}(hk:Φ k=some (Hb z kx))(hz:∀r∈rows,r.length=z)(hlen:rows.length≤maxLen)(hcp:∀r∈rows,A6 Φ ext kx r){left:Int}(h0:0≤left)(h1:left≤1048576):
 ah Φ ext k [aQ rows,aa .i64 left]=some (aa .i64 (less left (rows.length+cU rows))):=by
 refine eB hk ?_
 have hw:IntKind.i64.wrap (left-rows.length)=left-rows.length:=by unfold maxLen at hlen;rw[IntKind.wrap_i64];omega
 by_cases hl:left<rows.length
 ·have hn:left-(rows.length:Int)<0:=by omega
  have e:less left (rows.length+cU rows)= -1:=by unfold less;rw[if_pos (by omega)]
  rw[e]
  generalize hF:au (ah Φ ext) aC (rU z kx)=F
  simp[Hb,vp,nX,start,fB,au,hF,ai,aE,aO,a9,Opd.ev,put,asList,L.view,bin,ca,isBool,hw,hn,done,aR,aw,cq,bE,comp,aK,bv,al,V.cells]
 ·have hn:¬left-(rows.length:Int)<0:=by omega
  have hle:left-(rows.length:Int)=less left rows.length:=by unfold less;rw[if_neg hl]
  obtain⟨e,t',g1,g2,g3⟩:=QQ (Φ:=Φ) (ext:=ext) hz hlen hcp rows.length 0 (by omega) (left-rows.length) (by omega) (by omega) (.tup []) (.tup []) (aa .i64 0) (aa .i64 left) (aQ rows) (aa .i64 rows.length) (aa .i64 (left-rows.length)) (aa .i64 (left-rows.length)) (aD false) (.tup []) (.tup []) (.tup []) (.tup []) (.tup []) (.tup []) (.tup []) (.tup []) (.tup []) (.tup []) (.tup []) (.tup []) (.tup []) (.tup []) (.tup []) []
  simp only[List.drop_zero,show((0:Nat):Int)=0 from rfl]at g1 g3
  have hls:less (left-rows.length) (cU rows)=less left (rows.length+cU rows):=by rw[hle];exact qz (by rw[←hle];omega)
  rw[hls]at g3
  generalize hF:au (ah Φ ext) aC (rU z kx)=F at g1
  rcases g3 with⟨rfl,g4,g5⟩|⟨rfl,g4,g5⟩
  ·obtain⟨_,g6⟩:=List.getElem?_eq_some_iff.1 g5
   simp[Hb,vp,nX,start,fB,au,hF,ai,aE,aO,a9,Opd.ev,put,asList,L.view,bin,ca,isBool,hw,hn,done,aR,aw,cq,bE,comp,aK,bv,al,V.cells,g1,g2,g6]
  ·obtain⟨_,g6⟩:=List.getElem?_eq_some_iff.1 g5
   simp[Hb,vp,nX,start,fB,au,hF,ai,aE,aO,a9,Opd.ev,put,asList,L.view,bin,ca,isBool,hw,hn,done,aR,aw,cq,bE,comp,aK,bv,al,V.cells,g1,g2,g6,g4]
def Qy :ACode:= .seq (.region [⟨some 4, .mv (.pv (.bool false)),none⟩]) .ret
def eU (z kx:Nat):ACode:= .seq (ES 5 0 11) (.seq (.block 1 (.seq (.region [⟨some 17, .mv (.tmp 0),none⟩,⟨some 18, .mv (.tmp 5),none⟩,⟨some 19, .indexA z (.tmp 17) (.tmp 18),none⟩,⟨some 20, .load true z (.tmp 19),none⟩,⟨some 21, .mv (.tmp 1),none⟩,⟨some 22, .mv (.tmp 5),none⟩,⟨some 23, .indexA z (.tmp 21) (.tmp 22),none⟩,⟨some 24, .load true z (.tmp 23),none⟩,⟨some 25, .call kx [.tmp 20, .tmp 24] true true,none⟩,⟨some 26, .un .not (.tmp 25),none⟩]) (.cond (.tmp 26) Qy .skip))) (Ge 5 15))
def nU :ACode:= .seq (ES 5 0 11) (.seq (.block 1 (.seq (.region [⟨some 17, .mv (.tmp 0),none⟩,⟨some 18, .mv (.tmp 5),none⟩,⟨some 19, .indexA 1 (.tmp 17) (.tmp 18),none⟩,⟨some 20, .load false 1 (.tmp 19),none⟩,⟨some 21, .mv (.tmp 1),none⟩,⟨some 22, .mv (.tmp 5),none⟩,⟨some 23, .indexA 1 (.tmp 21) (.tmp 22),none⟩,⟨some 24, .load false 1 (.tmp 23),none⟩,⟨some 25, .bin .neq (.tmp 20) (.tmp 24),none⟩]) (.cond (.tmp 25) Qy .skip))) (Ge 5 15))
def nl (nt:Nat)(body:ACode):AFn:=⟨nt,[.tmp 4], .seq (.region [⟨some 4, .mv (.pv (.bool false)),none⟩]) (.seq (.seq (.region [⟨some 6, .mv (.tmp 0),none⟩,⟨some 7, .len (.tmp 6),none⟩,⟨some 8, .mv (.tmp 1),none⟩,⟨some 9, .len (.tmp 8),none⟩,⟨some 10, .bin .neq (.tmp 7) (.tmp 9),none⟩]) (.cond (.tmp 10) Qy .skip)) (.seq (.seq (.region [⟨some 5, .mv (.pv (.int .i64 0)),none⟩]) (.block 0 (.loop body))) (.seq (.region [⟨some 4, .mv (.pv (.bool true)),none⟩]) .ret)))⟩
theorem PO {z kx:Nat}{rows:List (List PV)}(hz:∀r∈rows,r.length=z)(hlen:rows.length≤maxLen)(hcp:∀r∈rows,ah Φ ext kx [.agg (r.map .pv), .agg (r.map .pv)]=some (aD true)):∀(m k:Nat),k+m=rows.length→
 ∀(u2 u3 u4 u6 u7 u8 u9 u10 x11 x12 x13 x14 x15 x16 x17 x18 x19 x20 x21 x22 x23 x24 x25 x26:V)(h:List AObj),
  ∃t',aC (au (ah Φ ext) aC (eU z kx)) ⟨[aQ rows,aQ rows,u2,u3,u4,aa .i64 k,u6,u7,u8,u9,u10,x11,x12,x13,x14,x15,x16,x17,x18,x19,x20,x21,x22,x23,x24,x25,x26],h⟩=some (.exit 0,⟨t',h⟩)∧t'.length=27:=by
 intro m
 induction m with
 |zero=>
  intro k hk u2 u3 u4 u6 u7 u8 u9 u10 x11 x12 x13 x14 x15 x16 x17 x18 x19 x20 x21 x22 x23 x24 x25 x26 h
  have hk':k=rows.length:=by omega
  subst hk'
  refine⟨[aQ rows,aQ rows,u2,u3,u4,aa .i64 rows.length,u6,u7,u8,u9,u10,aa .i64 rows.length,aQ rows,aa .i64 rows.length,aD false,x15,x16,x17,x18,x19,x20,x21,x22,x23,x24,x25,x26],it ?_ (by simp),rfl⟩
  simp[eU,ES,au,ai,aE,aO,a9,Opd.ev,put,asList,L.view,bin,ca,isBool]
 |succ m ih=>
  intro k hk u2 u3 u4 u6 u7 u8 u9 u10 x11 x12 x13 x14 x15 x16 x17 x18 x19 x20 x21 x22 x23 x24 x25 x26 h
  have hlt:k<rows.length:=by omega
  have hrz:(rows[k]).length=z:=hz _ (List.getElem_mem hlt)
  have c1:=hcp _ (List.getElem_mem hlt)
  have hw:=jE (k:=k) (by unfold maxLen at hlen;omega)
  have hcut:fO true z 0 ((rows[k]).map L.pv)=some (.agg ((rows[k]).map .pv)):=by
   simp[fO,hrz,List.take_of_length_le (show((rows[k]).map L.pv).length≤z by simp[hrz])]
  have hcast:((k+1:Nat):Int)=(k:Int)+1:=by omega
  obtain⟨t',g1,g2⟩:=ih (k+1) (by omega) u2 u3 u4 u6 u7 u8 u9 u10 (aa .i64 k) (aQ rows) (aa .i64 rows.length) (aD true) (aa .i64 k) (aa .i64 ((k:Int)+1)) (aQ rows) (aa .i64 k) (.one (.ip rows[k] 0)) (.agg ((rows[k]).map .pv)) (aQ rows) (aa .i64 k) (.one (.ip rows[k] 0)) (.agg ((rows[k]).map .pv)) (aD true) (aD false) h
  refine⟨t',(fG ?_).trans g1,g2⟩
  rw[hcast]
  simp[eU,ES,Ge,au,ai,aE,aO,a9,Opd.ev,put,asList,L.view,bin,ca,un,isBool,isInt,hlt,aJ,hrz,bf,hcut,av,o8,V.view,c1,V.flat,L.flat,cX,cN,hw]
theorem S2 {k z kx:Nat}{rows:List (List PV)}(hk:Φ k=some (nl 27 (eU z kx)))(hz:∀r∈rows,r.length=z)(hlen:rows.length≤maxLen)(hcp:∀r∈rows,ah Φ ext kx [.agg (r.map .pv), .agg (r.map .pv)]=some (aD true)):
 ah Φ ext k [aQ rows,aQ rows]=some (aD true):=by
 refine eB hk ?_
 obtain⟨t',g1,g2⟩:=PO (Φ:=Φ) (ext:=ext) hz hlen hcp rows.length 0 (by omega) (.tup []) (.tup []) (aD false) (aQ rows) (aa .i64 rows.length) (aQ rows) (aa .i64 rows.length) (aD false) (.tup []) (.tup []) (.tup []) (.tup []) (.tup []) (.tup []) (.tup []) (.tup []) (.tup []) (.tup []) (.tup []) (.tup []) (.tup []) (.tup []) (.tup []) (.tup []) []
 simp only[show((0:Nat):Int)=0 from rfl]at g1
 generalize hF:au (ah Φ ext) aC (eU z kx)=F at g1
 simp[nl,Qy,start,fB,au,hF,ai,aE,aO,a9,Opd.ev,put,asList,L.view,bin,ca,isBool,done,aR,aw,cq,bE,comp,aK,bv,al,V.cells,g1,g2]
def PV.plain :PV→Bool
 | .lst _=>false
 | .bool _=>false
 |_=>true
theorem CN {p:PV}(h:p.plain=true):bin .neq (.one (.pv p)) (.one (.pv p))=some (aD false):=by
 cases p with
 |int k n=>simp[bin,ca]
 |str s=>simp[bin,iK]
 |bool b=>simp[PV.plain]at h
 |lst es=>simp[PV.plain]at h
theorem PN {qs:List PV}(hp:∀q∈qs,q.plain=true)(hlen:qs.length≤maxLen):∀(m k:Nat),k+m=qs.length→
 ∀(u2 u3 u4 u6 u7 u8 u9 u10 x11 x12 x13 x14 x15 x16 x17 x18 x19 x20 x21 x22 x23 x24 x25:V)(h:List AObj),
  ∃t',aC (au (ah Φ ext) aC nU) ⟨[aQ (qs.map fun q=>[q]),aQ (qs.map fun q=>[q]),u2,u3,u4,aa .i64 k,u6,u7,u8,u9,u10,x11,x12,x13,x14,x15,x16,x17,x18,x19,x20,x21,x22,x23,x24,x25],h⟩=some (.exit 0,⟨t',h⟩)∧t'.length=26:=by
 intro m
 induction m with
 |zero=>
  intro k hk u2 u3 u4 u6 u7 u8 u9 u10 x11 x12 x13 x14 x15 x16 x17 x18 x19 x20 x21 x22 x23 x24 x25 h
  have hk':k=qs.length:=by omega
  subst hk'
  refine⟨[aQ (qs.map fun q=>[q]),aQ (qs.map fun q=>[q]),u2,u3,u4,aa .i64 qs.length,u6,u7,u8,u9,u10,aa .i64 qs.length,aQ (qs.map fun q=>[q]),aa .i64 qs.length,aD false,x15,x16,x17,x18,x19,x20,x21,x22,x23,x24,x25],it ?_ (by simp),rfl⟩
  simp[nU,ES,au,ai,aE,aO,a9,Opd.ev,put,asList,L.view,bin,ca,isBool]
 |succ m ih=>
  intro k hk u2 u3 u4 u6 u7 u8 u9 u10 x11 x12 x13 x14 x15 x16 x17 x18 x19 x20 x21 x22 x23 x24 x25 h
  have hlt:k<qs.length:=by omega
  have hn:=CN (hp _ (List.getElem_mem hlt))
  have hw:=jE (k:=k) (by unfold maxLen at hlen;omega)
  have hcast:((k+1:Nat):Int)=(k:Int)+1:=by omega
  have hcut:fO false 1 0 [L.pv qs[k]]=some (.one (.pv qs[k])):=by simp[fO]
  have hlss:bin .lss (aa .i64 k) (aa .i64 qs.length)=some (aD true):=by simp[bin,ca,hlt]
  have hadd:bin .add (aa .i64 k) (aa .i64 1)=some (aa .i64 ((k:Int)+1)):=by simp[bin,ca,hw]
  obtain⟨t',g1,g2⟩:=ih (k+1) (by omega) u2 u3 u4 u6 u7 u8 u9 u10 (aa .i64 k) (aQ (qs.map fun q=>[q])) (aa .i64 qs.length) (aD true) (aa .i64 k) (aa .i64 ((k:Int)+1)) (aQ (qs.map fun q=>[q])) (aa .i64 k) (.one (.ip [qs[k]] 0)) (.one (.pv qs[k])) (aQ (qs.map fun q=>[q])) (aa .i64 k) (.one (.ip [qs[k]] 0)) (.one (.pv qs[k])) (aD false) h
  refine⟨t',(fG ?_).trans g1,g2⟩
  rw[hcast]
  simp[nU,ES,Ge,au,ai,aE,aO,a9,Opd.ev,put,asList,L.view,hlss,hadd,isBool,isInt,hlt,aJ,bf,hcut,hn]
theorem S1 {k:Nat}{qs:List PV}(hk:Φ k=some (nl 26 nU))(hp:∀q∈qs,q.plain=true)(hlen:qs.length≤maxLen):ah Φ ext k [aQ (qs.map fun q=>[q]),aQ (qs.map fun q=>[q])]=some (aD true):=by
 refine eB hk ?_
 obtain⟨t',g1,g2⟩:=PN (Φ:=Φ) (ext:=ext) hp hlen qs.length 0 (by omega) (.tup []) (.tup []) (aD false) (aQ (qs.map fun q=>[q])) (aa .i64 qs.length) (aQ (qs.map fun q=>[q])) (aa .i64 qs.length) (aD false) (.tup []) (.tup []) (.tup []) (.tup []) (.tup []) (.tup []) (.tup []) (.tup []) (.tup []) (.tup []) (.tup []) (.tup []) (.tup []) (.tup []) (.tup []) []
 simp only[show((0:Nat):Int)=0 from rfl]at g1
 generalize hF:au (ah Φ ext) aC nU=F at g1
 simp[nl,Qy,start,fB,au,hF,ai,aE,aO,a9,Opd.ev,put,asList,L.view,bin,ca,isBool,done,aR,aw,cq,bE,comp,aK,bv,al,V.cells,g1,g2]
end
theorem dB {t:PTy}{ts:List PTy}{ps:List PV}(h:bp (t::ts) ps):∃p r,ps=p::r∧n5 t p∧bp ts r:=by
 cases ps with
 |nil=>cases h
 |cons p r=>exact⟨p,r,rfl,h.1,h.2⟩
theorem eV {ps:List PV}(h:bp [] ps):ps=[]:=by
 cases ps with
 |nil=>rfl
 |cons p r=>cases h
theorem lh {k:IntKind}{p:PV}(h:n5 (.int k) p):∃n,p= .int k n:=by
 cases p with
 |int k' n=>exact⟨n,by rw[h.1]⟩
 |_=>cases h
theorem jG {p:PV}(h:n5 .str p):∃s,p= .str s:=by
 cases p with
 |str s=>exact⟨s,rfl⟩
 |_=>cases h
theorem j7 {p:PV}(h:n5 .bool p):∃b,p= .bool b:=by
 cases p with
 |bool b=>exact⟨b,rfl⟩
 |_=>cases h
theorem mV {ts:List PTy}{p:PV}(h:n5 (.lst ts) p):∃rows,p= .lst rows:=by
 cases p with
 |lst rows=>exact⟨rows,rfl⟩
 |_=>cases h
theorem aS {ts:List PTy}{rows:List (List PV)}(h:n5 (.lst ts) (.lst rows)):rows.length≤maxLen∧∀r∈rows,bp ts r:=h
theorem jp :∀{ts:List PTy}{ps:List PV},bp ts ps→ps.length=ts.length
 |[],ps,h=>by rw[eV h];rfl
 |t::ts,ps,h=>by
  obtain⟨p,r,rfl,_,h2⟩:=dB h
  simp[jp h2]
theorem rS :∀{rows:List (List PV)}{r:List PV},r∈rows→eT r≤cU rows
 |a::rows,r,h=>by
  rcases List.mem_cons.1 h with rfl|h
  ·simp only[cU];omega
  ·have:=rS h
   simp only[cU];omega
theorem k6 (rows:List (List PV)):sz (.lst rows)=rows.length+cU rows:=by simp only[sz]
theorem Ti {rows:List (List PV)}{r:List PV}(m:r∈rows)(h:sz (.lst rows)≤1048576):eT r≤1048576:=by
 have:=rS m
 rw[k6]at h
 omega
theorem M2 {t:PTy}:∀{rows:List (List PV)},(∀r∈rows,bp [t] r)→∃qs:List PV,rows=qs.map fun q=>[q]
 |[],_=>⟨[],rfl⟩
 |a::rows,h=>by
  obtain⟨qs,rfl⟩:=M2 (fun r m=>h r (List.mem_cons_of_mem _ m))
  obtain⟨p,r,rfl,_,h2⟩:=dB (h a (List.mem_cons_self))
  obtain rfl:=eV h2
  exact⟨p::qs,rfl⟩
def PTy.easy :PTy→Bool
 | .int _=>true
 | .str=>true
 |_=>false
theorem Tc {t:PTy}{qs:List PV}(ht:t.easy=true)(h:∀r∈(qs.map fun q=>[q]),bp [t] r):∀q∈qs,q.plain=true:=by
 intro q m
 have:=(h [q] (List.mem_map.2 ⟨q,m,rfl⟩)).1
 cases t with
 |int k=>obtain⟨n,rfl⟩:=lh this;rfl
 |str=>obtain⟨n,rfl⟩:=jG this;rfl
 |_=>cases ht
def PTy.small :PTy→Bool
 | .int _=>true
 | .bool=>true
 |_=>false
theorem Di :∀{ts:List PTy}{ps:List PV},ts.all PTy.small=true→bp ts ps→eT ps=0
 |[],ps,_,h=>by rw[eV h];simp only[eT]
 |t::ts,ps,ha,h=>by
  simp only[List.all_cons,Bool.and_eq_true]at ha
  obtain⟨p,r,rfl,h1,h2⟩:=dB h
  have:=Di ha.2 h2
  cases t with
  |int k=>obtain⟨n,rfl⟩:=lh h1;simp only[eT,sz,this]
  |bool=>obtain⟨n,rfl⟩:=j7 h1;simp only[eT,sz,this]
  |_=>cases ha.1
theorem zL {ts:List PTy}(ha:ts.all PTy.small=true):∀{rows:List (List PV)},(∀r∈rows,bp ts r)→cU rows=0
 |[],_=>by simp only[cU]
 |r::rows,h=>by
  simp only[cU,Di ha (h r (List.mem_cons_self)),zL ha (fun r m=>h r (List.mem_cons_of_mem _ m))]
theorem RP {left:Int}{n:Nat}(h:left<n):less left n= -1:=by unfold less;rw[if_pos h]
theorem Qa {left l:Int}{n:Nat}(h0:0≤left)(q:less left n=l)(hn:¬l<0):l=left-n∧(n:Int)≤left:=by
 unfold less at q
 split at q
 ·omega
 ·omega
end Gi
