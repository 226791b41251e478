/- Of this proof. -/
import Derived.Test.YtgmnakghjemjlabGreatGis
import Derived.KernelRfl
set_option linter.unusedSimpArgs false
set_option linter.unusedVariables false
namespace Gi
open Go Go.RowKit
attribute [local simp] bw fm aj ah aw aH bg Opd.ev put asList L.view bin bN isBool done aU ar bz bP comp aK bu ai V.cells
theorem sx (f:St→Option (Ex×St))(σ:St):av f σ=(match f σ with
 |some (.normal,σ')=>av f σ'
 |r=>r):=by
 cases h:f σ with
 |none=>
  cases hl:av f σ with
  |none=>rfl
  |some r=>
   obtain⟨n,hn⟩:=kW.1 hl
   cases n with
   |zero=>simp[dU]at hn
   |succ n=>simp[dU,h]at hn
 |some x=>
  obtain⟨e,σ'⟩:=x
  cases e with
  |normal=>exact fK h
  |exit i=>exact gA h (by simp)
  |ret=>exact gA h (by simp)
def CO :L→PV
 | .pv p=>p
 | .own _ es=> .lst es
 | .down _ es=> .lst es
 |_=> .lst []
theorem pn (h:List AObj):∀(ps:List PV),viewL h (ps.map .pv)=some ps
 |[]=>rfl
 |p::ps=>by simp only[List.map_cons,viewL,L.view,pn h ps]
theorem qD (h:List AObj)(ps:List PV):V.view h (.agg (ps.map .pv))=some (.agg (ps.map .pv)):=by simp only[V.view,pn]
theorem m6 :∀(ls:List L)(h:List AObj),ls.all L.clean=true→∃t,(thawL h ls).2=h++t:=fun ls h hc=>(j9 ls h hc).2.1
theorem qC :∀(ls:List L)(h:List AObj),ls.all L.clean=true→viewL (thawL h ls).2 (thawL h ls).1=some (ls.map CO)
 |[],h,_=>rfl
 |l::ls,h,hc=>by
  simp only[List.all_cons,Bool.and_eq_true]at hc
  cases l with
  |own z es=>
   simp only[thawL,List.map_cons,viewL]
   obtain⟨t,ht⟩:=m6 ls (h++[.arr z es]) hc.2
   rw[qC ls _ hc.2]
   have:L.view (thawL (h++[AObj.arr z es]) ls).2 (.arr h.length)=some (.lst es):=by
    rw[ht]
    simp[L.view]
   rw[this]
   rfl
  |down z es=>
   simp only[thawL,List.map_cons,viewL]
   obtain⟨t,ht⟩:=m6 ls (h++[.darr z es]) hc.2
   rw[qC ls _ hc.2]
   have:L.view (thawL (h++[AObj.darr z es]) ls).2 (.arr h.length)=some (.lst es):=by
    rw[ht]
    simp[L.view]
   rw[this]
   rfl
  |pv p=>simp only[thawL,List.map_cons,viewL,L.view,qC ls h hc.2];rfl
  |nil=>simp only[thawL,List.map_cons,viewL,L.view,qC ls h hc.2];rfl
  |_=>simp[L.clean]at hc
theorem m7 :∀(ls:List L)(h:List AObj)(o:Nat),ls.all L.clean=true→o<h.length→(thawL h ls).1.all (L.notArr o)=true
 |[],_,_,_,_=>rfl
 |l::ls,h,o,hc,ho=>by
  simp only[List.all_cons,Bool.and_eq_true]at hc
  cases l with
  |own z es=>
   simp only[thawL,List.all_cons,Bool.and_eq_true]
   exact⟨by simp[L.notArr];omega,m7 ls _ o hc.2 (by simp;omega)⟩
  |down z es=>
   simp only[thawL,List.all_cons,Bool.and_eq_true]
   exact⟨by simp[L.notArr];omega,m7 ls _ o hc.2 (by simp;omega)⟩
  |pv p=>simp only[thawL,List.all_cons,Bool.and_eq_true];exact⟨rfl,m7 ls h o hc.2 ho⟩
  |nil=>simp only[thawL,List.all_cons,Bool.and_eq_true];exact⟨rfl,m7 ls h o hc.2 ho⟩
  |_=>simp[L.clean]at hc
theorem Dn {α:Type}(a b:List α)(h:a.length=b.length):putAt a 0 b=b:=by
 simp[putAt,h.symm]
theorem zS (h:List AObj):∀(ps:List PV),freezeLs h (ps.map .pv)=h
 |[]=>rfl
 |p::ps=>by
  show freezeLs (freezeL h (.pv p)) (ps.map .pv)=h
  exact zS h ps
theorem zT (h:List AObj)(ps:List PV):freezeVs h [.agg (ps.map .pv)]=h:=zS h ps
theorem MT (o:Nat)(ps:List PV):(ps.map L.pv).all (L.notArr o)=true:=by
 simp[L.notArr]
theorem PN {rows:List (List PV)}{k m:Nat}{zero:List PV}(h:k+(m+1)=rows.length):(rows.take k++List.replicate (m+1) zero)[k]? =some zero:=by
 rw[List.getElem?_append_right (by simp;omega),List.getElem?_replicate]
 rw[if_pos (by simp;omega)]
theorem NY {rows:List (List PV)}{k m:Nat}{zero:List PV}(h:k+(m+1)=rows.length):(rows.take k++List.replicate (m+1) zero).set k (rows[k]'(by omega))=rows.take (k+1)++List.replicate m zero:=by
 have hk:k<rows.length:=by omega
 rw[List.set_append_right _ _ (by simp;omega)]
 have:k-(rows.take k).length=0:=by simp;omega
 rw[this,List.replicate_succ,List.set_cons_zero,List.take_succ_eq_append_getElem hk,List.append_assoc]
 rfl
section
variable {Φ:Nat→Option AFn}{ext:Nat→List V→Option V}
def Fq (i a t0:Nat):ACode:= .seq (.region [⟨some t0, .mv (.tmp i),none⟩,⟨some (t0+1), .mv (.tmp a),none⟩,⟨some (t0+2), .len (.tmp (t0+1)),none⟩,⟨some (t0+3), .bin .lss (.tmp t0) (.tmp (t0+2)),none⟩]) (.cond (.tmp (t0+3)) .skip (.exit 0))
def Gw (i t0:Nat):ACode:= .region [⟨some t0, .mv (.tmp i),none⟩,⟨some (t0+1), .bin .add (.tmp t0) (.pv (.int .i64 1)),none⟩,⟨some i, .mv (.tmp (t0+1)),none⟩]
theorem jA {k:Nat}(h:k<9223372036854775807):IntKind.i64.wrap ((k:Int)+1)=(k:Int)+1:=by
 rw[IntKind.wrap_i64];omega
def Rk (Φ:Nat→Option AFn)(ext:Nat→List V→Option V)(kx:Nat)(fl:Bool)(r:List PV):Prop:=
 ∃ls,ag Φ ext kx [.agg (r.map .pv)]=some (.agg ls)∧ls.all L.clean=true∧ls.map CO=r∧(fl=true→ls=r.map .pv∧ls.all L.flat=true)
def vO (t0:Nat):List AOper:=[⟨some t0, .mv (.tmp 1),none⟩,⟨some (t0+1), .mv (.tmp 0),none⟩,⟨some (t0+2), .len (.tmp (t0+1)),none⟩,⟨some (t0+3), .bin .sub (.tmp t0) (.tmp (t0+2)),none⟩,⟨some 1, .mv (.tmp (t0+3)),none⟩]
def nM (t0:Nat):ACode:= .seq (.region [⟨some t0, .mv (.tmp 1),none⟩,⟨some (t0+1), .bin .lss (.tmp t0) (.pv (.int .i64 0)),none⟩]) (.cond (.tmp (t0+1)) (.seq (.region [⟨some 4, .mv (.pv (.int .i64 (-1))),none⟩]) .ret) .skip)
def rj (z kx:Nat):ACode:= .seq (Fq 5 0 12) (.seq (.block 1 (.seq (.region [⟨some 18, .mv (.tmp 0),none⟩,⟨some 19, .mv (.tmp 5),none⟩,⟨some 20, .indexA z (.tmp 18) (.tmp 19),none⟩,⟨some 21, .load true z (.tmp 20),none⟩,⟨some 22, .mv (.tmp 1),none⟩,⟨some 23, .call kx [.tmp 21, .tmp 22] true false,none⟩,⟨some 1, .mv (.tmp 23),none⟩]) (nM 24))) (Gw 5 16))
def G2 (z kx:Nat):AFn:=⟨27,[.tmp 4], .seq (.region [⟨some 4, .mv (.pv (.int .i64 0)),none⟩]) (.seq (.region (vO 6)) (.seq (nM 10) (.seq (.seq (.region [⟨some 5, .mv (.pv (.int .i64 0)),none⟩]) (.block 0 (.loop (rj z kx)))) (.seq (.region [⟨some 26, .mv (.tmp 1),none⟩,⟨some 4, .mv (.tmp 26),none⟩]) .ret))))⟩
def PS :AFn:=⟨12,[.tmp 4], .seq (.region [⟨some 4, .mv (.pv (.int .i64 0)),none⟩]) (.seq (.region (vO 5)) (.seq (nM 9) (.seq (.region [⟨some 11, .mv (.tmp 1),none⟩,⟨some 4, .mv (.tmp 11),none⟩]) .ret)))⟩
mutual
def sz :PV→Nat
 | .str s=>s.length
 | .lst rows=>rows.length+cu rows
 |_=>0
def eV :List PV→Nat
 |[]=>0
 |p::ps=>sz p+eV ps
def cu :List (List PV)→Nat
 |[]=>0
 |r::rs=>eV r+cu rs
end
def less (left:Int)(n:Nat):Int:=if left<n then-1 else left-n
def BD (Φ:Nat→Option AFn)(ext:Nat→List V→Option V)(kx:Nat)(r:List PV):Prop:=
 ∀left:Int,0≤left→left≤1048576→ag Φ ext kx [.agg (r.map .pv),aa .i64 left]=some (aa .i64 (less left (eV r)))
theorem qm {left:Int}{a b:Nat}(h:0≤less left a):less (less left a) b=less left (a+b):=by
 unfold less at*
 split at h
 ·omega
 ·rename_i h1
  rw[if_neg h1]
  by_cases h2:left-(a:Int)<b
  ·rw[if_pos h2,if_pos (by omega)]
  ·rw[if_neg h2,if_neg (by omega)];omega
theorem Iq {left:Int}{a b:Nat}(h0:0≤left)(h:less left a<0):less left (a+b)= -1:=by
 unfold less at*
 split at h
 ·rw[if_pos (by omega)]
 ·omega
theorem Ql {k:Nat}{rows:List (List PV)}(hk:Φ k=some PS)(hlen:rows.length≤maxLen){left:Int}(h0:0≤left)(h1:left≤1048576):ag Φ ext k [bm rows,aa .i64 left]=some (aa .i64 (less left rows.length)):=by
 refine fS hk ?_
 have hw:IntKind.i64.wrap (left-rows.length)=left-rows.length:=by unfold maxLen at hlen;rw[IntKind.wrap_i64];omega
 by_cases hl:left<rows.length
 ·have:left-(rows.length:Int)<0:=by omega
  simp[PS,vO,nM,hw,this,less,hl]
 ·have:¬left-(rows.length:Int)<0:=by omega
  simp[PS,vO,nM,hw,this,less,hl]
end
end Gi
namespace Gi
open Go Go.RowKit
section
variable {Φ:Nat→Option AFn}{ext:Nat→List V→Option V}
theorem Le {left:Int}{a:Nat}(h:less left a<0)(h0:0≤left):less left a= -1:=by
 unfold less at*
 split at h
 ·rename_i h1;rw[if_pos h1]
 ·omega
theorem Lf {left:Int}{a:Nat}(h0:0≤left):less left a≤left:=by
 unfold less;split<;>omega
theorem Aj {rows:List (List PV)}{k:Nat}(h:k<rows.length):cu (rows.drop k)=eV (rows[k])+cu (rows.drop (k+1)):=by
 rw[List.drop_eq_getElem_cons h,cu]
theorem OK {z kx:Nat}{rows:List (List PV)}(hz:∀r∈rows,r.length=z)(hlen:rows.length≤maxLen)(hcp:∀r∈rows,BD Φ ext kx r):∀(m k:Nat),k+m=rows.length→∀(left:Int),0≤left→left≤1048576→
 ∀(u2 u3 u4 u6 u7 u8 u9 u10 u11 x12 x13 x14 x15 x16 x17 x18 x19 x20 x21 x22 x23 x24 x25 u26:V)(h:List AObj),
  ∃e t',av (aj (ag Φ ext) av (rj z kx)) ⟨[bm rows,aa .i64 left,u2,u3,u4,aa .i64 k,u6,u7,u8,u9,u10,u11,x12,x13,x14,x15,x16,x17,x18,x19,x20,x21,x22,x23,x24,x25,u26],h⟩=some (e,⟨t',h⟩)∧t'.length=27∧
   ((e= .exit 0∧0≤less left (cu (rows.drop k))∧t'[1]? =some (aa .i64 (less left (cu (rows.drop k)))))∨(e= .ret∧less left (cu (rows.drop k))= -1∧t'[4]? =some (aa .i64 (-1)))):=by
 intro m
 induction m with
 |zero=>
  intro k hk left h0 h1 u2 u3 u4 u6 u7 u8 u9 u10 u11 x12 x13 x14 x15 x16 x17 x18 x19 x20 x21 x22 x23 x24 x25 u26 h
  have hk':k=rows.length:=by omega
  subst hk'
  have hl0:less left (cu (rows.drop rows.length))=left:=by simp[cu,less];omega
  rw[hl0,sx]
  refine⟨.exit 0,[bm rows,aa .i64 left,u2,u3,u4,aa .i64 rows.length,u6,u7,u8,u9,u10,u11,aa .i64 rows.length,bm rows,aa .i64 rows.length,au false,x16,x17,x18,x19,x20,x21,x22,x23,x24,x25,u26],?_,rfl, .inl ⟨rfl,h0,rfl⟩⟩
  simp[rj,Fq,aj,ah,aw,aH,bg,Opd.ev,put,asList,L.view,bin,bN,isBool]
 |succ m ih=>
  intro k hk left h0 h1 u2 u3 u4 u6 u7 u8 u9 u10 u11 x12 x13 x14 x15 x16 x17 x18 x19 x20 x21 x22 x23 x24 x25 u26 h
  have hlt:k<rows.length:=by omega
  have hrz:(rows[k]).length=z:=hz _ (List.getElem_mem hlt)
  have c1:=hcp _ (List.getElem_mem hlt) left h0 h1
  have hw:=jA (k:=k) (by unfold maxLen at hlen;omega)
  have hcut:gr true z 0 ((rows[k]).map L.pv)=some (.agg ((rows[k]).map .pv)):=by
   simp[gr,hrz,List.take_of_length_le (show((rows[k]).map L.pv).length≤z by simp[hrz])]
  have hcast:((k+1:Nat):Int)=(k:Int)+1:=by omega
  rw[Aj hlt]
  by_cases hneg:less left (eV rows[k])<0
  ·have e1:=Iq (b:=cu (rows.drop (k+1))) h0 hneg
   have e2:=Le hneg h0
   rw[e1]
   rw[e2]at c1
   refine⟨.ret,[bm rows,aa .i64 (-1),u2,u3,aa .i64 (-1),aa .i64 k,u6,u7,u8,u9,u10,u11,aa .i64 k,bm rows,aa .i64 rows.length,au true,x16,x17,bm rows,aa .i64 k, .one (.ip rows[k] 0), .agg ((rows[k]).map .pv),aa .i64 left,aa .i64 (-1),aa .i64 (-1),au true,u26],?_,rfl, .inr ⟨rfl,rfl,rfl⟩⟩
   refine gA ?_ (by simp)
   simp[rj,Fq,Gw,nM,aj,ah,aw,aH,bg,Opd.ev,put,asList,L.view,bin,bN,isBool,isInt,hlt,aJ,hrz,bo,hcut,ap,pn,V.view,c1,V.flat,L.flat,dJ,dk]
  ·have hge:0≤less left (eV rows[k]):=by omega
   obtain⟨e,t',g1,g2,g3⟩:=ih (k+1) (by omega) (less left (eV rows[k])) hge (Int.le_trans (Lf h0) h1) u2 u3 u4 u6 u7 u8 u9 u10 u11 (aa .i64 k) (bm rows) (aa .i64 rows.length) (au true) (aa .i64 k) (aa .i64 ((k:Int)+1)) (bm rows) (aa .i64 k) (.one (.ip rows[k] 0)) (.agg ((rows[k]).map .pv)) (aa .i64 left) (aa .i64 (less left (eV rows[k]))) (aa .i64 (less left (eV rows[k]))) (au false) u26 h
   rw[qm hge]at g3
   refine⟨e,t',(fK ?_).trans g1,g2,g3⟩
   rw[hcast]
   simp[rj,Fq,Gw,nM,aj,ah,aw,aH,bg,Opd.ev,put,asList,L.view,bin,bN,isBool,isInt,hlt,aJ,hrz,bo,hcut,ap,pn,V.view,c1,V.flat,L.flat,dJ,dk,hw,hneg]
theorem Qm {k z kx:Nat}{rows:List (List PV)}(hk:Φ k=some (G2 z kx))(hz:∀r∈rows,r.length=z)(hlen:rows.length≤maxLen)(hcp:∀r∈rows,BD Φ ext kx r){left:Int}(h0:0≤left)(h1:left≤1048576):
 ag Φ ext k [bm rows,aa .i64 left]=some (aa .i64 (less left (rows.length+cu rows))):=by
 refine fS hk ?_
 have hw:IntKind.i64.wrap (left-rows.length)=left-rows.length:=by unfold maxLen at hlen;rw[IntKind.wrap_i64];omega
 by_cases hl:left<rows.length
 ·have hn:left-(rows.length:Int)<0:=by omega
  have e:less left (rows.length+cu rows)= -1:=by unfold less;rw[if_pos (by omega)]
  rw[e]
  generalize hF:aj (ag Φ ext) av (rj z kx)=F
  simp[G2,vO,nM,bw,fm,aj,hF,ah,aw,aH,bg,Opd.ev,put,asList,L.view,bin,bN,isBool,hw,hn,done,aU,ar,bz,bP,comp,aK,bu,ai,V.cells]
 ·have hn:¬left-(rows.length:Int)<0:=by omega
  have hle:left-(rows.length:Int)=less left rows.length:=by unfold less;rw[if_neg hl]
  obtain⟨e,t',g1,g2,g3⟩:=OK (Φ:=Φ) (ext:=ext) hz hlen hcp rows.length 0 (by omega) (left-rows.length) (by omega) (by omega) (.tup []) (.tup []) (aa .i64 0) (aa .i64 left) (bm rows) (aa .i64 rows.length) (aa .i64 (left-rows.length)) (aa .i64 (left-rows.length)) (au false) (.tup []) (.tup []) (.tup []) (.tup []) (.tup []) (.tup []) (.tup []) (.tup []) (.tup []) (.tup []) (.tup []) (.tup []) (.tup []) (.tup []) (.tup []) []
  simp only[List.drop_zero,show((0:Nat):Int)=0 from rfl]at g1 g3
  have hls:less (left-rows.length) (cu rows)=less left (rows.length+cu rows):=by rw[hle];exact qm (by rw[←hle];omega)
  rw[hls]at g3
  generalize hF:aj (ag Φ ext) av (rj z kx)=F at g1
  rcases g3 with⟨rfl,g4,g5⟩|⟨rfl,g4,g5⟩
  ·obtain⟨_,g6⟩:=List.getElem?_eq_some_iff.1 g5
   simp[G2,vO,nM,bw,fm,aj,hF,ah,aw,aH,bg,Opd.ev,put,asList,L.view,bin,bN,isBool,hw,hn,done,aU,ar,bz,bP,comp,aK,bu,ai,V.cells,g1,g2,g6]
  ·obtain⟨_,g6⟩:=List.getElem?_eq_some_iff.1 g5
   simp[G2,vO,nM,bw,fm,aj,hF,ah,aw,aH,bg,Opd.ev,put,asList,L.view,bin,bN,isBool,hw,hn,done,aU,ar,bz,bP,comp,aK,bu,ai,V.cells,g1,g2,g6,g4]
def OC :ACode:= .seq (.region [⟨some 4, .mv (.pv (.bool false)),none⟩]) .ret
def fa (z kx:Nat):ACode:= .seq (Fq 5 0 11) (.seq (.block 1 (.seq (.region [⟨some 17, .mv (.tmp 0),none⟩,⟨some 18, .mv (.tmp 5),none⟩,⟨some 19, .indexA z (.tmp 17) (.tmp 18),none⟩,⟨some 20, .load true z (.tmp 19),none⟩,⟨some 21, .mv (.tmp 1),none⟩,⟨some 22, .mv (.tmp 5),none⟩,⟨some 23, .indexA z (.tmp 21) (.tmp 22),none⟩,⟨some 24, .load true z (.tmp 23),none⟩,⟨some 25, .call kx [.tmp 20, .tmp 24] true true,none⟩,⟨some 26, .un .not (.tmp 25),none⟩]) (.cond (.tmp 26) OC .skip))) (Gw 5 15))
def nL :ACode:= .seq (Fq 5 0 11) (.seq (.block 1 (.seq (.region [⟨some 17, .mv (.tmp 0),none⟩,⟨some 18, .mv (.tmp 5),none⟩,⟨some 19, .indexA 1 (.tmp 17) (.tmp 18),none⟩,⟨some 20, .load false 1 (.tmp 19),none⟩,⟨some 21, .mv (.tmp 1),none⟩,⟨some 22, .mv (.tmp 5),none⟩,⟨some 23, .indexA 1 (.tmp 21) (.tmp 22),none⟩,⟨some 24, .load false 1 (.tmp 23),none⟩,⟨some 25, .bin .neq (.tmp 20) (.tmp 24),none⟩]) (.cond (.tmp 25) OC .skip))) (Gw 5 15))
def na (nt:Nat)(body:ACode):AFn:=⟨nt,[.tmp 4], .seq (.region [⟨some 4, .mv (.pv (.bool false)),none⟩]) (.seq (.seq (.region [⟨some 6, .mv (.tmp 0),none⟩,⟨some 7, .len (.tmp 6),none⟩,⟨some 8, .mv (.tmp 1),none⟩,⟨some 9, .len (.tmp 8),none⟩,⟨some 10, .bin .neq (.tmp 7) (.tmp 9),none⟩]) (.cond (.tmp 10) OC .skip)) (.seq (.seq (.region [⟨some 5, .mv (.pv (.int .i64 0)),none⟩]) (.block 0 (.loop body))) (.seq (.region [⟨some 4, .mv (.pv (.bool true)),none⟩]) .ret)))⟩
theorem NX {z kx:Nat}{rows:List (List PV)}(hz:∀r∈rows,r.length=z)(hlen:rows.length≤maxLen)(hcp:∀r∈rows,ag Φ ext kx [.agg (r.map .pv), .agg (r.map .pv)]=some (au true)):∀(m k:Nat),k+m=rows.length→
 ∀(u2 u3 u4 u6 u7 u8 u9 u10 x11 x12 x13 x14 x15 x16 x17 x18 x19 x20 x21 x22 x23 x24 x25 x26:V)(h:List AObj),
  ∃t',av (aj (ag Φ ext) av (fa z kx)) ⟨[bm rows,bm rows,u2,u3,u4,aa .i64 k,u6,u7,u8,u9,u10,x11,x12,x13,x14,x15,x16,x17,x18,x19,x20,x21,x22,x23,x24,x25,x26],h⟩=some (.exit 0,⟨t',h⟩)∧t'.length=27:=by
 intro m
 induction m with
 |zero=>
  intro k hk u2 u3 u4 u6 u7 u8 u9 u10 x11 x12 x13 x14 x15 x16 x17 x18 x19 x20 x21 x22 x23 x24 x25 x26 h
  have hk':k=rows.length:=by omega
  subst hk'
  refine⟨[bm rows,bm rows,u2,u3,u4,aa .i64 rows.length,u6,u7,u8,u9,u10,aa .i64 rows.length,bm rows,aa .i64 rows.length,au false,x15,x16,x17,x18,x19,x20,x21,x22,x23,x24,x25,x26],gA ?_ (by simp),rfl⟩
  simp[fa,Fq,aj,ah,aw,aH,bg,Opd.ev,put,asList,L.view,bin,bN,isBool]
 |succ m ih=>
  intro k hk u2 u3 u4 u6 u7 u8 u9 u10 x11 x12 x13 x14 x15 x16 x17 x18 x19 x20 x21 x22 x23 x24 x25 x26 h
  have hlt:k<rows.length:=by omega
  have hrz:(rows[k]).length=z:=hz _ (List.getElem_mem hlt)
  have c1:=hcp _ (List.getElem_mem hlt)
  have hw:=jA (k:=k) (by unfold maxLen at hlen;omega)
  have hcut:gr true z 0 ((rows[k]).map L.pv)=some (.agg ((rows[k]).map .pv)):=by
   simp[gr,hrz,List.take_of_length_le (show((rows[k]).map L.pv).length≤z by simp[hrz])]
  have hcast:((k+1:Nat):Int)=(k:Int)+1:=by omega
  obtain⟨t',g1,g2⟩:=ih (k+1) (by omega) u2 u3 u4 u6 u7 u8 u9 u10 (aa .i64 k) (bm rows) (aa .i64 rows.length) (au true) (aa .i64 k) (aa .i64 ((k:Int)+1)) (bm rows) (aa .i64 k) (.one (.ip rows[k] 0)) (.agg ((rows[k]).map .pv)) (bm rows) (aa .i64 k) (.one (.ip rows[k] 0)) (.agg ((rows[k]).map .pv)) (au true) (au false) h
  refine⟨t',(fK ?_).trans g1,g2⟩
  rw[hcast]
  simp[fa,Fq,Gw,aj,ah,aw,aH,bg,Opd.ev,put,asList,L.view,bin,bN,un,isBool,isInt,hlt,aJ,hrz,bo,hcut,ap,pn,V.view,c1,V.flat,L.flat,dJ,dk,hw]
theorem P8 {k z kx:Nat}{rows:List (List PV)}(hk:Φ k=some (na 27 (fa z kx)))(hz:∀r∈rows,r.length=z)(hlen:rows.length≤maxLen)(hcp:∀r∈rows,ag Φ ext kx [.agg (r.map .pv), .agg (r.map .pv)]=some (au true)):
 ag Φ ext k [bm rows,bm rows]=some (au true):=by
 refine fS hk ?_
 obtain⟨t',g1,g2⟩:=NX (Φ:=Φ) (ext:=ext) hz hlen hcp rows.length 0 (by omega) (.tup []) (.tup []) (au false) (bm rows) (aa .i64 rows.length) (bm rows) (aa .i64 rows.length) (au false) (.tup []) (.tup []) (.tup []) (.tup []) (.tup []) (.tup []) (.tup []) (.tup []) (.tup []) (.tup []) (.tup []) (.tup []) (.tup []) (.tup []) (.tup []) (.tup []) []
 simp only[show((0:Nat):Int)=0 from rfl]at g1
 generalize hF:aj (ag Φ ext) av (fa z kx)=F at g1
 simp[na,OC,bw,fm,aj,hF,ah,aw,aH,bg,Opd.ev,put,asList,L.view,bin,bN,isBool,done,aU,ar,bz,bP,comp,aK,bu,ai,V.cells,g1,g2]
def PV.plain :PV→Bool
 | .lst _=>false
 | .bool _=>false
 |_=>true
theorem Di {p:PV}(h:p.plain=true):bin .neq (.one (.pv p)) (.one (.pv p))=some (au false):=by
 cases p with
 |int k n=>simp[bin,bN]
 |str s=>simp[bin,iB]
 |bool b=>simp[PV.plain]at h
 |lst es=>simp[PV.plain]at h
theorem NW {qs:List PV}(hp:∀q∈qs,q.plain=true)(hlen:qs.length≤maxLen):∀(m k:Nat),k+m=qs.length→
 ∀(u2 u3 u4 u6 u7 u8 u9 u10 x11 x12 x13 x14 x15 x16 x17 x18 x19 x20 x21 x22 x23 x24 x25:V)(h:List AObj),
  ∃t',av (aj (ag Φ ext) av nL) ⟨[bm (qs.map fun q=>[q]),bm (qs.map fun q=>[q]),u2,u3,u4,aa .i64 k,u6,u7,u8,u9,u10,x11,x12,x13,x14,x15,x16,x17,x18,x19,x20,x21,x22,x23,x24,x25],h⟩=some (.exit 0,⟨t',h⟩)∧t'.length=26:=by
 intro m
 induction m with
 |zero=>
  intro k hk u2 u3 u4 u6 u7 u8 u9 u10 x11 x12 x13 x14 x15 x16 x17 x18 x19 x20 x21 x22 x23 x24 x25 h
  have hk':k=qs.length:=by omega
  subst hk'
  refine⟨[bm (qs.map fun q=>[q]),bm (qs.map fun q=>[q]),u2,u3,u4,aa .i64 qs.length,u6,u7,u8,u9,u10,aa .i64 qs.length,bm (qs.map fun q=>[q]),aa .i64 qs.length,au false,x15,x16,x17,x18,x19,x20,x21,x22,x23,x24,x25],gA ?_ (by simp),rfl⟩
  simp[nL,Fq,aj,ah,aw,aH,bg,Opd.ev,put,asList,L.view,bin,bN,isBool]
 |succ m ih=>
  intro k hk u2 u3 u4 u6 u7 u8 u9 u10 x11 x12 x13 x14 x15 x16 x17 x18 x19 x20 x21 x22 x23 x24 x25 h
  have hlt:k<qs.length:=by omega
  have hn:=Di (hp _ (List.getElem_mem hlt))
  have hw:=jA (k:=k) (by unfold maxLen at hlen;omega)
  have hcast:((k+1:Nat):Int)=(k:Int)+1:=by omega
  have hcut:gr false 1 0 [L.pv qs[k]]=some (.one (.pv qs[k])):=by simp[gr]
  have hlss:bin .lss (aa .i64 k) (aa .i64 qs.length)=some (au true):=by simp[bin,bN,hlt]
  have hadd:bin .add (aa .i64 k) (aa .i64 1)=some (aa .i64 ((k:Int)+1)):=by simp[bin,bN,hw]
  obtain⟨t',g1,g2⟩:=ih (k+1) (by omega) u2 u3 u4 u6 u7 u8 u9 u10 (aa .i64 k) (bm (qs.map fun q=>[q])) (aa .i64 qs.length) (au true) (aa .i64 k) (aa .i64 ((k:Int)+1)) (bm (qs.map fun q=>[q])) (aa .i64 k) (.one (.ip [qs[k]] 0)) (.one (.pv qs[k])) (bm (qs.map fun q=>[q])) (aa .i64 k) (.one (.ip [qs[k]] 0)) (.one (.pv qs[k])) (au false) h
  refine⟨t',(fK ?_).trans g1,g2⟩
  rw[hcast]
  simp[nL,Fq,Gw,aj,ah,aw,aH,bg,Opd.ev,put,asList,L.view,hlss,hadd,isBool,isInt,hlt,aJ,bo,hcut,hn]
theorem P7 {k:Nat}{qs:List PV}(hk:Φ k=some (na 26 nL))(hp:∀q∈qs,q.plain=true)(hlen:qs.length≤maxLen):ag Φ ext k [bm (qs.map fun q=>[q]),bm (qs.map fun q=>[q])]=some (au true):=by
 refine fS hk ?_
 obtain⟨t',g1,g2⟩:=NW (Φ:=Φ) (ext:=ext) hp hlen qs.length 0 (by omega) (.tup []) (.tup []) (au false) (bm (qs.map fun q=>[q])) (aa .i64 qs.length) (bm (qs.map fun q=>[q])) (aa .i64 qs.length) (au false) (.tup []) (.tup []) (.tup []) (.tup []) (.tup []) (.tup []) (.tup []) (.tup []) (.tup []) (.tup []) (.tup []) (.tup []) (.tup []) (.tup []) (.tup []) []
 simp only[show((0:Nat):Int)=0 from rfl]at g1
 generalize hF:aj (ag Φ ext) av nL=F at g1
 simp[na,OC,bw,fm,aj,hF,ah,aw,aH,bg,Opd.ev,put,asList,L.view,bin,bN,isBool,done,aU,ar,bz,bP,comp,aK,bu,ai,V.cells,g1,g2]
end
theorem dM {t:PTy}{ts:List PTy}{ps:List PV}(h:bf (t::ts) ps):∃p r,ps=p::r∧nE t p∧bf ts r:=by
 cases ps with
 |nil=>cases h
 |cons p r=>exact⟨p,r,rfl,h.1,h.2⟩
theorem fu {ps:List PV}(h:bf [] ps):ps=[]:=by
 cases ps with
 |nil=>rfl
 |cons p r=>cases h
theorem kd {k:IntKind}{p:PV}(h:nE (.int k) p):∃n,p= .int k n:=by
 cases p with
 |int k' n=>exact⟨n,by rw[h.1]⟩
 |_=>cases h
theorem la {p:PV}(h:nE .str p):∃s,p= .str s:=by
 cases p with
 |str s=>exact⟨s,rfl⟩
 |_=>cases h
theorem j3 {p:PV}(h:nE .bool p):∃b,p= .bool b:=by
 cases p with
 |bool b=>exact⟨b,rfl⟩
 |_=>cases h
theorem mV {ts:List PTy}{p:PV}(h:nE (.lst ts) p):∃rows,p= .lst rows:=by
 cases p with
 |lst rows=>exact⟨rows,rfl⟩
 |_=>cases h
theorem aL {ts:List PTy}{rows:List (List PV)}(h:nE (.lst ts) (.lst rows)):rows.length≤maxLen∧∀r∈rows,bf ts r:=h
theorem jl :∀{ts:List PTy}{ps:List PV},bf ts ps→ps.length=ts.length
 |[],ps,h=>by rw[fu h];rfl
 |t::ts,ps,h=>by
  obtain⟨p,r,rfl,_,h2⟩:=dM h
  simp[jl h2]
theorem DO :∀{rows:List (List PV)}{r:List PV},r∈rows→eV r≤cu rows
 |a::rows,r,h=>by
  rcases List.mem_cons.1 h with rfl|h
  ·simp only[cu];omega
  ·have:=DO h
   simp only[cu];omega
theorem jZ (rows:List (List PV)):sz (.lst rows)=rows.length+cu rows:=by simp only[sz]
theorem Qi {rows:List (List PV)}{r:List PV}(m:r∈rows)(h:sz (.lst rows)≤1048576):eV r≤1048576:=by
 have:=DO m
 rw[jZ]at h
 omega
theorem Lw {t:PTy}:∀{rows:List (List PV)},(∀r∈rows,bf [t] r)→∃qs:List PV,rows=qs.map fun q=>[q]
 |[],_=>⟨[],rfl⟩
 |a::rows,h=>by
  obtain⟨qs,rfl⟩:=Lw (fun r m=>h r (List.mem_cons_of_mem _ m))
  obtain⟨p,r,rfl,_,h2⟩:=dM (h a (List.mem_cons_self))
  obtain rfl:=fu h2
  exact⟨p::qs,rfl⟩
def PTy.easy :PTy→Bool
 | .int _=>true
 | .str=>true
 |_=>false
theorem Qg {t:PTy}{qs:List PV}(ht:t.easy=true)(h:∀r∈(qs.map fun q=>[q]),bf [t] r):∀q∈qs,q.plain=true:=by
 intro q m
 have:=(h [q] (List.mem_map.2 ⟨q,m,rfl⟩)).1
 cases t with
 |int k=>obtain⟨n,rfl⟩:=kd this;rfl
 |str=>obtain⟨n,rfl⟩:=la this;rfl
 |_=>cases ht
def PTy.small :PTy→Bool
 | .int _=>true
 | .bool=>true
 |_=>false
theorem DM :∀{ts:List PTy}{ps:List PV},ts.all PTy.small=true→bf ts ps→eV ps=0
 |[],ps,_,h=>by rw[fu h];simp only[eV]
 |t::ts,ps,ha,h=>by
  simp only[List.all_cons,Bool.and_eq_true]at ha
  obtain⟨p,r,rfl,h1,h2⟩:=dM h
  have:=DM ha.2 h2
  cases t with
  |int k=>obtain⟨n,rfl⟩:=kd h1;simp only[eV,sz,this]
  |bool=>obtain⟨n,rfl⟩:=j3 h1;simp only[eV,sz,this]
  |_=>cases ha.1
theorem Ak {ts:List PTy}(ha:ts.all PTy.small=true):∀{rows:List (List PV)},(∀r∈rows,bf ts r)→cu rows=0
 |[],_=>by simp only[cu]
 |r::rows,h=>by
  simp only[cu,DM ha (h r (List.mem_cons_self)),Ak ha (fun r m=>h r (List.mem_cons_of_mem _ m))]
theorem Pr {left:Int}{n:Nat}(h:left<n):less left n= -1:=by unfold less;rw[if_pos h]
theorem Oj {left l:Int}{n:Nat}(h0:0≤left)(q:less left n=l)(hn:¬l<0):l=left-n∧(n:Int)≤left:=by
 unfold less at q
 split at q
 ·omega
 ·omega
end Gi
