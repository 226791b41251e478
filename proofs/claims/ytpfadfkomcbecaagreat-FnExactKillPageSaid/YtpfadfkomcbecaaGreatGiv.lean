/- Of this proof. -/
import Derived.Test.YtpfadfkomcbecaaGreatGis
import Derived.KernelRfl
set_option linter.unusedSimpArgs false
set_option linter.unusedVariables false
namespace Gi
open Go Go.RowKit
attribute [local simp] start ft aj ah az aH bf Opd.ev put asList L.view bin bM isBool done aV au bE bN comp aK bq ai V.cells
theorem sM (f:St→Option (Ex×St))(σ:St):av f σ=(match f σ with
 |some (.normal,σ')=>av f σ'
 |r=>r):=by
 cases h:f σ with
 |none=>
  cases hl:av f σ with
  |none=>rfl
  |some r=>
   obtain⟨n,hn⟩:=k9.1 hl
   cases n with
   |zero=>simp[dR]at hn
   |succ n=>simp[dR,h]at hn
 |some x=>
  obtain⟨e,σ'⟩:=x
  cases e with
  |normal=>exact fH h
  |exit i=>exact gC h (by simp)
  |ret=>exact gC h (by simp)
def Dw :L→PV
 | .pv p=>p
 | .own _ es=> .lst es
 | .down _ es=> .lst es
 |_=> .lst []
theorem pD (h:List AObj):∀(ps:List PV),viewL h (ps.map .pv)=some ps
 |[]=>rfl
 |p::ps=>by simp only[List.map_cons,viewL,L.view,pD h ps]
theorem qT (h:List AObj)(ps:List PV):V.view h (.agg (ps.map .pv))=some (.agg (ps.map .pv)):=by simp only[V.view,pD]
theorem np :∀(ls:List L)(h:List AObj),ls.all L.clean=true→∃t,(thawL h ls).2=h++t:=fun ls h hc=>(kl ls h hc).2.1
theorem qS :∀(ls:List L)(h:List AObj),ls.all L.clean=true→viewL (thawL h ls).2 (thawL h ls).1=some (ls.map Dw)
 |[],h,_=>rfl
 |l::ls,h,hc=>by
  simp only[List.all_cons,Bool.and_eq_true]at hc
  cases l with
  |own z es=>
   simp only[thawL,List.map_cons,viewL]
   obtain⟨t,ht⟩:=np ls (h++[.arr z es]) hc.2
   rw[qS ls _ hc.2]
   have:L.view (thawL (h++[AObj.arr z es]) ls).2 (.arr h.length)=some (.lst es):=by
    rw[ht]
    simp[L.view]
   rw[this]
   rfl
  |down z es=>
   simp only[thawL,List.map_cons,viewL]
   obtain⟨t,ht⟩:=np ls (h++[.darr z es]) hc.2
   rw[qS ls _ hc.2]
   have:L.view (thawL (h++[AObj.darr z es]) ls).2 (.arr h.length)=some (.lst es):=by
    rw[ht]
    simp[L.view]
   rw[this]
   rfl
  |pv p=>simp only[thawL,List.map_cons,viewL,L.view,qS ls h hc.2];rfl
  |nil=>simp only[thawL,List.map_cons,viewL,L.view,qS ls h hc.2];rfl
  |_=>simp[L.clean]at hc
theorem nq :∀(ls:List L)(h:List AObj)(o:Nat),ls.all L.clean=true→o<h.length→(thawL h ls).1.all (L.notArr o)=true
 |[],_,_,_,_=>rfl
 |l::ls,h,o,hc,ho=>by
  simp only[List.all_cons,Bool.and_eq_true]at hc
  cases l with
  |own z es=>
   simp only[thawL,List.all_cons,Bool.and_eq_true]
   exact⟨by simp[L.notArr];omega,nq ls _ o hc.2 (by simp;omega)⟩
  |down z es=>
   simp only[thawL,List.all_cons,Bool.and_eq_true]
   exact⟨by simp[L.notArr];omega,nq ls _ o hc.2 (by simp;omega)⟩
  |pv p=>simp only[thawL,List.all_cons,Bool.and_eq_true];exact⟨rfl,nq ls h o hc.2 ho⟩
  |nil=>simp only[thawL,List.all_cons,Bool.and_eq_true];exact⟨rfl,nq ls h o hc.2 ho⟩
  |_=>simp[L.clean]at hc
theorem D6 {α:Type}(a b:List α)(h:a.length=b.length):putAt a 0 b=b:=by
 simp[putAt,h.symm]
theorem Ax (h:List AObj):∀(ps:List PV),freezeLs h (ps.map .pv)=h
 |[]=>rfl
 |p::ps=>by
  show freezeLs (freezeL h (.pv p)) (ps.map .pv)=h
  exact Ax h ps
theorem Ay (h:List AObj)(ps:List PV):freezeVs h [.agg (ps.map .pv)]=h:=Ax h ps
theorem Of (o:Nat)(ps:List PV):(ps.map L.pv).all (L.notArr o)=true:=by
 simp[L.notArr]
theorem Ro {rows:List (List PV)}{k m:Nat}{zero:List PV}(h:k+(m+1)=rows.length):(rows.take k++List.replicate (m+1) zero)[k]? =some zero:=by
 rw[List.getElem?_append_right (by simp;omega),List.getElem?_replicate]
 rw[if_pos (by simp;omega)]
theorem Pt {rows:List (List PV)}{k m:Nat}{zero:List PV}(h:k+(m+1)=rows.length):(rows.take k++List.replicate (m+1) zero).set k (rows[k]'(by omega))=rows.take (k+1)++List.replicate m zero:=by
 have hk:k<rows.length:=by omega
 rw[List.set_append_right _ _ (by simp;omega)]
 have:k-(rows.take k).length=0:=by simp;omega
 rw[this,List.replicate_succ,List.set_cons_zero,List.take_succ_eq_append_getElem hk,List.append_assoc]
 rfl
section
variable {Φ:Nat→Option AFn}{ext:Nat→List V→Option V}
def Gq (i a t0:Nat):ACode:= .seq (.region [⟨some t0, .mv (.tmp i),none⟩,⟨some (t0+1), .mv (.tmp a),none⟩,⟨some (t0+2), .len (.tmp (t0+1)),none⟩,⟨some (t0+3), .bin .lss (.tmp t0) (.tmp (t0+2)),none⟩]) (.cond (.tmp (t0+3)) .skip (.exit 0))
def Hq (i t0:Nat):ACode:= .region [⟨some t0, .mv (.tmp i),none⟩,⟨some (t0+1), .bin .add (.tmp t0) (.pv (.int .i64 1)),none⟩,⟨some i, .mv (.tmp (t0+1)),none⟩]
theorem jC {k:Nat}(h:k<9223372036854775807):IntKind.i64.wrap ((k:Int)+1)=(k:Int)+1:=by
 rw[IntKind.wrap_i64];omega
def S7 (Φ:Nat→Option AFn)(ext:Nat→List V→Option V)(kx:Nat)(fl:Bool)(r:List PV):Prop:=
 ∃ls,ag Φ ext kx [.agg (r.map .pv)]=some (.agg ls)∧ls.all L.clean=true∧ls.map Dw=r∧(fl=true→ls=r.map .pv∧ls.all L.flat=true)
def wh (t0:Nat):List AOper:=[⟨some t0, .mv (.tmp 1),none⟩,⟨some (t0+1), .mv (.tmp 0),none⟩,⟨some (t0+2), .len (.tmp (t0+1)),none⟩,⟨some (t0+3), .bin .sub (.tmp t0) (.tmp (t0+2)),none⟩,⟨some 1, .mv (.tmp (t0+3)),none⟩]
def nZ (t0:Nat):ACode:= .seq (.region [⟨some t0, .mv (.tmp 1),none⟩,⟨some (t0+1), .bin .lss (.tmp t0) (.pv (.int .i64 0)),none⟩]) (.cond (.tmp (t0+1)) (.seq (.region [⟨some 4, .mv (.pv (.int .i64 (-1))),none⟩]) .ret) .skip)
def rR (z kx:Nat):ACode:= .seq (Gq 5 0 12) (.seq (.block 1 (.seq (.region [⟨some 18, .mv (.tmp 0),none⟩,⟨some 19, .mv (.tmp 5),none⟩,⟨some 20, .indexA z (.tmp 18) (.tmp 19),none⟩,⟨some 21, .load true z (.tmp 20),none⟩,⟨some 22, .mv (.tmp 1),none⟩,⟨some 23, .call kx [.tmp 21, .tmp 22] true false,none⟩,⟨some 1, .mv (.tmp 23),none⟩]) (nZ 24))) (Hq 5 16))
def H7 (z kx:Nat):AFn:=⟨27,[.tmp 4], .seq (.region [⟨some 4, .mv (.pv (.int .i64 0)),none⟩]) (.seq (.region (wh 6)) (.seq (nZ 10) (.seq (.seq (.region [⟨some 5, .mv (.pv (.int .i64 0)),none⟩]) (.block 0 (.loop (rR z kx)))) (.seq (.region [⟨some 26, .mv (.tmp 1),none⟩,⟨some 4, .mv (.tmp 26),none⟩]) .ret))))⟩
def Rt :AFn:=⟨12,[.tmp 4], .seq (.region [⟨some 4, .mv (.pv (.int .i64 0)),none⟩]) (.seq (.region (wh 5)) (.seq (nZ 9) (.seq (.region [⟨some 11, .mv (.tmp 1),none⟩,⟨some 4, .mv (.tmp 11),none⟩]) .ret)))⟩
mutual
def sz :PV→Nat
 | .str s=>s.length
 | .lst rows=>rows.length+bP rows
 |_=>0
def eK :List PV→Nat
 |[]=>0
 |p::ps=>sz p+eK ps
def bP :List (List PV)→Nat
 |[]=>0
 |r::rs=>eK r+bP rs
end
def less (left:Int)(n:Nat):Int:=if left<n then-1 else left-n
def Cd (Φ:Nat→Option AFn)(ext:Nat→List V→Option V)(kx:Nat)(r:List PV):Prop:=
 ∀left:Int,0≤left→left≤1048576→ag Φ ext kx [.agg (r.map .pv),aa .i64 left]=some (aa .i64 (less left (eK r)))
theorem qF {left:Int}{a b:Nat}(h:0≤less left a):less (less left a) b=less left (a+b):=by
 unfold less at*
 split at h
 ·omega
 ·rename_i h1
  rw[if_neg h1]
  by_cases h2:left-(a:Int)<b
  ·rw[if_pos h2,if_pos (by omega)]
  ·rw[if_neg h2,if_neg (by omega)];omega
theorem Jz {left:Int}{a b:Nat}(h0:0≤left)(h:less left a<0):less left (a+b)= -1:=by
 unfold less at*
 split at h
 ·rw[if_pos (by omega)]
 ·omega
theorem R3 {k:Nat}{rows:List (List PV)}(hk:Φ k=some Rt)(hlen:rows.length≤maxLen){left:Int}(h0:0≤left)(h1:left≤1048576):ag Φ ext k [bu rows,aa .i64 left]=some (aa .i64 (less left rows.length)):=by
 refine fQ hk ?_
 have hw:IntKind.i64.wrap (left-rows.length)=left-rows.length:=by unfold maxLen at hlen;rw[IntKind.wrap_i64];omega
 by_cases hl:left<rows.length
 ·have:left-(rows.length:Int)<0:=by omega
  simp[Rt,wh,nZ,hw,this,less,hl]
 ·have:¬left-(rows.length:Int)<0:=by omega
  simp[Rt,wh,nZ,hw,this,less,hl]
end
end Gi
namespace Gi
open Go Go.RowKit
section
variable {Φ:Nat→Option AFn}{ext:Nat→List V→Option V}
theorem Mx {left:Int}{a:Nat}(h:less left a<0)(h0:0≤left):less left a= -1:=by
 unfold less at*
 split at h
 ·rename_i h1;rw[if_pos h1]
 ·omega
theorem My {left:Int}{a:Nat}(h0:0≤left):less left a≤left:=by
 unfold less;split<;>omega
theorem AQ {rows:List (List PV)}{k:Nat}(h:k<rows.length):bP (rows.drop k)=eK (rows[k])+bP (rows.drop (k+1)):=by
 rw[List.drop_eq_getElem_cons h,bP]
theorem Qe {z kx:Nat}{rows:List (List PV)}(hz:∀r∈rows,r.length=z)(hlen:rows.length≤maxLen)(hcp:∀r∈rows,Cd Φ ext kx r):∀(m k:Nat),k+m=rows.length→∀(left:Int),0≤left→left≤1048576→
 ∀(u2 u3 u4 u6 u7 u8 u9 u10 u11 x12 x13 x14 x15 x16 x17 x18 x19 x20 x21 x22 x23 x24 x25 u26:V)(h:List AObj),
  ∃e t',av (aj (ag Φ ext) av (rR z kx)) ⟨[bu rows,aa .i64 left,u2,u3,u4,aa .i64 k,u6,u7,u8,u9,u10,u11,x12,x13,x14,x15,x16,x17,x18,x19,x20,x21,x22,x23,x24,x25,u26],h⟩=some (e,⟨t',h⟩)∧t'.length=27∧
   ((e= .exit 0∧0≤less left (bP (rows.drop k))∧t'[1]? =some (aa .i64 (less left (bP (rows.drop k)))))∨(e= .ret∧less left (bP (rows.drop k))= -1∧t'[4]? =some (aa .i64 (-1)))):=by
 intro m
 induction m with
 |zero=>
  intro k hk left h0 h1 u2 u3 u4 u6 u7 u8 u9 u10 u11 x12 x13 x14 x15 x16 x17 x18 x19 x20 x21 x22 x23 x24 x25 u26 h
  have hk':k=rows.length:=by omega
  subst hk'
  have hl0:less left (bP (rows.drop rows.length))=left:=by simp[bP,less];omega
  rw[hl0,sM]
  refine⟨.exit 0,[bu rows,aa .i64 left,u2,u3,u4,aa .i64 rows.length,u6,u7,u8,u9,u10,u11,aa .i64 rows.length,bu rows,aa .i64 rows.length,ar false,x16,x17,x18,x19,x20,x21,x22,x23,x24,x25,u26],?_,rfl, .inl ⟨rfl,h0,rfl⟩⟩
  simp[rR,Gq,aj,ah,az,aH,bf,Opd.ev,put,asList,L.view,bin,bM,isBool]
 |succ m ih=>
  intro k hk left h0 h1 u2 u3 u4 u6 u7 u8 u9 u10 u11 x12 x13 x14 x15 x16 x17 x18 x19 x20 x21 x22 x23 x24 x25 u26 h
  have hlt:k<rows.length:=by omega
  have hrz:(rows[k]).length=z:=hz _ (List.getElem_mem hlt)
  have c1:=hcp _ (List.getElem_mem hlt) left h0 h1
  have hw:=jC (k:=k) (by unfold maxLen at hlen;omega)
  have hcut:gu true z 0 ((rows[k]).map L.pv)=some (.agg ((rows[k]).map .pv)):=by
   simp[gu,hrz,List.take_of_length_le (show((rows[k]).map L.pv).length≤z by simp[hrz])]
  have hcast:((k+1:Nat):Int)=(k:Int)+1:=by omega
  rw[AQ hlt]
  by_cases hneg:less left (eK rows[k])<0
  ·have e1:=Jz (b:=bP (rows.drop (k+1))) h0 hneg
   have e2:=Mx hneg h0
   rw[e1]
   rw[e2]at c1
   refine⟨.ret,[bu rows,aa .i64 (-1),u2,u3,aa .i64 (-1),aa .i64 k,u6,u7,u8,u9,u10,u11,aa .i64 k,bu rows,aa .i64 rows.length,ar true,x16,x17,bu rows,aa .i64 k, .one (.ip rows[k] 0), .agg ((rows[k]).map .pv),aa .i64 left,aa .i64 (-1),aa .i64 (-1),ar true,u26],?_,rfl, .inr ⟨rfl,rfl,rfl⟩⟩
   refine gC ?_ (by simp)
   simp[rR,Gq,Hq,nZ,aj,ah,az,aH,bf,Opd.ev,put,asList,L.view,bin,bM,isBool,isInt,hlt,aJ,hrz,bm,hcut,ap,pD,V.view,c1,V.flat,L.flat,dG,dk]
  ·have hge:0≤less left (eK rows[k]):=by omega
   obtain⟨e,t',g1,g2,g3⟩:=ih (k+1) (by omega) (less left (eK rows[k])) hge (Int.le_trans (My h0) h1) u2 u3 u4 u6 u7 u8 u9 u10 u11 (aa .i64 k) (bu rows) (aa .i64 rows.length) (ar true) (aa .i64 k) (aa .i64 ((k:Int)+1)) (bu rows) (aa .i64 k) (.one (.ip rows[k] 0)) (.agg ((rows[k]).map .pv)) (aa .i64 left) (aa .i64 (less left (eK rows[k]))) (aa .i64 (less left (eK rows[k]))) (ar false) u26 h
   rw[qF hge]at g3
   refine⟨e,t',(fH ?_).trans g1,g2,g3⟩
   rw[hcast]
   simp[rR,Gq,Hq,nZ,aj,ah,az,aH,bf,Opd.ev,put,asList,L.view,bin,bM,isBool,isInt,hlt,aJ,hrz,bm,hcut,ap,pD,V.view,c1,V.flat,L.flat,dG,dk,hw,hneg]
theorem R4 {k z kx:Nat}{rows:List (List PV)}(hk:Φ k=some (H7 z kx))(hz:∀r∈rows,r.length=z)(hlen:rows.length≤maxLen)(hcp:∀r∈rows,Cd Φ ext kx r){left:Int}(h0:0≤left)(h1:left≤1048576):
 ag Φ ext k [bu rows,aa .i64 left]=some (aa .i64 (less left (rows.length+bP rows))):=by
 refine fQ hk ?_
 have hw:IntKind.i64.wrap (left-rows.length)=left-rows.length:=by unfold maxLen at hlen;rw[IntKind.wrap_i64];omega
 by_cases hl:left<rows.length
 ·have hn:left-(rows.length:Int)<0:=by omega
  have e:less left (rows.length+bP rows)= -1:=by unfold less;rw[if_pos (by omega)]
  rw[e]
  generalize hF:aj (ag Φ ext) av (rR z kx)=F
  simp[H7,wh,nZ,start,ft,aj,hF,ah,az,aH,bf,Opd.ev,put,asList,L.view,bin,bM,isBool,hw,hn,done,aV,au,bE,bN,comp,aK,bq,ai,V.cells]
 ·have hn:¬left-(rows.length:Int)<0:=by omega
  have hle:left-(rows.length:Int)=less left rows.length:=by unfold less;rw[if_neg hl]
  obtain⟨e,t',g1,g2,g3⟩:=Qe (Φ:=Φ) (ext:=ext) hz hlen hcp rows.length 0 (by omega) (left-rows.length) (by omega) (by omega) (.tup []) (.tup []) (aa .i64 0) (aa .i64 left) (bu rows) (aa .i64 rows.length) (aa .i64 (left-rows.length)) (aa .i64 (left-rows.length)) (ar false) (.tup []) (.tup []) (.tup []) (.tup []) (.tup []) (.tup []) (.tup []) (.tup []) (.tup []) (.tup []) (.tup []) (.tup []) (.tup []) (.tup []) (.tup []) []
  simp only[List.drop_zero,show((0:Nat):Int)=0 from rfl]at g1 g3
  have hls:less (left-rows.length) (bP rows)=less left (rows.length+bP rows):=by rw[hle];exact qF (by rw[←hle];omega)
  rw[hls]at g3
  generalize hF:aj (ag Φ ext) av (rR z kx)=F at g1
  rcases g3 with⟨rfl,g4,g5⟩|⟨rfl,g4,g5⟩
  ·obtain⟨_,g6⟩:=List.getElem?_eq_some_iff.1 g5
   simp[H7,wh,nZ,start,ft,aj,hF,ah,az,aH,bf,Opd.ev,put,asList,L.view,bin,bM,isBool,hw,hn,done,aV,au,bE,bN,comp,aK,bq,ai,V.cells,g1,g2,g6]
  ·obtain⟨_,g6⟩:=List.getElem?_eq_some_iff.1 g5
   simp[H7,wh,nZ,start,ft,aj,hF,ah,az,aH,bf,Opd.ev,put,asList,L.view,bin,bM,isBool,hw,hn,done,aV,au,bE,bN,comp,aK,bq,ai,V.cells,g1,g2,g6,g4]
def P5 :ACode:= .seq (.region [⟨some 4, .mv (.pv (.bool false)),none⟩]) .ret
def eV (z kx:Nat):ACode:= .seq (Gq 5 0 11) (.seq (.block 1 (.seq (.region [⟨some 17, .mv (.tmp 0),none⟩,⟨some 18, .mv (.tmp 5),none⟩,⟨some 19, .indexA z (.tmp 17) (.tmp 18),none⟩,⟨some 20, .load true z (.tmp 19),none⟩,⟨some 21, .mv (.tmp 1),none⟩,⟨some 22, .mv (.tmp 5),none⟩,⟨some 23, .indexA z (.tmp 21) (.tmp 22),none⟩,⟨some 24, .load true z (.tmp 23),none⟩,⟨some 25, .call kx [.tmp 20, .tmp 24] true true,none⟩,⟨some 26, .un .not (.tmp 25),none⟩]) (.cond (.tmp 26) P5 .skip))) (Hq 5 15))
def nY :ACode:= .seq (Gq 5 0 11) (.seq (.block 1 (.seq (.region [⟨some 17, .mv (.tmp 0),none⟩,⟨some 18, .mv (.tmp 5),none⟩,⟨some 19, .indexA 1 (.tmp 17) (.tmp 18),none⟩,⟨some 20, .load false 1 (.tmp 19),none⟩,⟨some 21, .mv (.tmp 1),none⟩,⟨some 22, .mv (.tmp 5),none⟩,⟨some 23, .indexA 1 (.tmp 21) (.tmp 22),none⟩,⟨some 24, .load false 1 (.tmp 23),none⟩,⟨some 25, .bin .neq (.tmp 20) (.tmp 24),none⟩]) (.cond (.tmp 25) P5 .skip))) (Hq 5 15))
def ny (nt:Nat)(body:ACode):AFn:=⟨nt,[.tmp 4], .seq (.region [⟨some 4, .mv (.pv (.bool false)),none⟩]) (.seq (.seq (.region [⟨some 6, .mv (.tmp 0),none⟩,⟨some 7, .len (.tmp 6),none⟩,⟨some 8, .mv (.tmp 1),none⟩,⟨some 9, .len (.tmp 8),none⟩,⟨some 10, .bin .neq (.tmp 7) (.tmp 9),none⟩]) (.cond (.tmp 10) P5 .skip)) (.seq (.seq (.region [⟨some 5, .mv (.pv (.int .i64 0)),none⟩]) (.block 0 (.loop body))) (.seq (.region [⟨some 4, .mv (.pv (.bool true)),none⟩]) .ret)))⟩
theorem Ps {z kx:Nat}{rows:List (List PV)}(hz:∀r∈rows,r.length=z)(hlen:rows.length≤maxLen)(hcp:∀r∈rows,ag Φ ext kx [.agg (r.map .pv), .agg (r.map .pv)]=some (ar true)):∀(m k:Nat),k+m=rows.length→
 ∀(u2 u3 u4 u6 u7 u8 u9 u10 x11 x12 x13 x14 x15 x16 x17 x18 x19 x20 x21 x22 x23 x24 x25 x26:V)(h:List AObj),
  ∃t',av (aj (ag Φ ext) av (eV z kx)) ⟨[bu rows,bu rows,u2,u3,u4,aa .i64 k,u6,u7,u8,u9,u10,x11,x12,x13,x14,x15,x16,x17,x18,x19,x20,x21,x22,x23,x24,x25,x26],h⟩=some (.exit 0,⟨t',h⟩)∧t'.length=27:=by
 intro m
 induction m with
 |zero=>
  intro k hk u2 u3 u4 u6 u7 u8 u9 u10 x11 x12 x13 x14 x15 x16 x17 x18 x19 x20 x21 x22 x23 x24 x25 x26 h
  have hk':k=rows.length:=by omega
  subst hk'
  refine⟨[bu rows,bu rows,u2,u3,u4,aa .i64 rows.length,u6,u7,u8,u9,u10,aa .i64 rows.length,bu rows,aa .i64 rows.length,ar false,x15,x16,x17,x18,x19,x20,x21,x22,x23,x24,x25,x26],gC ?_ (by simp),rfl⟩
  simp[eV,Gq,aj,ah,az,aH,bf,Opd.ev,put,asList,L.view,bin,bM,isBool]
 |succ m ih=>
  intro k hk u2 u3 u4 u6 u7 u8 u9 u10 x11 x12 x13 x14 x15 x16 x17 x18 x19 x20 x21 x22 x23 x24 x25 x26 h
  have hlt:k<rows.length:=by omega
  have hrz:(rows[k]).length=z:=hz _ (List.getElem_mem hlt)
  have c1:=hcp _ (List.getElem_mem hlt)
  have hw:=jC (k:=k) (by unfold maxLen at hlen;omega)
  have hcut:gu true z 0 ((rows[k]).map L.pv)=some (.agg ((rows[k]).map .pv)):=by
   simp[gu,hrz,List.take_of_length_le (show((rows[k]).map L.pv).length≤z by simp[hrz])]
  have hcast:((k+1:Nat):Int)=(k:Int)+1:=by omega
  obtain⟨t',g1,g2⟩:=ih (k+1) (by omega) u2 u3 u4 u6 u7 u8 u9 u10 (aa .i64 k) (bu rows) (aa .i64 rows.length) (ar true) (aa .i64 k) (aa .i64 ((k:Int)+1)) (bu rows) (aa .i64 k) (.one (.ip rows[k] 0)) (.agg ((rows[k]).map .pv)) (bu rows) (aa .i64 k) (.one (.ip rows[k] 0)) (.agg ((rows[k]).map .pv)) (ar true) (ar false) h
  refine⟨t',(fH ?_).trans g1,g2⟩
  rw[hcast]
  simp[eV,Gq,Hq,aj,ah,az,aH,bf,Opd.ev,put,asList,L.view,bin,bM,un,isBool,isInt,hlt,aJ,hrz,bm,hcut,ap,pD,V.view,c1,V.flat,L.flat,dG,dk,hw]
theorem RK {k z kx:Nat}{rows:List (List PV)}(hk:Φ k=some (ny 27 (eV z kx)))(hz:∀r∈rows,r.length=z)(hlen:rows.length≤maxLen)(hcp:∀r∈rows,ag Φ ext kx [.agg (r.map .pv), .agg (r.map .pv)]=some (ar true)):
 ag Φ ext k [bu rows,bu rows]=some (ar true):=by
 refine fQ hk ?_
 obtain⟨t',g1,g2⟩:=Ps (Φ:=Φ) (ext:=ext) hz hlen hcp rows.length 0 (by omega) (.tup []) (.tup []) (ar false) (bu rows) (aa .i64 rows.length) (bu rows) (aa .i64 rows.length) (ar false) (.tup []) (.tup []) (.tup []) (.tup []) (.tup []) (.tup []) (.tup []) (.tup []) (.tup []) (.tup []) (.tup []) (.tup []) (.tup []) (.tup []) (.tup []) (.tup []) []
 simp only[show((0:Nat):Int)=0 from rfl]at g1
 generalize hF:aj (ag Φ ext) av (eV z kx)=F at g1
 simp[ny,P5,start,ft,aj,hF,ah,az,aH,bf,Opd.ev,put,asList,L.view,bin,bM,isBool,done,aV,au,bE,bN,comp,aK,bq,ai,V.cells,g1,g2]
def PV.plain :PV→Bool
 | .lst _=>false
 | .bool _=>false
 |_=>true
theorem D1 {p:PV}(h:p.plain=true):bin .neq (.one (.pv p)) (.one (.pv p))=some (ar false):=by
 cases p with
 |int k n=>simp[bin,bM]
 |str s=>simp[bin,iF]
 |bool b=>simp[PV.plain]at h
 |lst es=>simp[PV.plain]at h
theorem Pr {qs:List PV}(hp:∀q∈qs,q.plain=true)(hlen:qs.length≤maxLen):∀(m k:Nat),k+m=qs.length→
 ∀(u2 u3 u4 u6 u7 u8 u9 u10 x11 x12 x13 x14 x15 x16 x17 x18 x19 x20 x21 x22 x23 x24 x25:V)(h:List AObj),
  ∃t',av (aj (ag Φ ext) av nY) ⟨[bu (qs.map fun q=>[q]),bu (qs.map fun q=>[q]),u2,u3,u4,aa .i64 k,u6,u7,u8,u9,u10,x11,x12,x13,x14,x15,x16,x17,x18,x19,x20,x21,x22,x23,x24,x25],h⟩=some (.exit 0,⟨t',h⟩)∧t'.length=26:=by
 intro m
 induction m with
 |zero=>
  intro k hk u2 u3 u4 u6 u7 u8 u9 u10 x11 x12 x13 x14 x15 x16 x17 x18 x19 x20 x21 x22 x23 x24 x25 h
  have hk':k=qs.length:=by omega
  subst hk'
  refine⟨[bu (qs.map fun q=>[q]),bu (qs.map fun q=>[q]),u2,u3,u4,aa .i64 qs.length,u6,u7,u8,u9,u10,aa .i64 qs.length,bu (qs.map fun q=>[q]),aa .i64 qs.length,ar false,x15,x16,x17,x18,x19,x20,x21,x22,x23,x24,x25],gC ?_ (by simp),rfl⟩
  simp[nY,Gq,aj,ah,az,aH,bf,Opd.ev,put,asList,L.view,bin,bM,isBool]
 |succ m ih=>
  intro k hk u2 u3 u4 u6 u7 u8 u9 u10 x11 x12 x13 x14 x15 x16 x17 x18 x19 x20 x21 x22 x23 x24 x25 h
  have hlt:k<qs.length:=by omega
  have hn:=D1 (hp _ (List.getElem_mem hlt))
  have hw:=jC (k:=k) (by unfold maxLen at hlen;omega)
  have hcast:((k+1:Nat):Int)=(k:Int)+1:=by omega
  have hcut:gu false 1 0 [L.pv qs[k]]=some (.one (.pv qs[k])):=by simp[gu]
  have hlss:bin .lss (aa .i64 k) (aa .i64 qs.length)=some (ar true):=by simp[bin,bM,hlt]
  have hadd:bin .add (aa .i64 k) (aa .i64 1)=some (aa .i64 ((k:Int)+1)):=by simp[bin,bM,hw]
  obtain⟨t',g1,g2⟩:=ih (k+1) (by omega) u2 u3 u4 u6 u7 u8 u9 u10 (aa .i64 k) (bu (qs.map fun q=>[q])) (aa .i64 qs.length) (ar true) (aa .i64 k) (aa .i64 ((k:Int)+1)) (bu (qs.map fun q=>[q])) (aa .i64 k) (.one (.ip [qs[k]] 0)) (.one (.pv qs[k])) (bu (qs.map fun q=>[q])) (aa .i64 k) (.one (.ip [qs[k]] 0)) (.one (.pv qs[k])) (ar false) h
  refine⟨t',(fH ?_).trans g1,g2⟩
  rw[hcast]
  simp[nY,Gq,Hq,aj,ah,az,aH,bf,Opd.ev,put,asList,L.view,hlss,hadd,isBool,isInt,hlt,aJ,bm,hcut,hn]
theorem RJ {k:Nat}{qs:List PV}(hk:Φ k=some (ny 26 nY))(hp:∀q∈qs,q.plain=true)(hlen:qs.length≤maxLen):ag Φ ext k [bu (qs.map fun q=>[q]),bu (qs.map fun q=>[q])]=some (ar true):=by
 refine fQ hk ?_
 obtain⟨t',g1,g2⟩:=Pr (Φ:=Φ) (ext:=ext) hp hlen qs.length 0 (by omega) (.tup []) (.tup []) (ar false) (bu (qs.map fun q=>[q])) (aa .i64 qs.length) (bu (qs.map fun q=>[q])) (aa .i64 qs.length) (ar false) (.tup []) (.tup []) (.tup []) (.tup []) (.tup []) (.tup []) (.tup []) (.tup []) (.tup []) (.tup []) (.tup []) (.tup []) (.tup []) (.tup []) (.tup []) []
 simp only[show((0:Nat):Int)=0 from rfl]at g1
 generalize hF:aj (ag Φ ext) av nY=F at g1
 simp[ny,P5,start,ft,aj,hF,ah,az,aH,bf,Opd.ev,put,asList,L.view,bin,bM,isBool,done,aV,au,bE,bN,comp,aK,bq,ai,V.cells,g1,g2]
end
theorem dI {t:PTy}{ts:List PTy}{ps:List PV}(h:aZ (t::ts) ps):∃p r,ps=p::r∧nv t p∧aZ ts r:=by
 cases ps with
 |nil=>cases h
 |cons p r=>exact⟨p,r,rfl,h.1,h.2⟩
theorem fm {ps:List PV}(h:aZ [] ps):ps=[]:=by
 cases ps with
 |nil=>rfl
 |cons p r=>cases h
theorem km {k:IntKind}{p:PV}(h:nv (.int k) p):∃n,p= .int k n:=by
 cases p with
 |int k' n=>exact⟨n,by rw[h.1]⟩
 |_=>cases h
theorem lu {p:PV}(h:nv .str p):∃s,p= .str s:=by
 cases p with
 |str s=>exact⟨s,rfl⟩
 |_=>cases h
theorem j9 {p:PV}(h:nv .bool p):∃b,p= .bool b:=by
 cases p with
 |bool b=>exact⟨b,rfl⟩
 |_=>cases h
theorem ng {ts:List PTy}{p:PV}(h:nv (.lst ts) p):∃rows,p= .lst rows:=by
 cases p with
 |lst rows=>exact⟨rows,rfl⟩
 |_=>cases h
theorem aL {ts:List PTy}{rows:List (List PV)}(h:nv (.lst ts) (.lst rows)):rows.length≤maxLen∧∀r∈rows,aZ ts r:=h
theorem jp :∀{ts:List PTy}{ps:List PV},aZ ts ps→ps.length=ts.length
 |[],ps,h=>by rw[fm h];rfl
 |t::ts,ps,h=>by
  obtain⟨p,r,rfl,_,h2⟩:=dI h
  simp[jp h2]
theorem Ez :∀{rows:List (List PV)}{r:List PV},r∈rows→eK r≤bP rows
 |a::rows,r,h=>by
  rcases List.mem_cons.1 h with rfl|h
  ·simp only[bP];omega
  ·have:=Ez h
   simp only[bP];omega
theorem jc (rows:List (List PV)):sz (.lst rows)=rows.length+bP rows:=by simp only[sz]
theorem RY {rows:List (List PV)}{r:List PV}(m:r∈rows)(h:sz (.lst rows)≤1048576):eK r≤1048576:=by
 have:=Ez m
 rw[jc]at h
 omega
theorem MO {t:PTy}:∀{rows:List (List PV)},(∀r∈rows,aZ [t] r)→∃qs:List PV,rows=qs.map fun q=>[q]
 |[],_=>⟨[],rfl⟩
 |a::rows,h=>by
  obtain⟨qs,rfl⟩:=MO (fun r m=>h r (List.mem_cons_of_mem _ m))
  obtain⟨p,r,rfl,_,h2⟩:=dI (h a (List.mem_cons_self))
  obtain rfl:=fm h2
  exact⟨p::qs,rfl⟩
def PTy.easy :PTy→Bool
 | .int _=>true
 | .str=>true
 |_=>false
theorem RV {t:PTy}{qs:List PV}(ht:t.easy=true)(h:∀r∈(qs.map fun q=>[q]),aZ [t] r):∀q∈qs,q.plain=true:=by
 intro q m
 have:=(h [q] (List.mem_map.2 ⟨q,m,rfl⟩)).1
 cases t with
 |int k=>obtain⟨n,rfl⟩:=km this;rfl
 |str=>obtain⟨n,rfl⟩:=lu this;rfl
 |_=>cases ht
def PTy.small :PTy→Bool
 | .int _=>true
 | .bool=>true
 |_=>false
theorem Ew :∀{ts:List PTy}{ps:List PV},ts.all PTy.small=true→aZ ts ps→eK ps=0
 |[],ps,_,h=>by rw[fm h];simp only[eK]
 |t::ts,ps,ha,h=>by
  simp only[List.all_cons,Bool.and_eq_true]at ha
  obtain⟨p,r,rfl,h1,h2⟩:=dI h
  have:=Ew ha.2 h2
  cases t with
  |int k=>obtain⟨n,rfl⟩:=km h1;simp only[eK,sz,this]
  |bool=>obtain⟨n,rfl⟩:=j9 h1;simp only[eK,sz,this]
  |_=>cases ha.1
theorem AS {ts:List PTy}(ha:ts.all PTy.small=true):∀{rows:List (List PV)},(∀r∈rows,aZ ts r)→bP rows=0
 |[],_=>by simp only[bP]
 |r::rows,h=>by
  simp only[bP,Ew ha (h r (List.mem_cons_self)),AS ha (fun r m=>h r (List.mem_cons_of_mem _ m))]
theorem Q0 {left:Int}{n:Nat}(h:left<n):less left n= -1:=by unfold less;rw[if_pos h]
theorem PP {left l:Int}{n:Nat}(h0:0≤left)(q:less left n=l)(hn:¬l<0):l=left-n∧(n:Int)≤left:=by
 unfold less at q
 split at q
 ·omega
 ·omega
end Gi
