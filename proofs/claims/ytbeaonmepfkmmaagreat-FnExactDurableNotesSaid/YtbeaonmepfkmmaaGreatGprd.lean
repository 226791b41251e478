/- Of this proof. -/
import Derived.Test.YtbeaonmepfkmmaaGreatGppd
set_option linter.unusedSimpArgs false
set_option linter.unusedVariables false
namespace Gi
open Go Go.RowKit
def xA :Nat→Nat→List UInt8→List UInt8
 |0,_,o=>o
 |n+1,k,o=>if k=0 then o else xA n (k/10) (UInt8.ofNat (48+k%10)::o)
def dO (k:Int):List UInt8:=if k≤0 then [109,48]else 109::xA 13 k.toNat []
theorem H9 :∀(n k:Nat)(o:List UInt8),(xA n k o).length≤n+o.length
 |0,k,o=>by simp[xA]
 |n+1,k,o=>by
  simp only[xA]
  split
  ·omega
  ·have:=H9 n (k/10) (UInt8.ofNat (48+k%10)::o)
   simp only[List.length_cons]at this
   omega
def TC :ACode:= .seq (.seq (.region [⟨some 6, .mv (.tmp 0),none⟩,⟨some 7, .bin .gtr (.tmp 6) (.pv (.int .i64 0)),none⟩]) (.cond (.tmp 7) .skip (.exit 0))) (.block 1 (.seq (.region [⟨some 8, .mv (.tmp 0),none⟩,⟨some 9, .bin .rem (.tmp 8) (.pv (.int .i64 10)),none⟩,⟨some 10, .bin .add (.pv (.int .i64 48)) (.tmp 9),none⟩,⟨some 11, .conv .u8 (.tmp 10),none⟩,⟨some 12, .buildS 1 [.tmp 11],none⟩,⟨some 13, .b2s (.tmp 12),none⟩,⟨some 14, .mv (.tmp 3),none⟩,⟨some 15, .bin .add (.tmp 13) (.tmp 14),none⟩,⟨some 3, .mv (.tmp 15),none⟩]) (.region [⟨some 16, .mv (.tmp 0),none⟩,⟨some 17, .bin .quo (.tmp 16) (.pv (.int .i64 10)),none⟩,⟨some 0, .mv (.tmp 17),none⟩])))
def Uk :AFn:=⟨20,[.tmp 2], .seq (.region [⟨some 2, .mv (.pv (.str [])),none⟩]) (.seq (.seq (.region [⟨some 4, .mv (.tmp 0),none⟩,⟨some 5, .bin .leq (.tmp 4) (.pv (.int .i64 0)),none⟩]) (.cond (.tmp 5) (.seq (.region [⟨some 2, .mv (.pv (.str [109,48])),none⟩]) .ret) .skip)) (.seq (.region [⟨some 3, .mv (.pv (.str [])),none⟩]) (.seq (.block 0 (.loop TC)) (.seq (.region [⟨some 18, .mv (.tmp 3),none⟩,⟨some 19, .bin .add (.pv (.str [109])) (.tmp 18),none⟩,⟨some 2, .mv (.tmp 19),none⟩]) .ret))))⟩
section
variable {Φ:Nat→Option AFn}{ext:Nat→List V→Option V}
theorem Sd :∀(n k:Nat),k<10^n→k<9223372036854775807→∀(o:List UInt8),o.length+n≤1000→∀(u1 u2 u4 u5 u6 u7 u8 u9 u10 u11 u12 u13 u14 u15 u16 u17 u18 u19:V)(h:List AObj),
 ∃w1 w2 w4 w5 w6 w7 w8 w9 w10 w11 w12 w13 w14 w15 w16 w17 w18 w19 h',aC (au (ah Φ ext) aC TC) ⟨[aa .i64 k,u1,u2,dv o,u4,u5,u6,u7,u8,u9,u10,u11,u12,u13,u14,u15,u16,u17,u18,u19],h⟩=some (.exit 0,⟨[aa .i64 0,w1,w2,dv (xA n k o),w4,w5,w6,w7,w8,w9,w10,w11,w12,w13,w14,w15,w16,w17,w18,w19],h'⟩):=by
 intro n
 induction n with
 |zero=>
  intro k hk hk2 o ho u1 u2 u4 u5 u6 u7 u8 u9 u10 u11 u12 u13 u14 u15 u16 u17 u18 u19 h
  obtain rfl:k=0:=by simpa using hk
  refine⟨u1,u2,u4,u5,aa .i64 0,aD false,u8,u9,u10,u11,u12,u13,u14,u15,u16,u17,u18,u19,h,it ?_ (by simp)⟩
  simp[TC,au,ai,aE,aO,a9,Opd.ev,put,bin,ca,isBool,xA]
 |succ n ih=>
  intro k hk hk2 o ho u1 u2 u4 u5 u6 u7 u8 u9 u10 u11 u12 u13 u14 u15 u16 u17 u18 u19 h
  by_cases h0:k=0
  ·subst h0
   refine⟨u1,u2,u4,u5,aa .i64 0,aD false,u8,u9,u10,u11,u12,u13,u14,u15,u16,u17,u18,u19,h,it ?_ (by simp)⟩
   simp[TC,au,ai,aE,aO,a9,Opd.ev,put,bin,ca,isBool,xA]
  ·have hpos:(0:Int)<(k:Int):=by omega
   have hm:(k:Int).tmod 10=((k%10:Nat):Int):=by
    rw[Int.tmod_eq_emod_of_nonneg (by omega)];omega
   have hq:(k:Int).tdiv 10=((k/10:Nat):Int):=by
    rw[Int.tdiv_eq_ediv_of_nonneg (by omega)];omega
   have hw1:IntKind.i64.wrap (48+((k%10:Nat):Int))=((48+k%10:Nat):Int):=by rw[IntKind.wrap_i64];omega
   have hw2:IntKind.u8.wrap ((48+k%10:Nat):Int)=((48+k%10:Nat):Int):=by rw[IntKind.wrap_u8];omega
   have hw3:IntKind.i64.wrap ((k/10:Nat):Int)=((k/10:Nat):Int):=by rw[IntKind.wrap_i64];omega
   have hlt:k/10<10^n:=by
    rw[Nat.pow_succ]at hk
    omega
   have hlen:([UInt8.ofNat (48+k%10)]:List UInt8).length+o.length≤9223372036854775807:=by simp;omega
   obtain⟨w1,w2,w4,w5,w6,w7,w8,w9,w10,w11,w12,w13,w14,w15,w16,w17,w18,w19,h',e⟩:=ih (k/10) hlt (by omega) (UInt8.ofNat (48+k%10)::o) (by simp;omega) u1 u2 u4 u5 (aa .i64 k) (aD true) (aa .i64 k) (aa .i64 ((k%10:Nat):Int)) (aa .i64 ((48+k%10:Nat):Int)) (aa .u8 ((48+k%10:Nat):Int)) (.one (.arr h.length)) (dv [UInt8.ofNat (48+k%10)]) (dv o) (dv (UInt8.ofNat (48+k%10)::o)) (aa .i64 k) (aa .i64 ((k/10:Nat):Int)) u18 u19 (h++[.arr 1 [[.int .u8 ((48+k%10:Nat):Int)]]])
   refine⟨w1,w2,w4,w5,w6,w7,w8,w9,w10,w11,w12,w13,w14,w15,w16,w17,w18,w19,h',(fG ?_).trans (e.trans ?_)⟩
   ·have hbs:mY [[PV.int .u8 ((48+k%10:Nat):Int)]]=some [UInt8.ofNat (48+k%10)]:=by
     simp only[mY,Int.toNat_natCast]
    have hvr:aM h [aa .u8 ((48+k%10:Nat):Int)]=some [[.int .u8 ((48+k%10:Nat):Int)]]:=rfl
    have hfz:freezeVs h [aa .u8 ((48+k%10:Nat):Int)]=h:=rfl
    have hal:asList (h++[AObj.arr 1 [[.int .u8 ((48+k%10:Nat):Int)]]]) (.one (.arr h.length))=some [[.int .u8 ((48+k%10:Nat):Int)]]:=by
     simp[asList,L.view]
    have hbp:decide ((0:Int)<(k:Int))=true:=decide_eq_true hpos
    have h10:¬((10:Int)=0):=by decide
    have hc1:(([aa .u8 ((48+k%10:Nat):Int)]:List V).all (fun v=>v.cells.length==1)&&decide (0<1)&&decide (([aa .u8 ((48+k%10:Nat):Int)]:List V).length*1≤16777216))=true:=rfl
    simp only[TC,au,ai,aE,aO,a9,b6,Opd.ev,put,List.getD_cons_zero,List.getD_cons_succ,List.set_cons_succ,List.set_cons_zero,bin,ca,iK,if_true,if_neg h10,hbp,isBool,isInt,List.map_cons,List.map_nil,hm,hw1,hw2,hc1,hvr,hfz,hal,hbs,hlen,hq,hw3,List.cons_append,List.nil_append]
   ·simp only[xA,if_neg h0]
theorem Tq {f:Nat}(hk:Φ f=some Uk):zP Φ ext dO f:=by
 intro k h0 hM
 refine eB hk ?_
 by_cases hz:k≤0
 ·have hb:decide (k≤0)=true:=decide_eq_true hz
  simp[Uk,start,fB,au,ai,aE,aO,a9,Opd.ev,put,bin,ca,hb,isBool,done,aR,aw,cq,bE,comp,aK,bv,al,V.cells,dO,hz]
 ·have hb:decide (k≤0)=false:=decide_eq_false hz
  obtain⟨n,rfl⟩:∃n:Nat,k=n:=⟨k.toNat,by omega⟩
  unfold yH at hM
  have hdl:=H9 13 n []
  have hlen:([109]:List UInt8).length+(xA 13 n []).length≤9223372036854775807:=by simp at hdl⊢;omega
  have hlen':1+(xA 13 n []).length≤9223372036854775807:=by simpa using hlen
  generalize hlp:aC (au (ah Φ ext) aC TC)=lp
  have hloop:∀u1 u2 u4 u5 u6 u7 u8 u9 u10 u11 u12 u13 u14 u15 u16 u17 u18 u19 h,∃w1 w2 w4 w5 w6 w7 w8 w9 w10 w11 w12 w13 w14 w15 w16 w17 w18 w19 h',lp ⟨[aa .i64 n,u1,u2,dv [],u4,u5,u6,u7,u8,u9,u10,u11,u12,u13,u14,u15,u16,u17,u18,u19],h⟩=some (.exit 0,⟨[aa .i64 0,w1,w2,dv (xA 13 n []),w4,w5,w6,w7,w8,w9,w10,w11,w12,w13,w14,w15,w16,w17,w18,w19],h'⟩):=by
   rw[←hlp]
   exact Sd (Φ:=Φ) (ext:=ext) 13 n (by omega) (by omega) [] (by simp)
  obtain⟨w1,w2,w4,w5,w6,w7,w8,w9,w10,w11,w12,w13,w14,w15,w16,w17,w18,w19,h',e⟩:=hloop (.tup []) (dv []) (aa .i64 n) (aD false) (.tup []) (.tup []) (.tup []) (.tup []) (.tup []) (.tup []) (.tup []) (.tup []) (.tup []) (.tup []) (.tup []) (.tup []) (.tup []) (.tup []) []
  have hm:dO (n:Int)=109::xA 13 n []:=by simp only[dO,if_neg hz,Int.toNat_natCast]
  rw[hm]
  simp only[Uk,start,fB,au,hlp,List.length_singleton,Nat.reduceSub,List.replicate,List.cons_append,List.nil_append,ai,aE,aO,a9,Opd.ev,put,List.getD_cons_zero,List.getD_cons_succ,List.set_cons_succ,List.set_cons_zero,bin,ca,hb,if_true,isBool,Bool.false_eq_true,if_false,e,iK,hlen]
  simp[hlen',done,aR,aw,cq,bE,comp,aK,bv,al,V.cells]
end
def Sa :List ACode→ACode
 |[]=> .skip
 |[a]=>a
 |a::b::r=> .seq a (Sa (b::r))
def tW (call:Nat→List V→Option V)(lp:(St→Option (Ex×St))→St→Option (Ex×St)):List ACode→St→Option St
 |[],σ=>some σ
 |a::r,σ=>match au call lp a σ with
  |some (.normal,σ')=>tW call lp r σ'
  |_=>none
theorem Ju {call:Nat→List V→Option V}{lp:(St→Option (Ex×St))→St→Option (Ex×St)}:∀{xz:List ACode}{σ σ':St},tW call lp xz σ=some σ'→au call lp (Sa xz) σ=some (.normal,σ')
 |[],σ,σ',h=>by simp only[tW]at h;cases h;rfl
 |[a],σ,σ',h=>by
  simp only[tW]at h
  split at h
  ·rename_i σ1 h1;cases h;exact h1
  ·cases h
 |a::b::r,σ,σ',h=>by
  rw[tW]at h
  split at h
  ·rename_i σ1 h1
   have:=Ju (xz:=b::r) h
   simp only[Sa,au,h1,this]
  ·cases h
theorem Jq {call:Nat→List V→Option V}{lp:(St→Option (Ex×St))→St→Option (Ex×St)}:∀{xz bs:List ACode}{σ σ':St},tW call lp xz σ=some σ'→tW call lp (xz++bs) σ=tW call lp bs σ'
 |[],bs,σ,σ',h=>by simp only[tW]at h;cases h;rfl
 |a::xz,bs,σ,σ',h=>by
  simp only[tW,List.cons_append]at h⊢
  split at h
  ·rename_i σ1 h1
   exact Jq h
  ·cases h
def AP (mt c:Nat):PTy→List AOper
 | .int .i64=>[]
 | .int κ=>[⟨some (c+3), .conv κ (.tmp (c+2)),none⟩]
 | .str=>[⟨some (c+3), .call mt [.tmp (c+2)] true true,none⟩]
 | .bool=>[⟨some (c+3), .bin .rem (.tmp (c+2)) (.pv (.int .i64 3)),none⟩,⟨some (c+4), .bin .eql (.tmp (c+3)) (.pv (.int .i64 0)),none⟩]
 | .lst _=>[]
def UF :ACode:= .seq (.region [⟨some 4, .mv (.pv (.int .i64 (-1))),none⟩]) .ret
def S9 (z c:Nat)(x:MC):List AOper:=Mz c++(⟨some (c+2), .indexA z (.tmp c) (.tmp (c+1)),none⟩::(qh (c+2) x.p++[⟨some (c+3+x.p.length), .load false 1 (.tmp (c+2+x.p.length)),none⟩,⟨some (c+4+x.p.length), .mv (.tmp 1),none⟩]))
def RG (z mt c:Nat)(t:PTy)(x:MC):List ACode:=
 let d:=c+2+x.p.length
 let v:=d+2+(AP mt d t).length
 [.seq (.region (S9 z c x++(AP mt d t++[⟨some (v+1),Ej t (.tmp (d+1)) (.tmp v),none⟩]))) (.cond (.tmp (v+1)) UF .skip), .region (KH (v+2))]
def S8 (z c:Nat)(x:MC):List ACode:=
 let d:=c+2+x.p.length
 [.region (S9 z c x++[⟨some (d+3), .call x.f [.tmp (d+1), .tmp (d+2)] true false,none⟩,⟨some 1, .mv (.tmp (d+3)),none⟩]),nX (d+4)]
def S7 (z mt c:Nat):PTy→MC→List ACode
 | .lst _,x=>S8 z c x
 |t,x=>RG z mt c t x
def Gf (mt c:Nat):PTy→MC→Nat
 | .lst _,x=>c+8+x.p.length
 |t,x=>c+8+(AP mt (c+2+x.p.length) t).length+x.p.length
def RH (z mt:Nat):Nat→List PTy→List MC→List ACode
 |c,t::ts,x::xs=>S7 z mt c t x++RH z mt (Gf mt c t x) ts xs
 |_,_,_=>[]
def pg (mt:Nat):Nat→List PTy→List MC→Nat
 |c,t::ts,x::xs=>pg mt (Gf mt c t x) ts xs
 |c,_,_=>c
def IJ (mt:Nat)(ts:List PTy)(xs:List MC):ACode:= .seq (ES 5 0 6) (.seq (.block 1 (Sa (RH ts.length mt 12 ts xs))) (Ge 5 10))
def wh (mt:Nat)(ts:List PTy)(xs:List MC):AFn:=⟨pg mt 12 ts xs+1,[.tmp 4], .seq (.region [⟨some 4, .mv (.pv (.int .i64 0)),none⟩]) (.seq (.seq (.region [⟨some 5, .mv (.pv (.int .i64 0)),none⟩]) (.block 0 (.loop (IJ mt ts xs)))) (.seq (.region [⟨some (pg mt 12 ts xs), .mv (.tmp 1),none⟩,⟨some 4, .mv (.tmp (pg mt 12 ts xs)),none⟩]) .ret))⟩
theorem H3 {call:Nat→List V→Option V}{e:List PV}:∀{p:List Nat}{c j:Nat}{t:List V}{h:List AObj},t[c]? =some (.one (.ip e j))→c+p.length<t.length→
 ∃t',ai call (qh c p) ⟨t,h⟩=some ⟨t',h⟩∧t'.length=t.length∧t'[c+p.length]? =some (.one (.ip e (j+p.sum)))∧∀n≤c,t'[n]? =t[n]?
 |[],c,j,t,h,hc,hl=>⟨t,rfl,rfl,by simpa using hc,fun _ _=>rfl⟩
 |d::ds,c,j,t,h,hc,hl=>by
  simp only[List.length_cons]at hl
  obtain⟨t',e1,e2,e3,e4⟩:=H3 (call:=call) (e:=e) (p:=ds) (c:=c+1) (j:=j+d) (t:=t.set (c+1) (.one (.ip e (j+d)))) (h:=h) (List.getElem?_set_self (by omega)) (by simp;omega)
  refine⟨t',?_,by simpa using e2,?_,fun n hn=> ?_⟩
  ·simp only[qh,ai,aE,aO,a9,Opd.ev,getD_some hc,put,e1]
  ·simp only[List.length_cons,List.sum_cons]
   rw[show c+(ds.length+1)=c+1+ds.length by omega,e3,Nat.add_assoc]
  ·rw[e4 n (by omega),List.getElem?_set_ne (by omega)]
section
variable {Φ:Nat→Option AFn}{ext:Nat→List V→Option V}{mT:Int→List UInt8}{mt:Nat}
theorem QY (hT:zP Φ ext mT mt){ty:PTy}{p:PV}(hp:n5 ty p)(hf:ty.flatT=true){c:Nat}{k:Int}(h0:0≤k)(hk:k<yH){t:List V}{h:List AObj}(h2:t[c+2]? =some (aa .i64 k))(hl:c+2+(AP mt c ty).length<t.length):
 ∃t',ai (ah Φ ext) (AP mt c ty) ⟨t,h⟩=some ⟨t',h⟩∧t'.length=t.length∧t'[c+2+(AP mt c ty).length]? =some (.one (.pv (jZ mT p k).1))∧∀n≤c+2,t'[n]? =t[n]? :=by
 have e2:=getD_some h2
 by_cases hs:ty= .str
 ·subst hs
  obtain⟨s,rfl⟩:=jG hp
  simp only[AP,List.length_singleton]at hl⊢
  refine⟨t.set (c+3) (dv (mT k)),?_,by simp,by simp only[jZ];exact List.getElem?_set_self (by omega),fun n hn=>List.getElem?_set_ne (by omega)⟩
  simp only[ai,aE,aO,a9,Bool.or_self,Bool.true_or,if_true,List.map_cons,List.map_nil,Opd.ev,e2,av,V.view,L.view,hT k h0 (by omega),V.flat,L.flat,Bool.not_true,Bool.and_false,Bool.false_eq_true,if_false,cX,cN,put]
 ·have:AP mt c ty=tZ mt c ty:=by
   cases ty with
   |int κ=>cases κ<;>rfl
   |str=>exact absurd rfl hs
   |_=>rfl
  rw[this]at hl⊢
  exact Nb hT hp hf h0 hk h2 hl
theorem Ox {ty:PTy}{p:PV}(hp:n5 ty p)(hf:ty.flatT=true){k:Int}{t:List V}{a b:Nat}(ha:t[a]? =some (.one (.pv (jZ mT p k).1)))(hb:t[b]? =some (.one (.pv (jZ mT p k).1)))(call:Nat→List V→Option V)(h:List AObj):a9 call ⟨t,h⟩ (Ej ty (.tmp a) (.tmp b))=some (aD false):=by
 have e1:=getD_some ha
 have e2:=getD_some hb
 cases ty with
 |lst us=>cases hf
 |str=>
  obtain⟨s,rfl⟩:=jG hp
  simp only[Ej,a9,Opd.ev,e1,e2]
  exact CN rfl
 |int κ=>
  obtain⟨s,rfl⟩:=lh hp
  simp only[Ej,a9,Opd.ev,e1,e2]
  exact CN rfl
 |bool=>
  obtain⟨s,rfl⟩:=j7 hp
  simp only[Ej,a9,Opd.ev,e1,e2,jZ,isBool]
  cases k.tmod 3==0<;>rfl
structure HdSt (rows:List (List PV)) (i:Nat) (k:Int) (t:List V):Prop where
 t0:t[0]? =some (aQ rows)
 t1:t[1]? =some (aa .i64 k)
 t5:t[5]? =some (aa .i64 i)
theorem Mm {rows:List (List PV)}{e:List PV}{q:PV}{x:MC}{z i c:Nat}{k:Int}{t:List V}(s:HdSt rows i k t)(he:rows[i]? =some e)(hz:e.length=z)(hq:e[x.p.sum]? =some q)(hc:12≤c)(hl:c+4+x.p.length<t.length)(call:Nat→List V→Option V):
 ∃t',ai call (S9 z c x) ⟨t,[]⟩=some ⟨t',[]⟩∧t'.length=t.length∧t'[c+3+x.p.length]? =some (.one (.pv q))∧t'[c+4+x.p.length]? =some (aa .i64 k)∧∀n<c,t'[n]? =t[n]? :=by
 let t1:=((t.set c (aQ rows)).set (c+1) (aa .i64 i)).set (c+2) (.one (.ip e 0))
 have a0:ai call (Mz c++[⟨some (c+2), .indexA z (.tmp c) (.tmp (c+1)),none⟩]) ⟨t,[]⟩=some ⟨t1,[]⟩:=by
  have e1:=getD_some s.t0
  have e2:(t.set c (aQ rows)).getD 5 (.tup [])=aa .i64 i:=(dj (by omega)).trans (getD_some s.t5)
  have e3:((t.set c (aQ rows)).set (c+1) (aa .i64 i)).getD c (.tup [])=aQ rows:=(dj (by omega)).trans (aF (by omega))
  have e4:((t.set c (aQ rows)).set (c+1) (aa .i64 i)).getD (c+1) (.tup [])=aa .i64 i:=aF (by simp;omega)
  simp only[Mz,List.cons_append,List.nil_append,ai,aE,aO,a9,Opd.ev,e1,put,e2,e3,e4,isInt,Int.natCast_nonneg,if_true,Int.toNat_natCast,aJ,he,hz,t1]
 have l1:t1.length=t.length:=by simp[t1]
 have g1:∀n,n<c→t1[n]? =t[n]? :=fun n hn=>by simp only[t1];rw[List.getElem?_set_ne (by omega),List.getElem?_set_ne (by omega),List.getElem?_set_ne (by omega)]
 have ge:t1[c+2]? =some (.one (.ip e 0)):=by simp only[t1];exact List.getElem?_set_self (by simp;omega)
 clear_value t1
 obtain⟨t4,d1,d2,d3,d4⟩:=H3 (call:=call) (e:=e) (p:=x.p) (c:=c+2) (j:=0) (t:=t1) (h:=[]) ge (by omega)
 rw[Nat.zero_add]at d3
 have hcut:fO false 1 x.p.sum (e.map L.pv)=some (.one (.pv q)):=by
  have hlt:=(List.getElem?_eq_some_iff.1 hq).1
  unfold fO
  rw[if_pos (by simp;omega)]
  simp[hq]
 have q1:(t4.set (c+3+x.p.length) (V.one (.pv q))).getD 1 (.tup [])=aa .i64 k:=(dj (by omega)).trans (getD_some ((d4 1 (by omega)).trans ((g1 1 (by omega)).trans s.t1)))
 refine⟨(t4.set (c+3+x.p.length) (.one (.pv q))).set (c+4+x.p.length) (aa .i64 k),?_,by simp;omega,by rw[List.getElem?_set_ne (by omega)];exact List.getElem?_set_self (by omega),List.getElem?_set_self (by simp;omega),fun n hn=>by rw[List.getElem?_set_ne (by omega),List.getElem?_set_ne (by omega),d4 n (by omega),g1 n hn]⟩
 have hflat:S9 z c x=(Mz c++[⟨some (c+2), .indexA z (.tmp c) (.tmp (c+1)),none⟩])++(qh (c+2) x.p++[⟨some (c+3+x.p.length), .load false 1 (.tmp (c+2+x.p.length)),none⟩,⟨some (c+4+x.p.length), .mv (.tmp 1),none⟩]):=by
  simp only[S9,List.append_assoc,List.cons_append,List.nil_append]
 rw[hflat,bL _ _ _ a0,bL _ _ _ d1]
 simp only[ai,aE,aO,a9,Opd.ev,getD_some d3,bf,hcut,put,q1]
theorem RI {call:Nat→List V→Option V}{rows:List (List PV)}{i c:Nat}{k:Int}{t:List V}{h:List AObj}(s:HdSt rows i k t)(h0:0≤k)(hk:k<yH)(hc:6≤c)(hl:c+1<t.length):
 ∃t',ai call (KH c) ⟨t,h⟩=some ⟨t',h⟩∧t'.length=t.length∧HdSt rows i (k+1) t':=by
 have e1:=getD_some s.t1
 have e2:(t.set c (aa .i64 k)).getD c (.tup [])=aa .i64 k:=aF (by omega)
 have hw:IntKind.i64.wrap (k+1)=k+1:=by rw[IntKind.wrap_i64];unfold yH at hk;omega
 have e3:((t.set c (aa .i64 k)).set (c+1) (aa .i64 (k+1))).getD (c+1) (.tup [])=aa .i64 (k+1):=aF (by simp;omega)
 refine⟨((t.set c (aa .i64 k)).set (c+1) (aa .i64 (k+1))).set 1 (aa .i64 (k+1)),?_,by simp,?_,?_,?_⟩
 ·simp only[KH,ai,aE,aO,a9,Opd.ev,e1,put,e2,bin,if_true,ca,hw,e3]
 ·rw[List.getElem?_set_ne (by omega),List.getElem?_set_ne (by omega),List.getElem?_set_ne (by omega)];exact s.t0
 ·exact List.getElem?_set_self (by simp;omega)
 ·rw[List.getElem?_set_ne (by omega),List.getElem?_set_ne (by omega),List.getElem?_set_ne (by omega)];exact s.t5
theorem PY (hT:zP Φ ext mT mt){rows:List (List PV)}{ty:PTy}{p:PV}{x:MC}{e:List PV}{z i c:Nat}{k:Int}{t:List V}(hp:n5 ty p)(hf:ty.flatT=true)(s:HdSt rows i k t)(h0:0≤k)(hk:k<yH)(hc:12≤c)(he:rows[i]? =some e)(hz:e.length=z)(hq:e[x.p.sum]? =some (jZ mT p k).1)(hl:c+8+(AP mt (c+2+x.p.length) ty).length+x.p.length≤t.length):
 ∃t',tW (ah Φ ext) aC (RG z mt c ty x) ⟨t,[]⟩=some ⟨t',[]⟩∧t'.length=t.length∧HdSt rows i (jZ mT p k).2 t':=by
 obtain⟨t1,a1,a2,a3,a4,a5⟩:=Mm s he hz hq hc (by omega) (ah Φ ext)
 generalize hd:c+2+x.p.length=d at*
 rw[show c+3+x.p.length=d+1 by omega]at a3
 rw[show c+4+x.p.length=d+2 by omega]at a4
 obtain⟨t2,b1,b2,b3,b4⟩:=QY (h:=[]) hT hp hf h0 hk a4 (by omega)
 generalize hv:d+2+(AP mt d ty).length=v at*
 have b5:t2[d+1]? =some (.one (.pv (jZ mT p k).1)):=(b4 (d+1) (by omega)).trans a3
 have c1:=Ox hp hf b5 b3 (ah Φ ext) []
 have q1:(t2.set (v+1) (aD false)).getD (v+1) (.tup [])=aD false:=aF (by omega)
 have low:∀n,n<c→(t2.set (v+1) (aD false))[n]? =t[n]? :=fun n hn=>by rw[List.getElem?_set_ne (by omega),b4 n (by omega),a5 n hn]
 obtain⟨t5,i1,i2,i3⟩:=RI (call:=ah Φ ext) (c:=v+2) (h:=[]) (⟨(low 0 (by omega)).trans s.t0,(low 1 (by omega)).trans s.t1,(low 5 (by omega)).trans s.t5⟩:HdSt rows i k (t2.set (v+1) (aD false))) h0 hk (by omega) (by simp;omega)
 have f3:=(wD (mT:=mT) hp hf k).2.2
 refine⟨t5,?_,by rw[i2];simp;omega,by rw[f3];exact i3⟩
 have hops:ai (ah Φ ext) (S9 z c x++(AP mt d ty++[⟨some (v+1),Ej ty (.tmp (d+1)) (.tmp v),none⟩])) ⟨t,[]⟩=some ⟨t2.set (v+1) (aD false),[]⟩:=by
  rw[bL _ _ _ a1,bL _ _ _ b1]
  simp only[ai,aE,aO,c1,put]
 simp only[RG,hd,hv,tW,au,hops,Opd.ev,q1,isBool,Bool.false_eq_true,if_false,i1]
def xj (Φ:Nat→Option AFn)(ext:Nat→List V→Option V)(mT:Int→List UInt8)(f:Nat)(ts:List PTy):Prop:=
 ∀rows:List (List PV),n5 (.lst ts) (.lst rows)→∀k:Int,0≤k→(gi mT rows k).2≤yH→ah Φ ext f [aQ (gi mT rows k).1,aa .i64 k]=some (aa .i64 (gi mT rows k).2)
theorem PZ {rows:List (List PV)}{us:List PTy}{ys:List (List PV)}{x:MC}{e:List PV}{z i c:Nat}{k:Int}{t:List V}(hO:xj Φ ext mT x.f us)(hp:n5 (.lst us) (.lst ys))(s:HdSt rows i k t)(h0:0≤k)(hk:(gi mT ys k).2≤yH)(hc:12≤c)(he:rows[i]? =some e)(hz:e.length=z)(hq:e[x.p.sum]? =some (jZ mT (.lst ys) k).1)(hl:c+8+x.p.length≤t.length):
 ∃t',tW (ah Φ ext) aC (S8 z c x) ⟨t,[]⟩=some ⟨t',[]⟩∧t'.length=t.length∧HdSt rows i (jZ mT (.lst ys) k).2 t':=by
 obtain⟨t1,a1,a2,a3,a4,a5⟩:=Mm s he hz hq hc (by omega) (ah Φ ext)
 have hle:=yJ mT ys k
 generalize hd:c+2+x.p.length=d at*
 rw[show c+3+x.p.length=d+1 by omega]at a3
 rw[show c+4+x.p.length=d+2 by omega]at a4
 simp only[jZ]at a3⊢
 generalize hk2:(gi mT ys k).2=k2 at*
 have hcall:=hO ys hp k h0 (by omega)
 rw[hk2]at hcall
 generalize (gi mT ys k).1=ys' at*
 have e1:=getD_some a3
 have e2:=getD_some a4
 have q1:(t1.set (d+3) (aa .i64 k2)).getD (d+3) (.tup [])=aa .i64 k2:=aF (by omega)
 have hview:av [] [aQ ys',aa .i64 k]=some [aQ ys',aa .i64 k]:=rfl
 let t2:=(t1.set (d+3) (aa .i64 k2)).set 1 (aa .i64 k2)
 have hops:ai (ah Φ ext) (S9 z c x++[⟨some (d+3), .call x.f [.tmp (d+1), .tmp (d+2)] true false,none⟩,⟨some 1, .mv (.tmp (d+3)),none⟩]) ⟨t,[]⟩=some ⟨t2,[]⟩:=by
  rw[bL _ _ _ a1]
  have hvl:av [] [V.one (L.pv (PV.lst ys')),aa .i64 k]=some [aQ ys',aa .i64 k]:=rfl
  simp only[ai,aE,aO,a9,Bool.or_false,Bool.true_or,if_true,List.map_cons,List.map_nil,Opd.ev,e1,e2,hvl,hcall,V.flat,L.flat,Bool.not_true,Bool.and_false,Bool.false_eq_true,if_false,cX,cN,put,q1,t2]
 have l2:t2.length=t.length:=by simp[t2];omega
 have q2:t2.getD 1 (.tup [])=aa .i64 k2:=aF (by simp;omega)
 have q3:(t2.set (d+4) (aa .i64 k2)).getD (d+4) (.tup [])=aa .i64 k2:=aF (by omega)
 have q4:((t2.set (d+4) (aa .i64 k2)).set (d+5) (aD false)).getD (d+5) (.tup [])=aD false:=aF (by simp;omega)
 have hlt:decide (k2<0)=false:=decide_eq_false (by omega)
 refine⟨(t2.set (d+4) (aa .i64 k2)).set (d+5) (aD false),?_,by simp;omega,?_,?_,?_⟩
 ·have h5:d+4+1=d+5:=by omega
  simp only[S8,hd,tW,au,hops,nX,ai,aE,aO,a9,Opd.ev,q2,put,q3,bin,if_true,ca,hlt,h5,q4,isBool,Bool.false_eq_true,if_false]
 ·simp only[t2];rw[List.getElem?_set_ne (by omega),List.getElem?_set_ne (by omega),List.getElem?_set_ne (by omega),List.getElem?_set_ne (by omega)];exact(a5 0 (by omega)).trans s.t0
 ·rw[List.getElem?_set_ne (by omega),List.getElem?_set_ne (by omega)];exact List.getElem?_set_self (by simp;omega)
 ·simp only[t2];rw[List.getElem?_set_ne (by omega),List.getElem?_set_ne (by omega),List.getElem?_set_ne (by omega),List.getElem?_set_ne (by omega)];exact(a5 5 (by omega)).trans s.t5
def EA (Φ:Nat→Option AFn)(ext:Nat→List V→Option V)(mT:Int→List UInt8):Nat→List PTy→List MC→Prop
 |j, .lst us::ts,x::xs=>x.p.sum=j∧xj Φ ext mT x.f us∧EA Φ ext mT (j+1) ts xs
 |j,_::ts,x::xs=>x.p.sum=j∧EA Φ ext mT (j+1) ts xs
 |_,[],[]=>True
 |_,_,_=>False
theorem AU :∀(ts:List PTy)(xs:List MC)(c:Nat),c≤pg mt c ts xs
 |[],_,c=>Nat.le_refl _
 |_::_,[],c=>Nat.le_refl _
 |t::ts,x::xs,c=>by
  simp only[pg]
  refine Nat.le_trans ?_ (AU ts xs _)
  cases t<;>simp only[Gf]<;>omega
theorem Mj (hT:zP Φ ext mT mt){rows:List (List PV)}{z i:Nat}:∀(ts:List PTy)(xs:List MC){c:Nat}{dn row:List PV}{k:Int}{t:List V},EA Φ ext mT dn.length ts xs→bp ts row→rows[i]? =some (dn++(om mT row k).1)→z=dn.length+ts.length→HdSt rows i k t→0≤k→(om mT row k).2≤yH→12≤c→pg mt c ts xs≤t.length→
 ∃t',tW (ah Φ ext) aC (RH z mt c ts xs) ⟨t,[]⟩=some ⟨t',[]⟩∧t'.length=t.length∧HdSt rows i (om mT row k).2 t'
 |[],xs,c,dn,row,k,t,hm,hr,hE,hz,s,h0,hk,hc,hl=>by
  obtain rfl:=eV hr
  cases xs<;>exact⟨t,rfl,rfl,by simpa only[om]using s⟩
 |ty::ts,[],c,dn,row,k,t,hm,hr,hE,hz,s,h0,hk,hc,hl=>by cases ty<;>exact hm.elim
 |ty::ts,x::xs,c,dn,row,k,t,hm,hr,hE,hz,s,h0,hk,hc,hl=>by
  obtain⟨p,rest,rfl,hp,hr'⟩:=dB hr
  have hle:=yG mT rest (jZ mT p k).2
  have hlp:=KX mT p k
  simp only[om]at hk hE
  simp only[pg]at hl
  have hN:=AU (mt:=mt) ts xs (Gf mt c ty x)
  have hnext:EA Φ ext mT (dn++[(jZ mT p k).1]).length ts xs:=by
   have:(dn++[(jZ mT p k).1]).length=dn.length+1:=by simp
   rw[this]
   cases ty<;>first|exact hm.2|exact hm.2.2
  have hx:x.p.sum=dn.length:=by cases ty<;>exact hm.1
  have hel:(dn++(jZ mT p k).1::(om mT rest (jZ mT p k).2).1).length=z:=by
   rw[hz,List.length_append,List.length_cons,Mv,jp hr'];rfl
  have hq:(dn++(jZ mT p k).1::(om mT rest (jZ mT p k).2).1)[x.p.sum]? =some (jZ mT p k).1:=by rw[hx];exact AS
  have cell:∃t',tW (ah Φ ext) aC (S7 z mt c ty x) ⟨t,[]⟩=some ⟨t',[]⟩∧t'.length=t.length∧HdSt rows i (jZ mT p k).2 t':=by
   by_cases hf:ty.flatT=true
   ·have hR:S7 z mt c ty x=RG z mt c ty x:=by cases ty<;>first|rfl|cases hf
    have hN':Gf mt c ty x=c+8+(AP mt (c+2+x.p.length) ty).length+x.p.length:=by cases ty<;>first|rfl|cases hf
    rw[hR]
    have:=(wD (mT:=mT) hp hf k).2.2
    exact PY hT hp hf s h0 (by omega) hc hE hel hq (by omega)
   ·cases ty with
    |lst us=>
     obtain⟨ys,rfl⟩:=mV hp
     have hN':Gf mt c (.lst us) x=c+8+x.p.length:=rfl
     have hk':(gi mT ys k).2≤yH:=by simp only[jZ]at hle hk;omega
     exact PZ hm.2.1 hp s h0 hk' hc hE hel hq (by omega)
    |_=>exact absurd rfl hf
  obtain⟨t1,e1,e2,e3⟩:=cell
  have hc':c≤Gf mt c ty x:=by cases ty<;>simp only[Gf]<;>omega
  obtain⟨t2,f1,f2,f3⟩:=Mj hT (rows:=rows) (z:=z) (i:=i) ts xs (c:=Gf mt c ty x) (dn:=dn++[(jZ mT p k).1]) (row:=rest) (k:=(jZ mT p k).2) (t:=t1) hnext hr' (by rw[hE];simp) (by rw[hz];simp;omega) e3 (by omega) hk (by omega) (by omega)
  refine⟨t2,?_,by omega,by simp only[om];exact f3⟩
  simp only[RH]
  rw[Jq e1,f1]
theorem Oa (hT:zP Φ ext mT mt){ts:List PTy}{xs:List MC}(hm:EA Φ ext mT 0 ts xs){R:List (List PV)}(hR:R.length≤maxLen):∀(rest done:List (List PV))(k:Int)(t:List V),R=done++(gi mT rest k).1→HdSt R done.length k t→(∀r∈rest,bp ts r)→0≤k→(gi mT rest k).2≤yH→pg mt 12 ts xs≤t.length→
 ∃t',aC (au (ah Φ ext) aC (IJ mt ts xs)) ⟨t,[]⟩=some (.exit 0,⟨t',[]⟩)∧t'.length=t.length∧t'[1]? =some (aa .i64 (gi mT rest k).2):=by
 intro rest
 have hN:=AU (mt:=mt) ts xs 12
 have head:∀(n:Nat)(k:Int)(t:List V),HdSt R n k t→pg mt 12 ts xs≤t.length→∃t',au (ah Φ ext) aC (ES 5 0 6) ⟨t,[]⟩=some (if n<R.length then .normal else .exit 0,⟨t',[]⟩)∧t'.length=t.length∧HdSt R n k t':=by
  intro n k t s hl
  let t1:=(((t.set 6 (aa .i64 n)).set 7 (aQ R)).set 8 (aa .i64 R.length)).set 9 (aD (decide (n<R.length)))
  have e0:=getD_some s.t5
  have e1:(t.set 6 (aa .i64 n)).getD 0 (.tup [])=aQ R:=(dj (by omega)).trans (getD_some s.t0)
  have e2:((t.set 6 (aa .i64 n)).set 7 (aQ R)).getD 7 (.tup [])=aQ R:=aF (by simp;omega)
  have e3:(((t.set 6 (aa .i64 n)).set 7 (aQ R)).set 8 (aa .i64 R.length)).getD 6 (.tup [])=aa .i64 n:=(dj (by omega)).trans ((dj (by omega)).trans (aF (by omega)))
  have e4:(((t.set 6 (aa .i64 n)).set 7 (aQ R)).set 8 (aa .i64 R.length)).getD 8 (.tup [])=aa .i64 R.length:=aF (by simp;omega)
  have e5:t1.getD 9 (.tup [])=aD (decide (n<R.length)):=aF (by simp;omega)
  have e6:asList [] (aQ R)=some R:=rfl
  have e7:decide ((n:Int)<(R.length:Int))=decide (n<R.length):=by
   by_cases h:n<R.length
   ·rw[decide_eq_true h,decide_eq_true (by omega)]
   ·rw[decide_eq_false h,decide_eq_false (by omega)]
  refine⟨t1,?_,by simp[t1],?_,?_,?_⟩
  ·simp only[ES,au,ai,aE,aO,a9,Opd.ev,e0,put,e1,e2,e6,e3,e4,bin,if_true,ca,e7]
   have e5':=e5
   simp only[t1]at e5'
   rw[e5']
   by_cases h:n<R.length
   ·simp only[isBool,h,decide_true,if_true,t1]
   ·simp only[isBool,h,decide_false,Bool.false_eq_true,if_false,t1]
  ·simp only[t1];rw[List.getElem?_set_ne (by omega),List.getElem?_set_ne (by omega),List.getElem?_set_ne (by omega),List.getElem?_set_ne (by omega)];exact s.t0
  ·simp only[t1];rw[List.getElem?_set_ne (by omega),List.getElem?_set_ne (by omega),List.getElem?_set_ne (by omega),List.getElem?_set_ne (by omega)];exact s.t1
  ·simp only[t1];rw[List.getElem?_set_ne (by omega),List.getElem?_set_ne (by omega),List.getElem?_set_ne (by omega),List.getElem?_set_ne (by omega)];exact s.t5
 induction rest with
 |nil=>
  intro done k t hRe s hr h0 hk hl
  simp only[gi,List.append_nil]at hRe
  obtain⟨t',a1,a2,a3⟩:=head done.length k t s hl
  refine⟨t',it ?_ (by simp),a2,by simp only[gi];exact a3.t1⟩
  have:¬done.length<R.length:=by rw[hRe];omega
  simp only[IJ,au,a1,this,if_false]
 |cons r rest ih=>
  intro done k t hRe s hr h0 hk hl
  obtain⟨t1,a1,a2,a3⟩:=head done.length k t s hl
  simp only[gi]at hk hRe
  have hle:=yJ mT rest (om mT r k).2
  have hll:=yG mT r k
  have hlt:done.length<R.length:=by rw[hRe];simp
  obtain⟨t2,b1,b2,b3⟩:=Mj hT (rows:=R) (z:=ts.length) (i:=done.length) ts xs (c:=12) (dn:=[]) (row:=r) (k:=k) (t:=t1) hm (hr r (by simp)) (by rw[hRe,List.getElem?_append_right (Nat.le_refl _),Nat.sub_self];rfl) (by simp) a3 h0 (by omega) (Nat.le_refl _) (by omega)
  have hw:=jE (k:=done.length) (by unfold maxLen at hR;omega)
  let t3:=((t2.set 10 (aa .i64 done.length)).set 11 (aa .i64 ((done.length:Int)+1))).set 5 (aa .i64 ((done.length:Int)+1))
  have f0:=getD_some b3.t5
  have f1:(t2.set 10 (aa .i64 done.length)).getD 10 (.tup [])=aa .i64 done.length:=aF (by omega)
  have f2:((t2.set 10 (aa .i64 done.length)).set 11 (aa .i64 ((done.length:Int)+1))).getD 11 (.tup [])=aa .i64 ((done.length:Int)+1):=aF (by simp;omega)
  have f3:au (ah Φ ext) aC (Ge 5 10) ⟨t2,[]⟩=some (.normal,⟨t3,[]⟩):=by
   simp only[Ge,au,ai,aE,aO,a9,Opd.ev,f0,put,f1,bin,if_true,ca,hw,f2,t3]
  have s3:HdSt R (done++[(om mT r k).1]).length (om mT r k).2 t3:=by
   have hlen1:(done++[(om mT r k).1]).length=done.length+1:=by simp
   rw[hlen1]
   refine⟨?_,?_,?_⟩
   ·simp only[t3];rw[List.getElem?_set_ne (by omega),List.getElem?_set_ne (by omega),List.getElem?_set_ne (by omega)];exact b3.t0
   ·simp only[t3];rw[List.getElem?_set_ne (by omega),List.getElem?_set_ne (by omega),List.getElem?_set_ne (by omega)];exact b3.t1
   ·simp only[t3];exact List.getElem?_set_self (by simp;omega)
  obtain⟨t4,g1,g2,g3⟩:=ih (done++[(om mT r k).1]) (om mT r k).2 t3 (by rw[hRe];simp) s3 (fun r m=>hr r (by simp[m])) (by omega) hk (by simp[t3];omega)
  refine⟨t4,(fG (σ':=⟨t3,[]⟩) ?_).trans g1,by rw[g2];simp[t3];omega,by simp only[gi];exact g3⟩
  have hb:=Ju b1
  simp only[IJ,au,a1,hlt,if_true,hb,f3]
theorem IK (hT:zP Φ ext mT mt){f:Nat}{ts:List PTy}{xs:List MC}(hk:Φ f=some (wh mt ts xs))(hm:EA Φ ext mT 0 ts xs):xj Φ ext mT f ts:=by
 have hN:=AU (mt:=mt) ts xs 12
 obtain⟨m,hm'⟩:∃m,pg mt 12 ts xs+1-2=m+11:=⟨pg mt 12 ts xs-12,by omega⟩
 intro rows h k h0 hk2
 obtain⟨hl1,hr⟩:=aS h
 refine eB hk ?_
 have hst:start (wh mt ts xs) [aQ (gi mT rows k).1,aa .i64 k]=⟨aQ (gi mT rows k).1::aa .i64 k::List.replicate (m+11) (.tup []),[]⟩:=by
  simp only[start,wh,List.length_cons,List.length_nil,List.cons_append,List.nil_append,hm']
 let t0:List V:=aQ (gi mT rows k).1::aa .i64 k:: .tup []:: .tup []::aa .i64 0::aa .i64 0::List.replicate (m+7) (.tup [])
 have hl0:t0.length=pg mt 12 ts xs+1:=by simp[t0];omega
 obtain⟨t',a1,a2,a3⟩:=Oa hT hm (R:=(gi mT rows k).1) (by rw[Mw];exact hl1) rows [] k t0 (by simp) ⟨rfl,rfl,rfl⟩ hr h0 hk2 (by omega)
 have q1:t'.getD 1 (.tup [])=aa .i64 (gi mT rows k).2:=getD_some a3
 have q2:(t'.set (pg mt 12 ts xs) (aa .i64 (gi mT rows k).2)).getD (pg mt 12 ts xs) (.tup [])=aa .i64 (gi mT rows k).2:=aF (by omega)
 have hend:au (ah Φ ext) aC (.seq (.region [⟨some (pg mt 12 ts xs), .mv (.tmp 1),none⟩,⟨some 4, .mv (.tmp (pg mt 12 ts xs)),none⟩]) .ret) ⟨t',[]⟩=some (.ret,⟨(t'.set (pg mt 12 ts xs) (aa .i64 (gi mT rows k).2)).set 4 (aa .i64 (gi mT rows k).2),[]⟩):=by
  simp only[au,ai,aE,aO,a9,Opd.ev,q1,put,q2]
 have q3:((t'.set (pg mt 12 ts xs) (aa .i64 (gi mT rows k).2)).set 4 (aa .i64 (gi mT rows k).2)).getD 4 (.tup [])=aa .i64 (gi mT rows k).2:=aF (by simp;omega)
 have hrun:fB Φ ext (wh mt ts xs).body (start (wh mt ts xs) [aQ (gi mT rows k).1,aa .i64 k])=some (.ret,⟨(t'.set (pg mt 12 ts xs) (aa .i64 (gi mT rows k).2)).set 4 (aa .i64 (gi mT rows k).2),[]⟩):=by
  rw[hst]
  generalize hec:ACode.seq (.region [⟨some (pg mt 12 ts xs), .mv (.tmp 1),none⟩,⟨some 4, .mv (.tmp (pg mt 12 ts xs)),none⟩]) .ret=ec at hend
  have hrep:List.replicate (m+11) (V.tup [])= .tup []:: .tup []:: .tup []:: .tup []::List.replicate (m+7) (.tup []):=rfl
  generalize hlp:aC (au (ah Φ ext) aC (IJ mt ts xs))=lp at a1
  simp only[t0]at a1
  simp only[fB,wh,hec,hrep,au,ai,aE,aO,a9,Opd.ev,put,List.set_cons_succ,List.set_cons_zero,hlp,a1,if_true]
  exact hend
 rw[hrun]
 simp only[done,wh,aR,aw,cq,q3,List.flatMap_cons,List.flatMap_nil,List.append_nil,V.cells,bE,comp,aK,bv]
 rfl
end
end Gi
