/- Of this proof. -/
import Derived.Test.YtpfadfkomcbecaaGreatGpp
set_option linter.unusedSimpArgs false
set_option linter.unusedVariables false
namespace Gi
open Go Go.RowKit
def yq :Nat→Nat→List UInt8→List UInt8
 |0,_,o=>o
 |n+1,k,o=>if k=0 then o else yq n (k/10) (UInt8.ofNat (48+k%10)::o)
def am (k:Int):List UInt8:=if k≤0 then [109,48]else 109::yq 13 k.toNat []
theorem IW :∀(n k:Nat)(o:List UInt8),(yq n k o).length≤n+o.length
 |0,k,o=>by simp[yq]
 |n+1,k,o=>by
  simp only[yq]
  split
  ·omega
  ·have:=IW n (k/10) (UInt8.ofNat (48+k%10)::o)
   simp only[List.length_cons]at this
   omega
def Sf :ACode:= .seq (.seq (.region [⟨some 6, .mv (.tmp 0),none⟩,⟨some 7, .bin .gtr (.tmp 6) (.pv (.int .i64 0)),none⟩]) (.cond (.tmp 7) .skip (.exit 0))) (.block 1 (.seq (.region [⟨some 8, .mv (.tmp 0),none⟩,⟨some 9, .bin .rem (.tmp 8) (.pv (.int .i64 10)),none⟩,⟨some 10, .bin .add (.pv (.int .i64 48)) (.tmp 9),none⟩,⟨some 11, .conv .u8 (.tmp 10),none⟩,⟨some 12, .buildS 1 [.tmp 11],none⟩,⟨some 13, .b2s (.tmp 12),none⟩,⟨some 14, .mv (.tmp 3),none⟩,⟨some 15, .bin .add (.tmp 13) (.tmp 14),none⟩,⟨some 3, .mv (.tmp 15),none⟩]) (.region [⟨some 16, .mv (.tmp 0),none⟩,⟨some 17, .bin .quo (.tmp 16) (.pv (.int .i64 10)),none⟩,⟨some 0, .mv (.tmp 17),none⟩])))
def S5 :AFn:=⟨20,[.tmp 2], .seq (.region [⟨some 2, .mv (.pv (.str [])),none⟩]) (.seq (.seq (.region [⟨some 4, .mv (.tmp 0),none⟩,⟨some 5, .bin .leq (.tmp 4) (.pv (.int .i64 0)),none⟩]) (.cond (.tmp 5) (.seq (.region [⟨some 2, .mv (.pv (.str [109,48])),none⟩]) .ret) .skip)) (.seq (.region [⟨some 3, .mv (.pv (.str [])),none⟩]) (.seq (.block 0 (.loop Sf)) (.seq (.region [⟨some 18, .mv (.tmp 3),none⟩,⟨some 19, .bin .add (.pv (.str [109])) (.tmp 18),none⟩,⟨some 2, .mv (.tmp 19),none⟩]) .ret))))⟩
section
variable {Φ:Nat→Option AFn}{ext:Nat→List V→Option V}
theorem Re :∀(n k:Nat),k<10^n→k<9223372036854775807→∀(o:List UInt8),o.length+n≤1000→∀(u1 u2 u4 u5 u6 u7 u8 u9 u10 u11 u12 u13 u14 u15 u16 u17 u18 u19:V)(h:List AObj),
 ∃w1 w2 w4 w5 w6 w7 w8 w9 w10 w11 w12 w13 w14 w15 w16 w17 w18 w19 h',av (aj (ag Φ ext) av Sf) ⟨[aa .i64 k,u1,u2,fJ o,u4,u5,u6,u7,u8,u9,u10,u11,u12,u13,u14,u15,u16,u17,u18,u19],h⟩=some (.exit 0,⟨[aa .i64 0,w1,w2,fJ (yq n k o),w4,w5,w6,w7,w8,w9,w10,w11,w12,w13,w14,w15,w16,w17,w18,w19],h'⟩):=by
 intro n
 induction n with
 |zero=>
  intro k hk hk2 o ho u1 u2 u4 u5 u6 u7 u8 u9 u10 u11 u12 u13 u14 u15 u16 u17 u18 u19 h
  obtain rfl:k=0:=by simpa using hk
  refine⟨u1,u2,u4,u5,aa .i64 0,ar false,u8,u9,u10,u11,u12,u13,u14,u15,u16,u17,u18,u19,h,gC ?_ (by simp)⟩
  simp[Sf,aj,ah,az,aH,bf,Opd.ev,put,bin,bM,isBool,yq]
 |succ n ih=>
  intro k hk hk2 o ho u1 u2 u4 u5 u6 u7 u8 u9 u10 u11 u12 u13 u14 u15 u16 u17 u18 u19 h
  by_cases h0:k=0
  ·subst h0
   refine⟨u1,u2,u4,u5,aa .i64 0,ar false,u8,u9,u10,u11,u12,u13,u14,u15,u16,u17,u18,u19,h,gC ?_ (by simp)⟩
   simp[Sf,aj,ah,az,aH,bf,Opd.ev,put,bin,bM,isBool,yq]
  ·have hpos:(0:Int)<(k:Int):=by omega
   have hm:(k:Int).tmod 10=((k%10:Nat):Int):=by
    rw[Int.tmod_eq_emod_of_nonneg (by omega)];omega
   have hq:(k:Int).tdiv 10=((k/10:Nat):Int):=by
    rw[Int.tdiv_eq_ediv_of_nonneg (by omega)];omega
   have hw1:IntKind.i64.wrap (48+((k%10:Nat):Int))=((48+k%10:Nat):Int):=by rw[IntKind.wrap_i64];omega
   have hw2:IntKind.u8.wrap ((48+k%10:Nat):Int)=((48+k%10:Nat):Int):=by rw[IntKind.wrap_u8];omega
   have hw3:IntKind.i64.wrap ((k/10:Nat):Int)=((k/10:Nat):Int):=by rw[IntKind.wrap_i64];omega
   have hlt:k/10<10^n:=by
    rw[Nat.pow_succ]at hk
    omega
   have hlen:([UInt8.ofNat (48+k%10)]:List UInt8).length+o.length≤9223372036854775807:=by simp;omega
   obtain⟨w1,w2,w4,w5,w6,w7,w8,w9,w10,w11,w12,w13,w14,w15,w16,w17,w18,w19,h',e⟩:=ih (k/10) hlt (by omega) (UInt8.ofNat (48+k%10)::o) (by simp;omega) u1 u2 u4 u5 (aa .i64 k) (ar true) (aa .i64 k) (aa .i64 ((k%10:Nat):Int)) (aa .i64 ((48+k%10:Nat):Int)) (aa .u8 ((48+k%10:Nat):Int)) (.one (.arr h.length)) (fJ [UInt8.ofNat (48+k%10)]) (fJ o) (fJ (UInt8.ofNat (48+k%10)::o)) (aa .i64 k) (aa .i64 ((k/10:Nat):Int)) u18 u19 (h++[.arr 1 [[.int .u8 ((48+k%10:Nat):Int)]]])
   refine⟨w1,w2,w4,w5,w6,w7,w8,w9,w10,w11,w12,w13,w14,w15,w16,w17,w18,w19,h',(fH ?_).trans (e.trans ?_)⟩
   ·have hbs:pL [[PV.int .u8 ((48+k%10:Nat):Int)]]=some [UInt8.ofNat (48+k%10)]:=by
     simp only[pL,Int.toNat_natCast]
    have hvr:aT h [aa .u8 ((48+k%10:Nat):Int)]=some [[.int .u8 ((48+k%10:Nat):Int)]]:=rfl
    have hfz:freezeVs h [aa .u8 ((48+k%10:Nat):Int)]=h:=rfl
    have hal:asList (h++[AObj.arr 1 [[.int .u8 ((48+k%10:Nat):Int)]]]) (.one (.arr h.length))=some [[.int .u8 ((48+k%10:Nat):Int)]]:=by
     simp[asList,L.view]
    have hbp:decide ((0:Int)<(k:Int))=true:=decide_eq_true hpos
    have h10:¬((10:Int)=0):=by decide
    have hc1:(([aa .u8 ((48+k%10:Nat):Int)]:List V).all (fun v=>v.cells.length==1)&&decide (0<1)&&decide (([aa .u8 ((48+k%10:Nat):Int)]:List V).length*1≤16777216))=true:=rfl
    simp only[Sf,aj,ah,az,aH,bf,bU,Opd.ev,put,List.getD_cons_zero,List.getD_cons_succ,List.set_cons_succ,List.set_cons_zero,bin,bM,iF,if_true,if_neg h10,hbp,isBool,isInt,List.map_cons,List.map_nil,hm,hw1,hw2,hc1,hvr,hfz,hal,hbs,hlen,hq,hw3,List.cons_append,List.nil_append]
   ·simp only[yq,if_neg h0]
theorem R7 {f:Nat}(hk:Φ f=some S5):AW Φ ext am f:=by
 intro k h0 hM
 refine fQ hk ?_
 by_cases hz:k≤0
 ·have hb:decide (k≤0)=true:=decide_eq_true hz
  simp[S5,start,ft,aj,ah,az,aH,bf,Opd.ev,put,bin,bM,hb,isBool,done,aV,au,bE,bN,comp,aK,bq,ai,V.cells,am,hz]
 ·have hb:decide (k≤0)=false:=decide_eq_false hz
  obtain⟨n,rfl⟩:∃n:Nat,k=n:=⟨k.toNat,by omega⟩
  unfold uB at hM
  have hdl:=IW 13 n []
  have hlen:([109]:List UInt8).length+(yq 13 n []).length≤9223372036854775807:=by simp at hdl⊢;omega
  have hlen':1+(yq 13 n []).length≤9223372036854775807:=by simpa using hlen
  generalize hlp:av (aj (ag Φ ext) av Sf)=lp
  have hloop:∀u1 u2 u4 u5 u6 u7 u8 u9 u10 u11 u12 u13 u14 u15 u16 u17 u18 u19 h,∃w1 w2 w4 w5 w6 w7 w8 w9 w10 w11 w12 w13 w14 w15 w16 w17 w18 w19 h',lp ⟨[aa .i64 n,u1,u2,fJ [],u4,u5,u6,u7,u8,u9,u10,u11,u12,u13,u14,u15,u16,u17,u18,u19],h⟩=some (.exit 0,⟨[aa .i64 0,w1,w2,fJ (yq 13 n []),w4,w5,w6,w7,w8,w9,w10,w11,w12,w13,w14,w15,w16,w17,w18,w19],h'⟩):=by
   rw[←hlp]
   exact Re (Φ:=Φ) (ext:=ext) 13 n (by omega) (by omega) [] (by simp)
  obtain⟨w1,w2,w4,w5,w6,w7,w8,w9,w10,w11,w12,w13,w14,w15,w16,w17,w18,w19,h',e⟩:=hloop (.tup []) (fJ []) (aa .i64 n) (ar false) (.tup []) (.tup []) (.tup []) (.tup []) (.tup []) (.tup []) (.tup []) (.tup []) (.tup []) (.tup []) (.tup []) (.tup []) (.tup []) (.tup []) []
  have hm:am (n:Int)=109::yq 13 n []:=by simp only[am,if_neg hz,Int.toNat_natCast]
  rw[hm]
  simp only[S5,start,ft,aj,hlp,List.length_singleton,Nat.reduceSub,List.replicate,List.cons_append,List.nil_append,ah,az,aH,bf,Opd.ev,put,List.getD_cons_zero,List.getD_cons_succ,List.set_cons_succ,List.set_cons_zero,bin,bM,hb,if_true,isBool,Bool.false_eq_true,if_false,e,iF,hlen]
  simp[hlen',done,aV,au,bE,bN,comp,aK,bq,ai,V.cells]
end
def Ra :List ACode→ACode
 |[]=> .skip
 |[a]=>a
 |a::b::r=> .seq a (Ra (b::r))
def ub (call:Nat→List V→Option V)(lp:(St→Option (Ex×St))→St→Option (Ex×St)):List ACode→St→Option St
 |[],σ=>some σ
 |a::r,σ=>match aj call lp a σ with
  |some (.normal,σ')=>ub call lp r σ'
  |_=>none
theorem JX {call:Nat→List V→Option V}{lp:(St→Option (Ex×St))→St→Option (Ex×St)}:∀{xz:List ACode}{σ σ':St},ub call lp xz σ=some σ'→aj call lp (Ra xz) σ=some (.normal,σ')
 |[],σ,σ',h=>by simp only[ub]at h;cases h;rfl
 |[a],σ,σ',h=>by
  simp only[ub]at h
  split at h
  ·rename_i σ1 h1;cases h;exact h1
  ·cases h
 |a::b::r,σ,σ',h=>by
  rw[ub]at h
  split at h
  ·rename_i σ1 h1
   have:=JX (xz:=b::r) h
   simp only[Ra,aj,h1,this]
  ·cases h
theorem JS {call:Nat→List V→Option V}{lp:(St→Option (Ex×St))→St→Option (Ex×St)}:∀{xz bs:List ACode}{σ σ':St},ub call lp xz σ=some σ'→ub call lp (xz++bs) σ=ub call lp bs σ'
 |[],bs,σ,σ',h=>by simp only[ub]at h;cases h;rfl
 |a::xz,bs,σ,σ',h=>by
  simp only[ub,List.cons_append]at h⊢
  split at h
  ·rename_i σ1 h1
   exact JS h
  ·cases h
def B2 (mt c:Nat):PTy→List AOper
 | .int .i64=>[]
 | .int κ=>[⟨some (c+3), .conv κ (.tmp (c+2)),none⟩]
 | .str=>[⟨some (c+3), .call mt [.tmp (c+2)] true true,none⟩]
 | .bool=>[⟨some (c+3), .bin .rem (.tmp (c+2)) (.pv (.int .i64 3)),none⟩,⟨some (c+4), .bin .eql (.tmp (c+3)) (.pv (.int .i64 0)),none⟩]
 | .lst _=>[]
def Ts :ACode:= .seq (.region [⟨some 4, .mv (.pv (.int .i64 (-1))),none⟩]) .ret
def RU (z c:Nat)(x:MC):List AOper:=MG c++(⟨some (c+2), .indexA z (.tmp c) (.tmp (c+1)),none⟩::(qr (c+2) x.p++[⟨some (c+3+x.p.length), .load false 1 (.tmp (c+2+x.p.length)),none⟩,⟨some (c+4+x.p.length), .mv (.tmp 1),none⟩]))
def QR (z mt c:Nat)(t:PTy)(x:MC):List ACode:=
 let d:=c+2+x.p.length
 let v:=d+2+(B2 mt d t).length
 [.seq (.region (RU z c x++(B2 mt d t++[⟨some (v+1),FM t (.tmp (d+1)) (.tmp v),none⟩]))) (.cond (.tmp (v+1)) Ts .skip), .region (Ld (v+2))]
def RR (z c:Nat)(x:MC):List ACode:=
 let d:=c+2+x.p.length
 [.region (RU z c x++[⟨some (d+3), .call x.f [.tmp (d+1), .tmp (d+2)] true false,none⟩,⟨some 1, .mv (.tmp (d+3)),none⟩]),nZ (d+4)]
def RQ (z mt c:Nat):PTy→MC→List ACode
 | .lst _,x=>RR z c x
 |t,x=>QR z mt c t x
def Hr (mt c:Nat):PTy→MC→Nat
 | .lst _,x=>c+8+x.p.length
 |t,x=>c+8+(B2 mt (c+2+x.p.length) t).length+x.p.length
def QS (z mt:Nat):Nat→List PTy→List MC→List ACode
 |c,t::ts,x::xs=>RQ z mt c t x++QS z mt (Hr mt c t x) ts xs
 |_,_,_=>[]
def pH (mt:Nat):Nat→List PTy→List MC→Nat
 |c,t::ts,x::xs=>pH mt (Hr mt c t x) ts xs
 |c,_,_=>c
def Jp (mt:Nat)(ts:List PTy)(xs:List MC):ACode:= .seq (Gq 5 0 6) (.seq (.block 1 (Ra (QS ts.length mt 12 ts xs))) (Hq 5 10))
def iw (mt:Nat)(ts:List PTy)(xs:List MC):AFn:=⟨pH mt 12 ts xs+1,[.tmp 4], .seq (.region [⟨some 4, .mv (.pv (.int .i64 0)),none⟩]) (.seq (.seq (.region [⟨some 5, .mv (.pv (.int .i64 0)),none⟩]) (.block 0 (.loop (Jp mt ts xs)))) (.seq (.region [⟨some (pH mt 12 ts xs), .mv (.tmp 1),none⟩,⟨some 4, .mv (.tmp (pH mt 12 ts xs)),none⟩]) .ret))⟩
theorem IR {call:Nat→List V→Option V}{e:List PV}:∀{p:List Nat}{c j:Nat}{t:List V}{h:List AObj},t[c]? =some (.one (.ip e j))→c+p.length<t.length→
 ∃t',ah call (qr c p) ⟨t,h⟩=some ⟨t',h⟩∧t'.length=t.length∧t'[c+p.length]? =some (.one (.ip e (j+p.sum)))∧∀n≤c,t'[n]? =t[n]?
 |[],c,j,t,h,hc,hl=>⟨t,rfl,rfl,by simpa using hc,fun _ _=>rfl⟩
 |d::ds,c,j,t,h,hc,hl=>by
  simp only[List.length_cons]at hl
  obtain⟨t',e1,e2,e3,e4⟩:=IR (call:=call) (e:=e) (p:=ds) (c:=c+1) (j:=j+d) (t:=t.set (c+1) (.one (.ip e (j+d)))) (h:=h) (List.getElem?_set_self (by omega)) (by simp;omega)
  refine⟨t',?_,by simpa using e2,?_,fun n hn=> ?_⟩
  ·simp only[qr,ah,az,aH,bf,Opd.ev,getD_some hc,put,e1]
  ·simp only[List.length_cons,List.sum_cons]
   rw[show c+(ds.length+1)=c+1+ds.length by omega,e3,Nat.add_assoc]
  ·rw[e4 n (by omega),List.getElem?_set_ne (by omega)]
section
variable {Φ:Nat→Option AFn}{ext:Nat→List V→Option V}{mT:Int→List UInt8}{mt:Nat}
theorem Qm (hT:AW Φ ext mT mt){ty:PTy}{p:PV}(hp:nv ty p)(hf:ty.flatT=true){c:Nat}{k:Int}(h0:0≤k)(hk:k<uB){t:List V}{h:List AObj}(h2:t[c+2]? =some (aa .i64 k))(hl:c+2+(B2 mt c ty).length<t.length):
 ∃t',ah (ag Φ ext) (B2 mt c ty) ⟨t,h⟩=some ⟨t',h⟩∧t'.length=t.length∧t'[c+2+(B2 mt c ty).length]? =some (.one (.pv (jV mT p k).1))∧∀n≤c+2,t'[n]? =t[n]? :=by
 have e2:=getD_some h2
 by_cases hs:ty= .str
 ·subst hs
  obtain⟨s,rfl⟩:=lu hp
  simp only[B2,List.length_singleton]at hl⊢
  refine⟨t.set (c+3) (fJ (mT k)),?_,by simp,by simp only[jV];exact List.getElem?_set_self (by omega),fun n hn=>List.getElem?_set_ne (by omega)⟩
  simp only[ah,az,aH,bf,Bool.or_self,Bool.true_or,if_true,List.map_cons,List.map_nil,Opd.ev,e2,ap,V.view,L.view,hT k h0 (by omega),V.flat,L.flat,Bool.not_true,Bool.and_false,Bool.false_eq_true,if_false,dG,dk,put]
 ·have:B2 mt c ty=uf mt c ty:=by
   cases ty with
   |int κ=>cases κ<;>rfl
   |str=>exact absurd rfl hs
   |_=>rfl
  rw[this]at hl⊢
  exact MZ hT hp hf h0 hk h2 hl
theorem Oe {ty:PTy}{p:PV}(hp:nv ty p)(hf:ty.flatT=true){k:Int}{t:List V}{a b:Nat}(ha:t[a]? =some (.one (.pv (jV mT p k).1)))(hb:t[b]? =some (.one (.pv (jV mT p k).1)))(call:Nat→List V→Option V)(h:List AObj):bf call ⟨t,h⟩ (FM ty (.tmp a) (.tmp b))=some (ar false):=by
 have e1:=getD_some ha
 have e2:=getD_some hb
 cases ty with
 |lst us=>cases hf
 |str=>
  obtain⟨s,rfl⟩:=lu hp
  simp only[FM,bf,Opd.ev,e1,e2]
  exact D1 rfl
 |int κ=>
  obtain⟨s,rfl⟩:=km hp
  simp only[FM,bf,Opd.ev,e1,e2]
  exact D1 rfl
 |bool=>
  obtain⟨s,rfl⟩:=j9 hp
  simp only[FM,bf,Opd.ev,e1,e2,jV,isBool]
  cases k.tmod 3==0<;>rfl
structure HdSt (rows:List (List PV)) (i:Nat) (k:Int) (t:List V):Prop where
 t0:t[0]? =some (bu rows)
 t1:t[1]? =some (aa .i64 k)
 t5:t[5]? =some (aa .i64 i)
theorem Mt {rows:List (List PV)}{e:List PV}{q:PV}{x:MC}{z i c:Nat}{k:Int}{t:List V}(s:HdSt rows i k t)(he:rows[i]? =some e)(hz:e.length=z)(hq:e[x.p.sum]? =some q)(hc:12≤c)(hl:c+4+x.p.length<t.length)(call:Nat→List V→Option V):
 ∃t',ah call (RU z c x) ⟨t,[]⟩=some ⟨t',[]⟩∧t'.length=t.length∧t'[c+3+x.p.length]? =some (.one (.pv q))∧t'[c+4+x.p.length]? =some (aa .i64 k)∧∀n<c,t'[n]? =t[n]? :=by
 let t1:=((t.set c (bu rows)).set (c+1) (aa .i64 i)).set (c+2) (.one (.ip e 0))
 have a0:ah call (MG c++[⟨some (c+2), .indexA z (.tmp c) (.tmp (c+1)),none⟩]) ⟨t,[]⟩=some ⟨t1,[]⟩:=by
  have e1:=getD_some s.t0
  have e2:(t.set c (bu rows)).getD 5 (.tup [])=aa .i64 i:=(da (by omega)).trans (getD_some s.t5)
  have e3:((t.set c (bu rows)).set (c+1) (aa .i64 i)).getD c (.tup [])=bu rows:=(da (by omega)).trans (aB (by omega))
  have e4:((t.set c (bu rows)).set (c+1) (aa .i64 i)).getD (c+1) (.tup [])=aa .i64 i:=aB (by simp;omega)
  simp only[MG,List.cons_append,List.nil_append,ah,az,aH,bf,Opd.ev,e1,put,e2,e3,e4,isInt,Int.natCast_nonneg,if_true,Int.toNat_natCast,aJ,he,hz,t1]
 have l1:t1.length=t.length:=by simp[t1]
 have g1:∀n,n<c→t1[n]? =t[n]? :=fun n hn=>by simp only[t1];rw[List.getElem?_set_ne (by omega),List.getElem?_set_ne (by omega),List.getElem?_set_ne (by omega)]
 have ge:t1[c+2]? =some (.one (.ip e 0)):=by simp only[t1];exact List.getElem?_set_self (by simp;omega)
 clear_value t1
 obtain⟨t4,d1,d2,d3,d4⟩:=IR (call:=call) (e:=e) (p:=x.p) (c:=c+2) (j:=0) (t:=t1) (h:=[]) ge (by omega)
 rw[Nat.zero_add]at d3
 have hcut:gu false 1 x.p.sum (e.map L.pv)=some (.one (.pv q)):=by
  have hlt:=(List.getElem?_eq_some_iff.1 hq).1
  unfold gu
  rw[if_pos (by simp;omega)]
  simp[hq]
 have q1:(t4.set (c+3+x.p.length) (V.one (.pv q))).getD 1 (.tup [])=aa .i64 k:=(da (by omega)).trans (getD_some ((d4 1 (by omega)).trans ((g1 1 (by omega)).trans s.t1)))
 refine⟨(t4.set (c+3+x.p.length) (.one (.pv q))).set (c+4+x.p.length) (aa .i64 k),?_,by simp;omega,by rw[List.getElem?_set_ne (by omega)];exact List.getElem?_set_self (by omega),List.getElem?_set_self (by simp;omega),fun n hn=>by rw[List.getElem?_set_ne (by omega),List.getElem?_set_ne (by omega),d4 n (by omega),g1 n hn]⟩
 have hflat:RU z c x=(MG c++[⟨some (c+2), .indexA z (.tmp c) (.tmp (c+1)),none⟩])++(qr (c+2) x.p++[⟨some (c+3+x.p.length), .load false 1 (.tmp (c+2+x.p.length)),none⟩,⟨some (c+4+x.p.length), .mv (.tmp 1),none⟩]):=by
  simp only[RU,List.append_assoc,List.cons_append,List.nil_append]
 rw[hflat,bJ _ _ _ a0,bJ _ _ _ d1]
 simp only[ah,az,aH,bf,Opd.ev,getD_some d3,bm,hcut,put,q1]
theorem QT {call:Nat→List V→Option V}{rows:List (List PV)}{i c:Nat}{k:Int}{t:List V}{h:List AObj}(s:HdSt rows i k t)(h0:0≤k)(hk:k<uB)(hc:6≤c)(hl:c+1<t.length):
 ∃t',ah call (Ld c) ⟨t,h⟩=some ⟨t',h⟩∧t'.length=t.length∧HdSt rows i (k+1) t':=by
 have e1:=getD_some s.t1
 have e2:(t.set c (aa .i64 k)).getD c (.tup [])=aa .i64 k:=aB (by omega)
 have hw:IntKind.i64.wrap (k+1)=k+1:=by rw[IntKind.wrap_i64];unfold uB at hk;omega
 have e3:((t.set c (aa .i64 k)).set (c+1) (aa .i64 (k+1))).getD (c+1) (.tup [])=aa .i64 (k+1):=aB (by simp;omega)
 refine⟨((t.set c (aa .i64 k)).set (c+1) (aa .i64 (k+1))).set 1 (aa .i64 (k+1)),?_,by simp,?_,?_,?_⟩
 ·simp only[Ld,ah,az,aH,bf,Opd.ev,e1,put,e2,bin,if_true,bM,hw,e3]
 ·rw[List.getElem?_set_ne (by omega),List.getElem?_set_ne (by omega),List.getElem?_set_ne (by omega)];exact s.t0
 ·exact List.getElem?_set_self (by simp;omega)
 ·rw[List.getElem?_set_ne (by omega),List.getElem?_set_ne (by omega),List.getElem?_set_ne (by omega)];exact s.t5
theorem PE (hT:AW Φ ext mT mt){rows:List (List PV)}{ty:PTy}{p:PV}{x:MC}{e:List PV}{z i c:Nat}{k:Int}{t:List V}(hp:nv ty p)(hf:ty.flatT=true)(s:HdSt rows i k t)(h0:0≤k)(hk:k<uB)(hc:12≤c)(he:rows[i]? =some e)(hz:e.length=z)(hq:e[x.p.sum]? =some (jV mT p k).1)(hl:c+8+(B2 mt (c+2+x.p.length) ty).length+x.p.length≤t.length):
 ∃t',ub (ag Φ ext) av (QR z mt c ty x) ⟨t,[]⟩=some ⟨t',[]⟩∧t'.length=t.length∧HdSt rows i (jV mT p k).2 t':=by
 obtain⟨t1,a1,a2,a3,a4,a5⟩:=Mt s he hz hq hc (by omega) (ag Φ ext)
 generalize hd:c+2+x.p.length=d at*
 rw[show c+3+x.p.length=d+1 by omega]at a3
 rw[show c+4+x.p.length=d+2 by omega]at a4
 obtain⟨t2,b1,b2,b3,b4⟩:=Qm (h:=[]) hT hp hf h0 hk a4 (by omega)
 generalize hv:d+2+(B2 mt d ty).length=v at*
 have b5:t2[d+1]? =some (.one (.pv (jV mT p k).1)):=(b4 (d+1) (by omega)).trans a3
 have c1:=Oe hp hf b5 b3 (ag Φ ext) []
 have q1:(t2.set (v+1) (ar false)).getD (v+1) (.tup [])=ar false:=aB (by omega)
 have low:∀n,n<c→(t2.set (v+1) (ar false))[n]? =t[n]? :=fun n hn=>by rw[List.getElem?_set_ne (by omega),b4 n (by omega),a5 n hn]
 obtain⟨t5,i1,i2,i3⟩:=QT (call:=ag Φ ext) (c:=v+2) (h:=[]) (⟨(low 0 (by omega)).trans s.t0,(low 1 (by omega)).trans s.t1,(low 5 (by omega)).trans s.t5⟩:HdSt rows i k (t2.set (v+1) (ar false))) h0 hk (by omega) (by simp;omega)
 have f3:=(xH (mT:=mT) hp hf k).2.2
 refine⟨t5,?_,by rw[i2];simp;omega,by rw[f3];exact i3⟩
 have hops:ah (ag Φ ext) (RU z c x++(B2 mt d ty++[⟨some (v+1),FM ty (.tmp (d+1)) (.tmp v),none⟩])) ⟨t,[]⟩=some ⟨t2.set (v+1) (ar false),[]⟩:=by
  rw[bJ _ _ _ a1,bJ _ _ _ b1]
  simp only[ah,az,aH,c1,put]
 simp only[QR,hd,hv,ub,aj,hops,Opd.ev,q1,isBool,Bool.false_eq_true,if_false,i1]
def gj (Φ:Nat→Option AFn)(ext:Nat→List V→Option V)(mT:Int→List UInt8)(f:Nat)(ts:List PTy):Prop:=
 ∀rows:List (List PV),nv (.lst ts) (.lst rows)→∀k:Int,0≤k→(bR mT rows k).2≤uB→ag Φ ext f [bu (bR mT rows k).1,aa .i64 k]=some (aa .i64 (bR mT rows k).2)
theorem PG {rows:List (List PV)}{us:List PTy}{ys:List (List PV)}{x:MC}{e:List PV}{z i c:Nat}{k:Int}{t:List V}(hO:gj Φ ext mT x.f us)(hp:nv (.lst us) (.lst ys))(s:HdSt rows i k t)(h0:0≤k)(hk:(bR mT ys k).2≤uB)(hc:12≤c)(he:rows[i]? =some e)(hz:e.length=z)(hq:e[x.p.sum]? =some (jV mT (.lst ys) k).1)(hl:c+8+x.p.length≤t.length):
 ∃t',ub (ag Φ ext) av (RR z c x) ⟨t,[]⟩=some ⟨t',[]⟩∧t'.length=t.length∧HdSt rows i (jV mT (.lst ys) k).2 t':=by
 obtain⟨t1,a1,a2,a3,a4,a5⟩:=Mt s he hz hq hc (by omega) (ag Φ ext)
 have hle:=nR mT ys k
 generalize hd:c+2+x.p.length=d at*
 rw[show c+3+x.p.length=d+1 by omega]at a3
 rw[show c+4+x.p.length=d+2 by omega]at a4
 simp only[jV]at a3⊢
 generalize hk2:(bR mT ys k).2=k2 at*
 have hcall:=hO ys hp k h0 (by omega)
 rw[hk2]at hcall
 generalize (bR mT ys k).1=ys' at*
 have e1:=getD_some a3
 have e2:=getD_some a4
 have q1:(t1.set (d+3) (aa .i64 k2)).getD (d+3) (.tup [])=aa .i64 k2:=aB (by omega)
 have hview:ap [] [bu ys',aa .i64 k]=some [bu ys',aa .i64 k]:=rfl
 let t2:=(t1.set (d+3) (aa .i64 k2)).set 1 (aa .i64 k2)
 have hops:ah (ag Φ ext) (RU z c x++[⟨some (d+3), .call x.f [.tmp (d+1), .tmp (d+2)] true false,none⟩,⟨some 1, .mv (.tmp (d+3)),none⟩]) ⟨t,[]⟩=some ⟨t2,[]⟩:=by
  rw[bJ _ _ _ a1]
  have hvl:ap [] [V.one (L.pv (PV.lst ys')),aa .i64 k]=some [bu ys',aa .i64 k]:=rfl
  simp only[ah,az,aH,bf,Bool.or_false,Bool.true_or,if_true,List.map_cons,List.map_nil,Opd.ev,e1,e2,hvl,hcall,V.flat,L.flat,Bool.not_true,Bool.and_false,Bool.false_eq_true,if_false,dG,dk,put,q1,t2]
 have l2:t2.length=t.length:=by simp[t2];omega
 have q2:t2.getD 1 (.tup [])=aa .i64 k2:=aB (by simp;omega)
 have q3:(t2.set (d+4) (aa .i64 k2)).getD (d+4) (.tup [])=aa .i64 k2:=aB (by omega)
 have q4:((t2.set (d+4) (aa .i64 k2)).set (d+5) (ar false)).getD (d+5) (.tup [])=ar false:=aB (by simp;omega)
 have hlt:decide (k2<0)=false:=decide_eq_false (by omega)
 refine⟨(t2.set (d+4) (aa .i64 k2)).set (d+5) (ar false),?_,by simp;omega,?_,?_,?_⟩
 ·have h5:d+4+1=d+5:=by omega
  simp only[RR,hd,ub,aj,hops,nZ,ah,az,aH,bf,Opd.ev,q2,put,q3,bin,if_true,bM,hlt,h5,q4,isBool,Bool.false_eq_true,if_false]
 ·simp only[t2];rw[List.getElem?_set_ne (by omega),List.getElem?_set_ne (by omega),List.getElem?_set_ne (by omega),List.getElem?_set_ne (by omega)];exact(a5 0 (by omega)).trans s.t0
 ·rw[List.getElem?_set_ne (by omega),List.getElem?_set_ne (by omega)];exact List.getElem?_set_self (by simp;omega)
 ·simp only[t2];rw[List.getElem?_set_ne (by omega),List.getElem?_set_ne (by omega),List.getElem?_set_ne (by omega),List.getElem?_set_ne (by omega)];exact(a5 5 (by omega)).trans s.t5
def F4 (Φ:Nat→Option AFn)(ext:Nat→List V→Option V)(mT:Int→List UInt8):Nat→List PTy→List MC→Prop
 |j, .lst us::ts,x::xs=>x.p.sum=j∧gj Φ ext mT x.f us∧F4 Φ ext mT (j+1) ts xs
 |j,_::ts,x::xs=>x.p.sum=j∧F4 Φ ext mT (j+1) ts xs
 |_,[],[]=>True
 |_,_,_=>False
theorem B6 :∀(ts:List PTy)(xs:List MC)(c:Nat),c≤pH mt c ts xs
 |[],_,c=>Nat.le_refl _
 |_::_,[],c=>Nat.le_refl _
 |t::ts,x::xs,c=>by
  simp only[pH]
  refine Nat.le_trans ?_ (B6 ts xs _)
  cases t<;>simp only[Hr]<;>omega
theorem Mp (hT:AW Φ ext mT mt){rows:List (List PV)}{z i:Nat}:∀(ts:List PTy)(xs:List MC){c:Nat}{dn row:List PV}{k:Int}{t:List V},F4 Φ ext mT dn.length ts xs→aZ ts row→rows[i]? =some (dn++(ot mT row k).1)→z=dn.length+ts.length→HdSt rows i k t→0≤k→(ot mT row k).2≤uB→12≤c→pH mt c ts xs≤t.length→
 ∃t',ub (ag Φ ext) av (QS z mt c ts xs) ⟨t,[]⟩=some ⟨t',[]⟩∧t'.length=t.length∧HdSt rows i (ot mT row k).2 t'
 |[],xs,c,dn,row,k,t,hm,hr,hE,hz,s,h0,hk,hc,hl=>by
  obtain rfl:=fm hr
  cases xs<;>exact⟨t,rfl,rfl,by simpa only[ot]using s⟩
 |ty::ts,[],c,dn,row,k,t,hm,hr,hE,hz,s,h0,hk,hc,hl=>by cases ty<;>exact hm.elim
 |ty::ts,x::xs,c,dn,row,k,t,hm,hr,hE,hz,s,h0,hk,hc,hl=>by
  obtain⟨p,rest,rfl,hp,hr'⟩:=dI hr
  have hle:=zP mT rest (jV mT p k).2
  have hlp:=Lp mT p k
  simp only[ot]at hk hE
  simp only[pH]at hl
  have hN:=B6 (mt:=mt) ts xs (Hr mt c ty x)
  have hnext:F4 Φ ext mT (dn++[(jV mT p k).1]).length ts xs:=by
   have:(dn++[(jV mT p k).1]).length=dn.length+1:=by simp
   rw[this]
   cases ty<;>first|exact hm.2|exact hm.2.2
  have hx:x.p.sum=dn.length:=by cases ty<;>exact hm.1
  have hel:(dn++(jV mT p k).1::(ot mT rest (jV mT p k).2).1).length=z:=by
   rw[hz,List.length_append,List.length_cons,MB,jp hr'];rfl
  have hq:(dn++(jV mT p k).1::(ot mT rest (jV mT p k).2).1)[x.p.sum]? =some (jV mT p k).1:=by rw[hx];exact B4
  have cell:∃t',ub (ag Φ ext) av (RQ z mt c ty x) ⟨t,[]⟩=some ⟨t',[]⟩∧t'.length=t.length∧HdSt rows i (jV mT p k).2 t':=by
   by_cases hf:ty.flatT=true
   ·have hR:RQ z mt c ty x=QR z mt c ty x:=by cases ty<;>first|rfl|cases hf
    have hN':Hr mt c ty x=c+8+(B2 mt (c+2+x.p.length) ty).length+x.p.length:=by cases ty<;>first|rfl|cases hf
    rw[hR]
    have:=(xH (mT:=mT) hp hf k).2.2
    exact PE hT hp hf s h0 (by omega) hc hE hel hq (by omega)
   ·cases ty with
    |lst us=>
     obtain⟨ys,rfl⟩:=ng hp
     have hN':Hr mt c (.lst us) x=c+8+x.p.length:=rfl
     have hk':(bR mT ys k).2≤uB:=by simp only[jV]at hle hk;omega
     exact PG hm.2.1 hp s h0 hk' hc hE hel hq (by omega)
    |_=>exact absurd rfl hf
  obtain⟨t1,e1,e2,e3⟩:=cell
  have hc':c≤Hr mt c ty x:=by cases ty<;>simp only[Hr]<;>omega
  obtain⟨t2,f1,f2,f3⟩:=Mp hT (rows:=rows) (z:=z) (i:=i) ts xs (c:=Hr mt c ty x) (dn:=dn++[(jV mT p k).1]) (row:=rest) (k:=(jV mT p k).2) (t:=t1) hnext hr' (by rw[hE];simp) (by rw[hz];simp;omega) e3 (by omega) hk (by omega) (by omega)
  refine⟨t2,?_,by omega,by simp only[ot];exact f3⟩
  simp only[QS]
  rw[JS e1,f1]
theorem NY (hT:AW Φ ext mT mt){ts:List PTy}{xs:List MC}(hm:F4 Φ ext mT 0 ts xs){R:List (List PV)}(hR:R.length≤maxLen):∀(rest done:List (List PV))(k:Int)(t:List V),R=done++(bR mT rest k).1→HdSt R done.length k t→(∀r∈rest,aZ ts r)→0≤k→(bR mT rest k).2≤uB→pH mt 12 ts xs≤t.length→
 ∃t',av (aj (ag Φ ext) av (Jp mt ts xs)) ⟨t,[]⟩=some (.exit 0,⟨t',[]⟩)∧t'.length=t.length∧t'[1]? =some (aa .i64 (bR mT rest k).2):=by
 intro rest
 have hN:=B6 (mt:=mt) ts xs 12
 have head:∀(n:Nat)(k:Int)(t:List V),HdSt R n k t→pH mt 12 ts xs≤t.length→∃t',aj (ag Φ ext) av (Gq 5 0 6) ⟨t,[]⟩=some (if n<R.length then .normal else .exit 0,⟨t',[]⟩)∧t'.length=t.length∧HdSt R n k t':=by
  intro n k t s hl
  let t1:=(((t.set 6 (aa .i64 n)).set 7 (bu R)).set 8 (aa .i64 R.length)).set 9 (ar (decide (n<R.length)))
  have e0:=getD_some s.t5
  have e1:(t.set 6 (aa .i64 n)).getD 0 (.tup [])=bu R:=(da (by omega)).trans (getD_some s.t0)
  have e2:((t.set 6 (aa .i64 n)).set 7 (bu R)).getD 7 (.tup [])=bu R:=aB (by simp;omega)
  have e3:(((t.set 6 (aa .i64 n)).set 7 (bu R)).set 8 (aa .i64 R.length)).getD 6 (.tup [])=aa .i64 n:=(da (by omega)).trans ((da (by omega)).trans (aB (by omega)))
  have e4:(((t.set 6 (aa .i64 n)).set 7 (bu R)).set 8 (aa .i64 R.length)).getD 8 (.tup [])=aa .i64 R.length:=aB (by simp;omega)
  have e5:t1.getD 9 (.tup [])=ar (decide (n<R.length)):=aB (by simp;omega)
  have e6:asList [] (bu R)=some R:=rfl
  have e7:decide ((n:Int)<(R.length:Int))=decide (n<R.length):=by
   by_cases h:n<R.length
   ·rw[decide_eq_true h,decide_eq_true (by omega)]
   ·rw[decide_eq_false h,decide_eq_false (by omega)]
  refine⟨t1,?_,by simp[t1],?_,?_,?_⟩
  ·simp only[Gq,aj,ah,az,aH,bf,Opd.ev,e0,put,e1,e2,e6,e3,e4,bin,if_true,bM,e7]
   have e5':=e5
   simp only[t1]at e5'
   rw[e5']
   by_cases h:n<R.length
   ·simp only[isBool,h,decide_true,if_true,t1]
   ·simp only[isBool,h,decide_false,Bool.false_eq_true,if_false,t1]
  ·simp only[t1];rw[List.getElem?_set_ne (by omega),List.getElem?_set_ne (by omega),List.getElem?_set_ne (by omega),List.getElem?_set_ne (by omega)];exact s.t0
  ·simp only[t1];rw[List.getElem?_set_ne (by omega),List.getElem?_set_ne (by omega),List.getElem?_set_ne (by omega),List.getElem?_set_ne (by omega)];exact s.t1
  ·simp only[t1];rw[List.getElem?_set_ne (by omega),List.getElem?_set_ne (by omega),List.getElem?_set_ne (by omega),List.getElem?_set_ne (by omega)];exact s.t5
 induction rest with
 |nil=>
  intro done k t hRe s hr h0 hk hl
  simp only[bR,List.append_nil]at hRe
  obtain⟨t',a1,a2,a3⟩:=head done.length k t s hl
  refine⟨t',gC ?_ (by simp),a2,by simp only[bR];exact a3.t1⟩
  have:¬done.length<R.length:=by rw[hRe];omega
  simp only[Jp,aj,a1,this,if_false]
 |cons r rest ih=>
  intro done k t hRe s hr h0 hk hl
  obtain⟨t1,a1,a2,a3⟩:=head done.length k t s hl
  simp only[bR]at hk hRe
  have hle:=nR mT rest (ot mT r k).2
  have hll:=zP mT r k
  have hlt:done.length<R.length:=by rw[hRe];simp
  obtain⟨t2,b1,b2,b3⟩:=Mp hT (rows:=R) (z:=ts.length) (i:=done.length) ts xs (c:=12) (dn:=[]) (row:=r) (k:=k) (t:=t1) hm (hr r (by simp)) (by rw[hRe,List.getElem?_append_right (Nat.le_refl _),Nat.sub_self];rfl) (by simp) a3 h0 (by omega) (Nat.le_refl _) (by omega)
  have hw:=jC (k:=done.length) (by unfold maxLen at hR;omega)
  let t3:=((t2.set 10 (aa .i64 done.length)).set 11 (aa .i64 ((done.length:Int)+1))).set 5 (aa .i64 ((done.length:Int)+1))
  have f0:=getD_some b3.t5
  have f1:(t2.set 10 (aa .i64 done.length)).getD 10 (.tup [])=aa .i64 done.length:=aB (by omega)
  have f2:((t2.set 10 (aa .i64 done.length)).set 11 (aa .i64 ((done.length:Int)+1))).getD 11 (.tup [])=aa .i64 ((done.length:Int)+1):=aB (by simp;omega)
  have f3:aj (ag Φ ext) av (Hq 5 10) ⟨t2,[]⟩=some (.normal,⟨t3,[]⟩):=by
   simp only[Hq,aj,ah,az,aH,bf,Opd.ev,f0,put,f1,bin,if_true,bM,hw,f2,t3]
  have s3:HdSt R (done++[(ot mT r k).1]).length (ot mT r k).2 t3:=by
   have hlen1:(done++[(ot mT r k).1]).length=done.length+1:=by simp
   rw[hlen1]
   refine⟨?_,?_,?_⟩
   ·simp only[t3];rw[List.getElem?_set_ne (by omega),List.getElem?_set_ne (by omega),List.getElem?_set_ne (by omega)];exact b3.t0
   ·simp only[t3];rw[List.getElem?_set_ne (by omega),List.getElem?_set_ne (by omega),List.getElem?_set_ne (by omega)];exact b3.t1
   ·simp only[t3];exact List.getElem?_set_self (by simp;omega)
  obtain⟨t4,g1,g2,g3⟩:=ih (done++[(ot mT r k).1]) (ot mT r k).2 t3 (by rw[hRe];simp) s3 (fun r m=>hr r (by simp[m])) (by omega) hk (by simp[t3];omega)
  refine⟨t4,(fH (σ':=⟨t3,[]⟩) ?_).trans g1,by rw[g2];simp[t3];omega,by simp only[bR];exact g3⟩
  have hb:=JX b1
  simp only[Jp,aj,a1,hlt,if_true,hb,f3]
theorem eE (hT:AW Φ ext mT mt){f:Nat}{ts:List PTy}{xs:List MC}(hk:Φ f=some (iw mt ts xs))(hm:F4 Φ ext mT 0 ts xs):gj Φ ext mT f ts:=by
 have hN:=B6 (mt:=mt) ts xs 12
 obtain⟨m,hm'⟩:∃m,pH mt 12 ts xs+1-2=m+11:=⟨pH mt 12 ts xs-12,by omega⟩
 intro rows h k h0 hk2
 obtain⟨hl1,hr⟩:=aL h
 refine fQ hk ?_
 have hst:start (iw mt ts xs) [bu (bR mT rows k).1,aa .i64 k]=⟨bu (bR mT rows k).1::aa .i64 k::List.replicate (m+11) (.tup []),[]⟩:=by
  simp only[start,iw,List.length_cons,List.length_nil,List.cons_append,List.nil_append,hm']
 let t0:List V:=bu (bR mT rows k).1::aa .i64 k:: .tup []:: .tup []::aa .i64 0::aa .i64 0::List.replicate (m+7) (.tup [])
 have hl0:t0.length=pH mt 12 ts xs+1:=by simp[t0];omega
 obtain⟨t',a1,a2,a3⟩:=NY hT hm (R:=(bR mT rows k).1) (by rw[MD];exact hl1) rows [] k t0 (by simp) ⟨rfl,rfl,rfl⟩ hr h0 hk2 (by omega)
 have q1:t'.getD 1 (.tup [])=aa .i64 (bR mT rows k).2:=getD_some a3
 have q2:(t'.set (pH mt 12 ts xs) (aa .i64 (bR mT rows k).2)).getD (pH mt 12 ts xs) (.tup [])=aa .i64 (bR mT rows k).2:=aB (by omega)
 have hend:aj (ag Φ ext) av (.seq (.region [⟨some (pH mt 12 ts xs), .mv (.tmp 1),none⟩,⟨some 4, .mv (.tmp (pH mt 12 ts xs)),none⟩]) .ret) ⟨t',[]⟩=some (.ret,⟨(t'.set (pH mt 12 ts xs) (aa .i64 (bR mT rows k).2)).set 4 (aa .i64 (bR mT rows k).2),[]⟩):=by
  simp only[aj,ah,az,aH,bf,Opd.ev,q1,put,q2]
 have q3:((t'.set (pH mt 12 ts xs) (aa .i64 (bR mT rows k).2)).set 4 (aa .i64 (bR mT rows k).2)).getD 4 (.tup [])=aa .i64 (bR mT rows k).2:=aB (by simp;omega)
 have hrun:ft Φ ext (iw mt ts xs).body (start (iw mt ts xs) [bu (bR mT rows k).1,aa .i64 k])=some (.ret,⟨(t'.set (pH mt 12 ts xs) (aa .i64 (bR mT rows k).2)).set 4 (aa .i64 (bR mT rows k).2),[]⟩):=by
  rw[hst]
  generalize hec:ACode.seq (.region [⟨some (pH mt 12 ts xs), .mv (.tmp 1),none⟩,⟨some 4, .mv (.tmp (pH mt 12 ts xs)),none⟩]) .ret=ec at hend
  have hrep:List.replicate (m+11) (V.tup [])= .tup []:: .tup []:: .tup []:: .tup []::List.replicate (m+7) (.tup []):=rfl
  generalize hlp:av (aj (ag Φ ext) av (Jp mt ts xs))=lp at a1
  simp only[t0]at a1
  simp only[ft,iw,hec,hrep,aj,ah,az,aH,bf,Opd.ev,put,List.set_cons_succ,List.set_cons_zero,hlp,a1,if_true]
  exact hend
 rw[hrun]
 simp only[done,iw,aV,au,bE,q3,List.flatMap_cons,List.flatMap_nil,List.append_nil,V.cells,bN,comp,aK,bq]
 rfl
end
end Gi
