/- Of this proof. -/
import Derived.Test.YtgmnakghjemjlaaGreatGpq
set_option linter.unusedSimpArgs false
set_option linter.unusedVariables false
namespace Gi
open Go Go.RowKit
def OT :List ACode→ACode
 |[]=> .skip
 |[a]=>a
 |a::b::r=> .seq a (OT (b::r))
def te (call:Nat→List V→Option V)(lp:(St→Option (Ex×St))→St→Option (Ex×St)):List ACode→St→Option St
 |[],σ=>some σ
 |a::r,σ=>match aj call lp a σ with
  |some (.normal,σ')=>te call lp r σ'
  |_=>none
theorem Ic {call:Nat→List V→Option V}{lp:(St→Option (Ex×St))→St→Option (Ex×St)}:∀{xz:List ACode}{σ σ':St},te call lp xz σ=some σ'→aj call lp (OT xz) σ=some (.normal,σ')
 |[],σ,σ',h=>by simp only[te]at h;cases h;rfl
 |[a],σ,σ',h=>by
  simp only[te]at h
  split at h
  ·rename_i σ1 h1;cases h;exact h1
  ·cases h
 |a::b::r,σ,σ',h=>by
  rw[te]at h
  split at h
  ·rename_i σ1 h1
   have:=Ic (xz:=b::r) h
   simp only[OT,aj,h1,this]
  ·cases h
theorem H9 {call:Nat→List V→Option V}{lp:(St→Option (Ex×St))→St→Option (Ex×St)}:∀{xz bs:List ACode}{σ σ':St},te call lp xz σ=some σ'→te call lp (xz++bs) σ=te call lp bs σ'
 |[],bs,σ,σ',h=>by simp only[te]at h;cases h;rfl
 |a::xz,bs,σ,σ',h=>by
  simp only[te,List.cons_append]at h⊢
  split at h
  ·rename_i σ1 h1
   exact H9 h
  ·cases h
def AT (mt c:Nat):PTy→List AOper
 | .int .i64=>[]
 | .int κ=>[⟨some (c+3), .conv κ (.tmp (c+2)),none⟩]
 | .str=>[⟨some (c+3), .call mt [.tmp (c+2)] true true,none⟩]
 | .bool=>[⟨some (c+3), .bin .rem (.tmp (c+2)) (.pv (.int .i64 3)),none⟩,⟨some (c+4), .bin .eql (.tmp (c+3)) (.pv (.int .i64 0)),none⟩]
 | .lst _=>[]
def QV :ACode:= .seq (.region [⟨some 4, .mv (.pv (.int .i64 (-1))),none⟩]) .ret
def PA (z c:Nat)(x:MC):List AOper:=KE c++(⟨some (c+2), .indexA z (.tmp c) (.tmp (c+1)),none⟩::(pI (c+2) x.p++[⟨some (c+3+x.p.length), .load false 1 (.tmp (c+2+x.p.length)),none⟩,⟨some (c+4+x.p.length), .mv (.tmp 1),none⟩]))
def Oy (z mt c:Nat)(t:PTy)(x:MC):List ACode:=
 let d:=c+2+x.p.length
 let v:=d+2+(AT mt d t).length
 [.seq (.region (PA z c x++(AT mt d t++[⟨some (v+1),Eh t (.tmp (d+1)) (.tmp v),none⟩]))) (.cond (.tmp (v+1)) QV .skip), .region (Jj (v+2))]
def Pz (z c:Nat)(x:MC):List ACode:=
 let d:=c+2+x.p.length
 [.region (PA z c x++[⟨some (d+3), .call x.f [.tmp (d+1), .tmp (d+2)] true false,none⟩,⟨some 1, .mv (.tmp (d+3)),none⟩]),nk (d+4)]
def Py (z mt c:Nat):PTy→MC→List ACode
 | .lst _,x=>Pz z c x
 |t,x=>Oy z mt c t x
def FO (mt c:Nat):PTy→MC→Nat
 | .lst _,x=>c+8+x.p.length
 |t,x=>c+8+(AT mt (c+2+x.p.length) t).length+x.p.length
def Oz (z mt:Nat):Nat→List PTy→List MC→List ACode
 |c,t::ts,x::xs=>Py z mt c t x++Oz z mt (FO mt c t x) ts xs
 |_,_,_=>[]
def oU (mt:Nat):Nat→List PTy→List MC→Nat
 |c,t::ts,x::xs=>oU mt (FO mt c t x) ts xs
 |c,_,_=>c
def HH (mt:Nat)(ts:List PTy)(xs:List MC):ACode:= .seq (EO 5 0 6) (.seq (.block 1 (OT (Oz ts.length mt 12 ts xs))) (FN 5 10))
def hZ (mt:Nat)(ts:List PTy)(xs:List MC):AFn:=⟨oU mt 12 ts xs+1,[.tmp 4], .seq (.region [⟨some 4, .mv (.pv (.int .i64 0)),none⟩]) (.seq (.seq (.region [⟨some 5, .mv (.pv (.int .i64 0)),none⟩]) (.block 0 (.loop (HH mt ts xs)))) (.seq (.region [⟨some (oU mt 12 ts xs), .mv (.tmp 1),none⟩,⟨some 4, .mv (.tmp (oU mt 12 ts xs)),none⟩]) .ret))⟩
theorem Ha {call:Nat→List V→Option V}{e:List PV}:∀{p:List Nat}{c j:Nat}{t:List V}{h:List AObj},t[c]? =some (.one (.ip e j))→c+p.length<t.length→
 ∃t',ah call (pI c p) ⟨t,h⟩=some ⟨t',h⟩∧t'.length=t.length∧t'[c+p.length]? =some (.one (.ip e (j+p.sum)))∧∀n≤c,t'[n]? =t[n]?
 |[],c,j,t,h,hc,hl=>⟨t,rfl,rfl,by simpa using hc,fun _ _=>rfl⟩
 |d::ds,c,j,t,h,hc,hl=>by
  simp only[List.length_cons]at hl
  obtain⟨t',e1,e2,e3,e4⟩:=Ha (call:=call) (e:=e) (p:=ds) (c:=c+1) (j:=j+d) (t:=t.set (c+1) (.one (.ip e (j+d)))) (h:=h) (List.getElem?_set_self (by omega)) (by simp;omega)
  refine⟨t',?_,by simpa using e2,?_,fun n hn=> ?_⟩
  ·simp only[pI,ah,az,aI,bg,Opd.ev,getD_some hc,put,e1]
  ·simp only[List.length_cons,List.sum_cons]
   rw[show c+(ds.length+1)=c+1+ds.length by omega,e3,Nat.add_assoc]
  ·rw[e4 n (by omega),List.getElem?_set_ne (by omega)]
section
variable {Φ:Nat→Option AFn}{ext:Nat→List V→Option V}{mT:Int→List UInt8}{mt:Nat}
theorem N7 (hT:zF Φ ext mT mt){ty:PTy}{p:PV}(hp:ni ty p)(hf:ty.flatT=true){c:Nat}{k:Int}(h0:0≤k)(hk:k<tC){t:List V}{h:List AObj}(h2:t[c+2]? =some (aa .i64 k))(hl:c+2+(AT mt c ty).length<t.length):
 ∃t',ah (ag Φ ext) (AT mt c ty) ⟨t,h⟩=some ⟨t',h⟩∧t'.length=t.length∧t'[c+2+(AT mt c ty).length]? =some (.one (.pv (jA mT p k).1))∧∀n≤c+2,t'[n]? =t[n]? :=by
 have e2:=getD_some h2
 by_cases hs:ty= .str
 ·subst hs
  obtain⟨s,rfl⟩:=jl hp
  simp only[AT,List.length_singleton]at hl⊢
  refine⟨t.set (c+3) (dS (mT k)),?_,by simp,by simp only[jA];exact List.getElem?_set_self (by omega),fun n hn=>List.getElem?_set_ne (by omega)⟩
  simp only[ah,az,aI,bg,Bool.or_self,Bool.true_or,if_true,List.map_cons,List.map_nil,Opd.ev,e2,ap,V.view,L.view,hT k h0 (by omega),V.flat,L.flat,Bool.not_true,Bool.and_false,Bool.false_eq_true,if_false,dL,du,put]
 ·have:AT mt c ty=tk mt c ty:=by
   cases ty with
   |int κ=>cases κ<;>rfl
   |str=>exact absurd rfl hs
   |_=>rfl
  rw[this]at hl⊢
  exact KY hT hp hf h0 hk h2 hl
theorem L7 {ty:PTy}{p:PV}(hp:ni ty p)(hf:ty.flatT=true){k:Int}{t:List V}{a b:Nat}(ha:t[a]? =some (.one (.pv (jA mT p k).1)))(hb:t[b]? =some (.one (.pv (jA mT p k).1)))(call:Nat→List V→Option V)(h:List AObj):bg call ⟨t,h⟩ (Eh ty (.tmp a) (.tmp b))=some (au false):=by
 have e1:=getD_some ha
 have e2:=getD_some hb
 cases ty with
 |lst us=>cases hf
 |str=>
  obtain⟨s,rfl⟩:=jl hp
  simp only[Eh,bg,Opd.ev,e1,e2]
  exact CG rfl
 |int κ=>
  obtain⟨s,rfl⟩:=kM hp
  simp only[Eh,bg,Opd.ev,e1,e2]
  exact CG rfl
 |bool=>
  obtain⟨s,rfl⟩:=jL hp
  simp only[Eh,bg,Opd.ev,e1,e2,jA,isBool]
  cases k.tmod 3==0<;>rfl
structure HdSt (rows:List (List PV)) (i:Nat) (k:Int) (t:List V):Prop where
 t0:t[0]? =some (bv rows)
 t1:t[1]? =some (aa .i64 k)
 t5:t[5]? =some (aa .i64 i)
theorem Kt {rows:List (List PV)}{e:List PV}{q:PV}{x:MC}{z i c:Nat}{k:Int}{t:List V}(s:HdSt rows i k t)(he:rows[i]? =some e)(hz:e.length=z)(hq:e[x.p.sum]? =some q)(hc:12≤c)(hl:c+4+x.p.length<t.length)(call:Nat→List V→Option V):
 ∃t',ah call (PA z c x) ⟨t,[]⟩=some ⟨t',[]⟩∧t'.length=t.length∧t'[c+3+x.p.length]? =some (.one (.pv q))∧t'[c+4+x.p.length]? =some (aa .i64 k)∧∀n<c,t'[n]? =t[n]? :=by
 let t1:=((t.set c (bv rows)).set (c+1) (aa .i64 i)).set (c+2) (.one (.ip e 0))
 have a0:ah call (KE c++[⟨some (c+2), .indexA z (.tmp c) (.tmp (c+1)),none⟩]) ⟨t,[]⟩=some ⟨t1,[]⟩:=by
  have e1:=getD_some s.t0
  have e2:(t.set c (bv rows)).getD 5 (.tup [])=aa .i64 i:=(cR (by omega)).trans (getD_some s.t5)
  have e3:((t.set c (bv rows)).set (c+1) (aa .i64 i)).getD c (.tup [])=bv rows:=(cR (by omega)).trans (aA (by omega))
  have e4:((t.set c (bv rows)).set (c+1) (aa .i64 i)).getD (c+1) (.tup [])=aa .i64 i:=aA (by simp;omega)
  simp only[KE,List.cons_append,List.nil_append,ah,az,aI,bg,Opd.ev,e1,put,e2,e3,e4,isInt,Int.natCast_nonneg,if_true,Int.toNat_natCast,aJ,he,hz,t1]
 have l1:t1.length=t.length:=by simp[t1]
 have g1:∀n,n<c→t1[n]? =t[n]? :=fun n hn=>by simp only[t1];rw[List.getElem?_set_ne (by omega),List.getElem?_set_ne (by omega),List.getElem?_set_ne (by omega)]
 have ge:t1[c+2]? =some (.one (.ip e 0)):=by simp only[t1];exact List.getElem?_set_self (by simp;omega)
 clear_value t1
 obtain⟨t4,d1,d2,d3,d4⟩:=Ha (call:=call) (e:=e) (p:=x.p) (c:=c+2) (j:=0) (t:=t1) (h:=[]) ge (by omega)
 rw[Nat.zero_add]at d3
 have hcut:f9 false 1 x.p.sum (e.map L.pv)=some (.one (.pv q)):=by
  have hlt:=(List.getElem?_eq_some_iff.1 hq).1
  unfold f9
  rw[if_pos (by simp;omega)]
  simp[hq]
 have q1:(t4.set (c+3+x.p.length) (V.one (.pv q))).getD 1 (.tup [])=aa .i64 k:=(cR (by omega)).trans (getD_some ((d4 1 (by omega)).trans ((g1 1 (by omega)).trans s.t1)))
 refine⟨(t4.set (c+3+x.p.length) (.one (.pv q))).set (c+4+x.p.length) (aa .i64 k),?_,by simp;omega,by rw[List.getElem?_set_ne (by omega)];exact List.getElem?_set_self (by omega),List.getElem?_set_self (by simp;omega),fun n hn=>by rw[List.getElem?_set_ne (by omega),List.getElem?_set_ne (by omega),d4 n (by omega),g1 n hn]⟩
 have hflat:PA z c x=(KE c++[⟨some (c+2), .indexA z (.tmp c) (.tmp (c+1)),none⟩])++(pI (c+2) x.p++[⟨some (c+3+x.p.length), .load false 1 (.tmp (c+2+x.p.length)),none⟩,⟨some (c+4+x.p.length), .mv (.tmp 1),none⟩]):=by
  simp only[PA,List.append_assoc,List.cons_append,List.nil_append]
 rw[hflat,bz _ _ _ a0,bz _ _ _ d1]
 simp only[ah,az,aI,bg,Opd.ev,getD_some d3,bn,hcut,put,q1]
theorem OA {call:Nat→List V→Option V}{rows:List (List PV)}{i c:Nat}{k:Int}{t:List V}{h:List AObj}(s:HdSt rows i k t)(h0:0≤k)(hk:k<tC)(hc:6≤c)(hl:c+1<t.length):
 ∃t',ah call (Jj c) ⟨t,h⟩=some ⟨t',h⟩∧t'.length=t.length∧HdSt rows i (k+1) t':=by
 have e1:=getD_some s.t1
 have e2:(t.set c (aa .i64 k)).getD c (.tup [])=aa .i64 k:=aA (by omega)
 have hw:IntKind.i64.wrap (k+1)=k+1:=by rw[IntKind.wrap_i64];unfold tC at hk;omega
 have e3:((t.set c (aa .i64 k)).set (c+1) (aa .i64 (k+1))).getD (c+1) (.tup [])=aa .i64 (k+1):=aA (by simp;omega)
 refine⟨((t.set c (aa .i64 k)).set (c+1) (aa .i64 (k+1))).set 1 (aa .i64 (k+1)),?_,by simp,?_,?_,?_⟩
 ·simp only[Jj,ah,az,aI,bg,Opd.ev,e1,put,e2,bin,if_true,bD,hw,e3]
 ·rw[List.getElem?_set_ne (by omega),List.getElem?_set_ne (by omega),List.getElem?_set_ne (by omega)];exact s.t0
 ·exact List.getElem?_set_self (by simp;omega)
 ·rw[List.getElem?_set_ne (by omega),List.getElem?_set_ne (by omega),List.getElem?_set_ne (by omega)];exact s.t5
theorem Np (hT:zF Φ ext mT mt){rows:List (List PV)}{ty:PTy}{p:PV}{x:MC}{e:List PV}{z i c:Nat}{k:Int}{t:List V}(hp:ni ty p)(hf:ty.flatT=true)(s:HdSt rows i k t)(h0:0≤k)(hk:k<tC)(hc:12≤c)(he:rows[i]? =some e)(hz:e.length=z)(hq:e[x.p.sum]? =some (jA mT p k).1)(hl:c+8+(AT mt (c+2+x.p.length) ty).length+x.p.length≤t.length):
 ∃t',te (ag Φ ext) ar (Oy z mt c ty x) ⟨t,[]⟩=some ⟨t',[]⟩∧t'.length=t.length∧HdSt rows i (jA mT p k).2 t':=by
 obtain⟨t1,a1,a2,a3,a4,a5⟩:=Kt s he hz hq hc (by omega) (ag Φ ext)
 generalize hd:c+2+x.p.length=d at*
 rw[show c+3+x.p.length=d+1 by omega]at a3
 rw[show c+4+x.p.length=d+2 by omega]at a4
 obtain⟨t2,b1,b2,b3,b4⟩:=N7 (h:=[]) hT hp hf h0 hk a4 (by omega)
 generalize hv:d+2+(AT mt d ty).length=v at*
 have b5:t2[d+1]? =some (.one (.pv (jA mT p k).1)):=(b4 (d+1) (by omega)).trans a3
 have c1:=L7 hp hf b5 b3 (ag Φ ext) []
 have q1:(t2.set (v+1) (au false)).getD (v+1) (.tup [])=au false:=aA (by omega)
 have low:∀n,n<c→(t2.set (v+1) (au false))[n]? =t[n]? :=fun n hn=>by rw[List.getElem?_set_ne (by omega),b4 n (by omega),a5 n hn]
 obtain⟨t5,i1,i2,i3⟩:=OA (call:=ag Φ ext) (c:=v+2) (h:=[]) (⟨(low 0 (by omega)).trans s.t0,(low 1 (by omega)).trans s.t1,(low 5 (by omega)).trans s.t5⟩:HdSt rows i k (t2.set (v+1) (au false))) h0 hk (by omega) (by simp;omega)
 have f3:=(wz (mT:=mT) hp hf k).2.2
 refine⟨t5,?_,by rw[i2];simp;omega,by rw[f3];exact i3⟩
 have hops:ah (ag Φ ext) (PA z c x++(AT mt d ty++[⟨some (v+1),Eh ty (.tmp (d+1)) (.tmp v),none⟩])) ⟨t,[]⟩=some ⟨t2.set (v+1) (au false),[]⟩:=by
  rw[bz _ _ _ a1,bz _ _ _ b1]
  simp only[ah,az,aI,c1,put]
 simp only[Oy,hd,hv,te,aj,hops,Opd.ev,q1,isBool,Bool.false_eq_true,if_false,i1]
def fS (Φ:Nat→Option AFn)(ext:Nat→List V→Option V)(mT:Int→List UInt8)(f:Nat)(ts:List PTy):Prop:=
 ∀rows:List (List PV),ni (.lst ts) (.lst rows)→∀k:Int,0≤k→(bQ mT rows k).2≤tC→ag Φ ext f [bv (bQ mT rows k).1,aa .i64 k]=some (aa .i64 (bQ mT rows k).2)
theorem Nq {rows:List (List PV)}{us:List PTy}{ys:List (List PV)}{x:MC}{e:List PV}{z i c:Nat}{k:Int}{t:List V}(hO:fS Φ ext mT x.f us)(hp:ni (.lst us) (.lst ys))(s:HdSt rows i k t)(h0:0≤k)(hk:(bQ mT ys k).2≤tC)(hc:12≤c)(he:rows[i]? =some e)(hz:e.length=z)(hq:e[x.p.sum]? =some (jA mT (.lst ys) k).1)(hl:c+8+x.p.length≤t.length):
 ∃t',te (ag Φ ext) ar (Pz z c x) ⟨t,[]⟩=some ⟨t',[]⟩∧t'.length=t.length∧HdSt rows i (jA mT (.lst ys) k).2 t':=by
 obtain⟨t1,a1,a2,a3,a4,a5⟩:=Kt s he hz hq hc (by omega) (ag Φ ext)
 have hle:=m8 mT ys k
 generalize hd:c+2+x.p.length=d at*
 rw[show c+3+x.p.length=d+1 by omega]at a3
 rw[show c+4+x.p.length=d+2 by omega]at a4
 simp only[jA]at a3⊢
 generalize hk2:(bQ mT ys k).2=k2 at*
 have hcall:=hO ys hp k h0 (by omega)
 rw[hk2]at hcall
 generalize (bQ mT ys k).1=ys' at*
 have e1:=getD_some a3
 have e2:=getD_some a4
 have q1:(t1.set (d+3) (aa .i64 k2)).getD (d+3) (.tup [])=aa .i64 k2:=aA (by omega)
 have hview:ap [] [bv ys',aa .i64 k]=some [bv ys',aa .i64 k]:=rfl
 let t2:=(t1.set (d+3) (aa .i64 k2)).set 1 (aa .i64 k2)
 have hops:ah (ag Φ ext) (PA z c x++[⟨some (d+3), .call x.f [.tmp (d+1), .tmp (d+2)] true false,none⟩,⟨some 1, .mv (.tmp (d+3)),none⟩]) ⟨t,[]⟩=some ⟨t2,[]⟩:=by
  rw[bz _ _ _ a1]
  have hvl:ap [] [V.one (L.pv (PV.lst ys')),aa .i64 k]=some [bv ys',aa .i64 k]:=rfl
  simp only[ah,az,aI,bg,Bool.or_false,Bool.true_or,if_true,List.map_cons,List.map_nil,Opd.ev,e1,e2,hvl,hcall,V.flat,L.flat,Bool.not_true,Bool.and_false,Bool.false_eq_true,if_false,dL,du,put,q1,t2]
 have l2:t2.length=t.length:=by simp[t2];omega
 have q2:t2.getD 1 (.tup [])=aa .i64 k2:=aA (by simp;omega)
 have q3:(t2.set (d+4) (aa .i64 k2)).getD (d+4) (.tup [])=aa .i64 k2:=aA (by omega)
 have q4:((t2.set (d+4) (aa .i64 k2)).set (d+5) (au false)).getD (d+5) (.tup [])=au false:=aA (by simp;omega)
 have hlt:decide (k2<0)=false:=decide_eq_false (by omega)
 refine⟨(t2.set (d+4) (aa .i64 k2)).set (d+5) (au false),?_,by simp;omega,?_,?_,?_⟩
 ·have h5:d+4+1=d+5:=by omega
  simp only[Pz,hd,te,aj,hops,nk,ah,az,aI,bg,Opd.ev,q2,put,q3,bin,if_true,bD,hlt,h5,q4,isBool,Bool.false_eq_true,if_false]
 ·simp only[t2];rw[List.getElem?_set_ne (by omega),List.getElem?_set_ne (by omega),List.getElem?_set_ne (by omega),List.getElem?_set_ne (by omega)];exact(a5 0 (by omega)).trans s.t0
 ·rw[List.getElem?_set_ne (by omega),List.getElem?_set_ne (by omega)];exact List.getElem?_set_self (by simp;omega)
 ·simp only[t2];rw[List.getElem?_set_ne (by omega),List.getElem?_set_ne (by omega),List.getElem?_set_ne (by omega),List.getElem?_set_ne (by omega)];exact(a5 5 (by omega)).trans s.t5
def Ew (Φ:Nat→Option AFn)(ext:Nat→List V→Option V)(mT:Int→List UInt8):Nat→List PTy→List MC→Prop
 |j, .lst us::ts,x::xs=>x.p.sum=j∧fS Φ ext mT x.f us∧Ew Φ ext mT (j+1) ts xs
 |j,_::ts,x::xs=>x.p.sum=j∧Ew Φ ext mT (j+1) ts xs
 |_,[],[]=>True
 |_,_,_=>False
theorem AX :∀(ts:List PTy)(xs:List MC)(c:Nat),c≤oU mt c ts xs
 |[],_,c=>Nat.le_refl _
 |_::_,[],c=>Nat.le_refl _
 |t::ts,x::xs,c=>by
  simp only[oU]
  refine Nat.le_trans ?_ (AX ts xs _)
  cases t<;>simp only[FO]<;>omega
theorem Kq (hT:zF Φ ext mT mt){rows:List (List PV)}{z i:Nat}:∀(ts:List PTy)(xs:List MC){c:Nat}{dn row:List PV}{k:Int}{t:List V},Ew Φ ext mT dn.length ts xs→ba ts row→rows[i]? =some (dn++(nB mT row k).1)→z=dn.length+ts.length→HdSt rows i k t→0≤k→(nB mT row k).2≤tC→12≤c→oU mt c ts xs≤t.length→
 ∃t',te (ag Φ ext) ar (Oz z mt c ts xs) ⟨t,[]⟩=some ⟨t',[]⟩∧t'.length=t.length∧HdSt rows i (nB mT row k).2 t'
 |[],xs,c,dn,row,k,t,hm,hr,hE,hz,s,h0,hk,hc,hl=>by
  obtain rfl:=eU hr
  cases xs<;>exact⟨t,rfl,rfl,by simpa only[nB]using s⟩
 |ty::ts,[],c,dn,row,k,t,hm,hr,hE,hz,s,h0,hk,hc,hl=>by cases ty<;>exact hm.elim
 |ty::ts,x::xs,c,dn,row,k,t,hm,hr,hE,hz,s,h0,hk,hc,hl=>by
  obtain⟨p,rest,rfl,hp,hr'⟩:=dw hr
  have hle:=yy mT rest (jA mT p k).2
  have hlp:=Ju mT p k
  simp only[nB]at hk hE
  simp only[oU]at hl
  have hN:=AX (mt:=mt) ts xs (FO mt c ty x)
  have hnext:Ew Φ ext mT (dn++[(jA mT p k).1]).length ts xs:=by
   have:(dn++[(jA mT p k).1]).length=dn.length+1:=by simp
   rw[this]
   cases ty<;>first|exact hm.2|exact hm.2.2
  have hx:x.p.sum=dn.length:=by cases ty<;>exact hm.1
  have hel:(dn++(jA mT p k).1::(nB mT rest (jA mT p k).2).1).length=z:=by
   rw[hz,List.length_append,List.length_cons,KA,i9 hr'];rfl
  have hq:(dn++(jA mT p k).1::(nB mT rest (jA mT p k).2).1)[x.p.sum]? =some (jA mT p k).1:=by rw[hx];exact AV
  have cell:∃t',te (ag Φ ext) ar (Py z mt c ty x) ⟨t,[]⟩=some ⟨t',[]⟩∧t'.length=t.length∧HdSt rows i (jA mT p k).2 t':=by
   by_cases hf:ty.flatT=true
   ·have hR:Py z mt c ty x=Oy z mt c ty x:=by cases ty<;>first|rfl|cases hf
    have hN':FO mt c ty x=c+8+(AT mt (c+2+x.p.length) ty).length+x.p.length:=by cases ty<;>first|rfl|cases hf
    rw[hR]
    have:=(wz (mT:=mT) hp hf k).2.2
    exact Np hT hp hf s h0 (by omega) hc hE hel hq (by omega)
   ·cases ty with
    |lst us=>
     obtain⟨ys,rfl⟩:=mA hp
     have hN':FO mt c (.lst us) x=c+8+x.p.length:=rfl
     have hk':(bQ mT ys k).2≤tC:=by simp only[jA]at hle hk;omega
     exact Nq hm.2.1 hp s h0 hk' hc hE hel hq (by omega)
    |_=>exact absurd rfl hf
  obtain⟨t1,e1,e2,e3⟩:=cell
  have hc':c≤FO mt c ty x:=by cases ty<;>simp only[FO]<;>omega
  obtain⟨t2,f1,f2,f3⟩:=Kq hT (rows:=rows) (z:=z) (i:=i) ts xs (c:=FO mt c ty x) (dn:=dn++[(jA mT p k).1]) (row:=rest) (k:=(jA mT p k).2) (t:=t1) hnext hr' (by rw[hE];simp) (by rw[hz];simp;omega) e3 (by omega) hk (by omega) (by omega)
  refine⟨t2,?_,by omega,by simp only[nB];exact f3⟩
  simp only[Oz]
  rw[H9 e1,f1]
theorem LW (hT:zF Φ ext mT mt){ts:List PTy}{xs:List MC}(hm:Ew Φ ext mT 0 ts xs){R:List (List PV)}(hR:R.length≤maxLen):∀(rest done:List (List PV))(k:Int)(t:List V),R=done++(bQ mT rest k).1→HdSt R done.length k t→(∀r∈rest,ba ts r)→0≤k→(bQ mT rest k).2≤tC→oU mt 12 ts xs≤t.length→
 ∃t',ar (aj (ag Φ ext) ar (HH mt ts xs)) ⟨t,[]⟩=some (.exit 0,⟨t',[]⟩)∧t'.length=t.length∧t'[1]? =some (aa .i64 (bQ mT rest k).2):=by
 intro rest
 have hN:=AX (mt:=mt) ts xs 12
 have head:∀(n:Nat)(k:Int)(t:List V),HdSt R n k t→oU mt 12 ts xs≤t.length→∃t',aj (ag Φ ext) ar (EO 5 0 6) ⟨t,[]⟩=some (if n<R.length then .normal else .exit 0,⟨t',[]⟩)∧t'.length=t.length∧HdSt R n k t':=by
  intro n k t s hl
  let t1:=(((t.set 6 (aa .i64 n)).set 7 (bv R)).set 8 (aa .i64 R.length)).set 9 (au (decide (n<R.length)))
  have e0:=getD_some s.t5
  have e1:(t.set 6 (aa .i64 n)).getD 0 (.tup [])=bv R:=(cR (by omega)).trans (getD_some s.t0)
  have e2:((t.set 6 (aa .i64 n)).set 7 (bv R)).getD 7 (.tup [])=bv R:=aA (by simp;omega)
  have e3:(((t.set 6 (aa .i64 n)).set 7 (bv R)).set 8 (aa .i64 R.length)).getD 6 (.tup [])=aa .i64 n:=(cR (by omega)).trans ((cR (by omega)).trans (aA (by omega)))
  have e4:(((t.set 6 (aa .i64 n)).set 7 (bv R)).set 8 (aa .i64 R.length)).getD 8 (.tup [])=aa .i64 R.length:=aA (by simp;omega)
  have e5:t1.getD 9 (.tup [])=au (decide (n<R.length)):=aA (by simp;omega)
  have e6:asList [] (bv R)=some R:=rfl
  have e7:decide ((n:Int)<(R.length:Int))=decide (n<R.length):=by
   by_cases h:n<R.length
   ·rw[decide_eq_true h,decide_eq_true (by omega)]
   ·rw[decide_eq_false h,decide_eq_false (by omega)]
  refine⟨t1,?_,by simp[t1],?_,?_,?_⟩
  ·simp only[EO,aj,ah,az,aI,bg,Opd.ev,e0,put,e1,e2,e6,e3,e4,bin,if_true,bD,e7]
   have e5':=e5
   simp only[t1]at e5'
   rw[e5']
   by_cases h:n<R.length
   ·simp only[isBool,h,decide_true,if_true,t1]
   ·simp only[isBool,h,decide_false,Bool.false_eq_true,if_false,t1]
  ·simp only[t1];rw[List.getElem?_set_ne (by omega),List.getElem?_set_ne (by omega),List.getElem?_set_ne (by omega),List.getElem?_set_ne (by omega)];exact s.t0
  ·simp only[t1];rw[List.getElem?_set_ne (by omega),List.getElem?_set_ne (by omega),List.getElem?_set_ne (by omega),List.getElem?_set_ne (by omega)];exact s.t1
  ·simp only[t1];rw[List.getElem?_set_ne (by omega),List.getElem?_set_ne (by omega),List.getElem?_set_ne (by omega),List.getElem?_set_ne (by omega)];exact s.t5
 induction rest with
 |nil=>
  intro done k t hRe s hr h0 hk hl
  simp only[bQ,List.append_nil]at hRe
  obtain⟨t',a1,a2,a3⟩:=head done.length k t s hl
  refine⟨t',gk ?_ (by simp),a2,by simp only[bQ];exact a3.t1⟩
  have:¬done.length<R.length:=by rw[hRe];omega
  simp only[HH,aj,a1,this,if_false]
 |cons r rest ih=>
  intro done k t hRe s hr h0 hk hl
  obtain⟨t1,a1,a2,a3⟩:=head done.length k t s hl
  simp only[bQ]at hk hRe
  have hle:=m8 mT rest (nB mT r k).2
  have hll:=yy mT r k
  have hlt:done.length<R.length:=by rw[hRe];simp
  obtain⟨t2,b1,b2,b3⟩:=Kq hT (rows:=R) (z:=ts.length) (i:=done.length) ts xs (c:=12) (dn:=[]) (row:=r) (k:=k) (t:=t1) hm (hr r (by simp)) (by rw[hRe,List.getElem?_append_right (Nat.le_refl _),Nat.sub_self];rfl) (by simp) a3 h0 (by omega) (Nat.le_refl _) (by omega)
  have hw:=jj (k:=done.length) (by unfold maxLen at hR;omega)
  let t3:=((t2.set 10 (aa .i64 done.length)).set 11 (aa .i64 ((done.length:Int)+1))).set 5 (aa .i64 ((done.length:Int)+1))
  have f0:=getD_some b3.t5
  have f1:(t2.set 10 (aa .i64 done.length)).getD 10 (.tup [])=aa .i64 done.length:=aA (by omega)
  have f2:((t2.set 10 (aa .i64 done.length)).set 11 (aa .i64 ((done.length:Int)+1))).getD 11 (.tup [])=aa .i64 ((done.length:Int)+1):=aA (by simp;omega)
  have f3:aj (ag Φ ext) ar (FN 5 10) ⟨t2,[]⟩=some (.normal,⟨t3,[]⟩):=by
   simp only[FN,aj,ah,az,aI,bg,Opd.ev,f0,put,f1,bin,if_true,bD,hw,f2,t3]
  have s3:HdSt R (done++[(nB mT r k).1]).length (nB mT r k).2 t3:=by
   have hlen1:(done++[(nB mT r k).1]).length=done.length+1:=by simp
   rw[hlen1]
   refine⟨?_,?_,?_⟩
   ·simp only[t3];rw[List.getElem?_set_ne (by omega),List.getElem?_set_ne (by omega),List.getElem?_set_ne (by omega)];exact b3.t0
   ·simp only[t3];rw[List.getElem?_set_ne (by omega),List.getElem?_set_ne (by omega),List.getElem?_set_ne (by omega)];exact b3.t1
   ·simp only[t3];exact List.getElem?_set_self (by simp;omega)
  obtain⟨t4,g1,g2,g3⟩:=ih (done++[(nB mT r k).1]) (nB mT r k).2 t3 (by rw[hRe];simp) s3 (fun r m=>hr r (by simp[m])) (by omega) hk (by simp[t3];omega)
  refine⟨t4,(fC (σ':=⟨t3,[]⟩) ?_).trans g1,by rw[g2];simp[t3];omega,by simp only[bQ];exact g3⟩
  have hb:=Ic b1
  simp only[HH,aj,a1,hlt,if_true,hb,f3]
theorem eG (hT:zF Φ ext mT mt){f:Nat}{ts:List PTy}{xs:List MC}(hk:Φ f=some (hZ mt ts xs))(hm:Ew Φ ext mT 0 ts xs):fS Φ ext mT f ts:=by
 have hN:=AX (mt:=mt) ts xs 12
 obtain⟨m,hm'⟩:∃m,oU mt 12 ts xs+1-2=m+11:=⟨oU mt 12 ts xs-12,by omega⟩
 intro rows h k h0 hk2
 obtain⟨hl1,hr⟩:=aL h
 refine eW hk ?_
 have hst:bu (hZ mt ts xs) [bv (bQ mT rows k).1,aa .i64 k]=⟨bv (bQ mT rows k).1::aa .i64 k::List.replicate (m+11) (.tup []),[]⟩:=by
  simp only[bu,hZ,List.length_cons,List.length_nil,List.cons_append,List.nil_append,hm']
 let t0:List V:=bv (bQ mT rows k).1::aa .i64 k:: .tup []:: .tup []::aa .i64 0::aa .i64 0::List.replicate (m+7) (.tup [])
 have hl0:t0.length=oU mt 12 ts xs+1:=by simp[t0];omega
 obtain⟨t',a1,a2,a3⟩:=LW hT hm (R:=(bQ mT rows k).1) (by rw[KB];exact hl1) rows [] k t0 (by simp) ⟨rfl,rfl,rfl⟩ hr h0 hk2 (by omega)
 have q1:t'.getD 1 (.tup [])=aa .i64 (bQ mT rows k).2:=getD_some a3
 have q2:(t'.set (oU mt 12 ts xs) (aa .i64 (bQ mT rows k).2)).getD (oU mt 12 ts xs) (.tup [])=aa .i64 (bQ mT rows k).2:=aA (by omega)
 have hend:aj (ag Φ ext) ar (.seq (.region [⟨some (oU mt 12 ts xs), .mv (.tmp 1),none⟩,⟨some 4, .mv (.tmp (oU mt 12 ts xs)),none⟩]) .ret) ⟨t',[]⟩=some (.ret,⟨(t'.set (oU mt 12 ts xs) (aa .i64 (bQ mT rows k).2)).set 4 (aa .i64 (bQ mT rows k).2),[]⟩):=by
  simp only[aj,ah,az,aI,bg,Opd.ev,q1,put,q2]
 have q3:((t'.set (oU mt 12 ts xs) (aa .i64 (bQ mT rows k).2)).set 4 (aa .i64 (bQ mT rows k).2)).getD 4 (.tup [])=aa .i64 (bQ mT rows k).2:=aA (by simp;omega)
 have hrun:fm Φ ext (hZ mt ts xs).body (bu (hZ mt ts xs) [bv (bQ mT rows k).1,aa .i64 k])=some (.ret,⟨(t'.set (oU mt 12 ts xs) (aa .i64 (bQ mT rows k).2)).set 4 (aa .i64 (bQ mT rows k).2),[]⟩):=by
  rw[hst]
  generalize hec:ACode.seq (.region [⟨some (oU mt 12 ts xs), .mv (.tmp 1),none⟩,⟨some 4, .mv (.tmp (oU mt 12 ts xs)),none⟩]) .ret=ec at hend
  have hrep:List.replicate (m+11) (V.tup [])= .tup []:: .tup []:: .tup []:: .tup []::List.replicate (m+7) (.tup []):=rfl
  generalize hlp:ar (aj (ag Φ ext) ar (HH mt ts xs))=lp at a1
  simp only[t0]at a1
  simp only[fm,hZ,hec,hrep,aj,ah,az,aI,bg,Opd.ev,put,List.set_cons_succ,List.set_cons_zero,hlp,a1,if_true]
  exact hend
 rw[hrun]
 simp only[done,hZ,aS,av,bx,q3,List.flatMap_cons,List.flatMap_nil,List.append_nil,V.cells,bP,comp,aK,bt]
 rfl
end
end Gi
