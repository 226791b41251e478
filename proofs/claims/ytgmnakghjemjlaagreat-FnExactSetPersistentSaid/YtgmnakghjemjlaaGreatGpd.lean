/- Of this proof. -/
import Derived.Test.YtgmnakghjemjlaaGreatGpa
set_option linter.unusedSimpArgs false
set_option linter.unusedVariables false
namespace Gi
open Go Go.RowKit
def JC (z:Nat)(rows:List (List PV)):L:=match rows with
 |[]=> .own z []
 |rows=> .down z rows
def pH (k z:Nat)(es:List (List PV)):AObj:=match k with
 |0=> .arr z es
 |_+1=> .darr z es
theorem G2 {z:Nat}{es:List (List PV)}:pH 0 z es= .arr z es:=rfl
theorem MW {k z:Nat}{es:List (List PV)}:pH (k+1) z es= .darr z es:=rfl
theorem A7 {h:List AObj}{k z:Nat}{es:List (List PV)}(h0:h[0]? =some (pH k z es))(hb:k=0→iy es=true):bc h 0=some (z,es):=by
 cases k with
 |zero=>simp only[pH]at h0;simp only[bc,h0,hb rfl,if_true]
 |succ k=>simp only[pH]at h0;simp only[bc,h0]
theorem A8 {h:List AObj}{k z i:Nat}{es:List (List PV)}(h0:h[0]? =some (pH k z es))(hi:i<es.length):aJ h z (.one (.arr 0)) i=some (.one (.ptr 0 i 0)):=by
 cases k with
 |zero=>simp only[pH]at h0;simp[aJ,h0,hi]
 |succ k=>simp only[pH]at h0;simp[aJ,h0,hi]
theorem G4 {m:Nat}{zero:List PV}(hz:zero.all PV.bare=true):iy (List.replicate m zero)=true:=by
 unfold iy
 rw[List.all_eq_true]
 intro e he
 obtain⟨_,rfl⟩:=List.mem_replicate.1 he
 exact hz
theorem sj :∀(ls:List L)(h:List AObj),ls.all L.clean=true→ls.all L.closed=true→(thawL h ls).1.all (L.mov (thawL h ls).2)=true
 |[],h,_,_=>by simp[thawL]
 |l::ls,h,hc,hk=>by
  simp only[List.all_cons,Bool.and_eq_true]at hc hk
  cases l with
  |own z es=>
   obtain⟨t,ht⟩:=mI ls (h++[.arr z es]) hc.2
   have hg:(thawL (h++[AObj.arr z es]) ls).2[h.length]? =some (.arr z es):=by rw[ht];simp
   simp only[thawL,List.all_cons,Bool.and_eq_true]
   refine⟨?_,sj ls _ hc.2 hk.2⟩
   simp only[L.mov,hg]
   exact hk.1
  |down z es=>
   obtain⟨t,ht⟩:=mI ls (h++[.darr z es]) hc.2
   have hg:(thawL (h++[AObj.darr z es]) ls).2[h.length]? =some (.darr z es):=by rw[ht];simp
   simp only[thawL,List.all_cons,Bool.and_eq_true]
   refine⟨?_,sj ls _ hc.2 hk.2⟩
   simp only[L.mov,hg]
  |pv p=>
   simp only[thawL,List.all_cons,Bool.and_eq_true]
   exact⟨hk.1,sj ls _ hc.2 hk.2⟩
  |nil=>
   simp only[thawL,List.all_cons,Bool.and_eq_true]
   exact⟨rfl,sj ls _ hc.2 hk.2⟩
  |_=>simp[L.closed]at hk
theorem zp {t:PTy}{p:PV}(h:ni t p):(uz t p).closed=true:=by
 cases t with
 |int k=>obtain⟨n,rfl⟩:=kM h;rfl
 |bool=>obtain⟨n,rfl⟩:=jL h;rfl
 |str=>obtain⟨n,rfl⟩:=jl h;rfl
 |lst us=>
  obtain⟨rows,rfl⟩:=mA h
  cases rows<;>rfl
theorem rV :∀{ts:List PTy}{ps:List PV},ba ts ps→(gA ts ps).all L.closed=true
 |[],ps,_=>by simp[gA]
 |t::ts,ps,h=>by
  obtain⟨p,r,rfl,h1,h2⟩:=dw h
  simp only[gA,List.all_cons,zp h1,rV h2,Bool.and_self]
theorem C6 {h':List AObj}{z k:Nat}{es:List (List PV)}{e r:List PV}{ls':List L}(hd:bc h' 0=some (z,es))(hpos:0<h'.length)(he:es[k]? =some e)(hez:e.length=z)(hv:viewL h' ls'=some r)(hl:ls'.length=z)(hna:ls'.all (L.notArr 0)=true)(hm:ls'.all (L.mov h')=true)(hnd:(ai ls').Nodup):
 ∃h'',storeD h' z (.one (.ptr 0 k 0)) (.agg ls')=some (.darr z (es.set k r)::h''):=by
 have hrl:r.length=z:=by rw[(lG hv).1];exact hl
 have hlen:(freezeLs h' ls').length=h'.length:=lw ls'
 cases hf:freezeLs h' ls' with
 |nil=>rw[hf]at hlen;simp at hlen;omega
 |cons x h''=>
  refine⟨h'',?_⟩
  have hv':viewL h' (V.agg ls').cells=some r:=hv
  have key:(V.agg ls').cells.length=z∧0+z≤e.length∧(V.agg ls').cells.all (L.notArr 0)=true∧(V.agg ls').cells.all (L.mov h')=true∧(ai (V.agg ls').cells).Nodup:=⟨hl,by omega,hna,hm,hnd⟩
  simp only[storeD,hd,he,hv']
  rw[if_pos key,CL e r (by omega)]
  simp only[V.cells,hf]
  rfl
section
variable {Φ:Nat→Option AFn}{ext:Nat→List V→Option V}
def sO (z:Nat)(K:Ks):ACode:= .seq (EO 4 0 8) (.seq (.block 1 (.region [⟨some 14, .mv (.tmp 3),none⟩,⟨some 15, .mv (.tmp 4),none⟩,⟨some 16, .mv (.tmp 0),none⟩,⟨some 17, .mv (.tmp 4),none⟩,⟨some 18, .indexA z (.tmp 16) (.tmp 17),none⟩,⟨some 19, .load true z (.tmp 18),none⟩,⟨some 20,Hd K (.tmp 19),none⟩,⟨some 21, .indexA z (.tmp 14) (.tmp 15),none⟩,⟨none, .storeD z (.tmp 21) (.tmp 20),none⟩])) (FN 4 12))
def GE (bytes z:Nat)(K:Ks)(zero:List PV):AFn:=⟨23,[.tmp 2], .seq (.region [⟨some 2, .mv .nil,none⟩]) (.seq (.region [⟨some 5, .mv (.tmp 0),none⟩,⟨some 6, .len (.tmp 5),none⟩,⟨some 7, .make bytes zero (.tmp 6),none⟩,⟨some 3, .mv (.tmp 7),none⟩]) (.seq (.seq (.region [⟨some 4, .mv (.pv (.int .i64 0)),none⟩]) (.block 0 (.loop (sO z K)))) (.seq (.region [⟨some 22, .mv (.tmp 3),none⟩,⟨some 2, .mv (.tmp 22),none⟩]) .ret)))⟩
def J9 (Φ:Nat→Option AFn)(ext:Nat→List V→Option V)(K:Ks)(r:List PV):Prop:=
 ∃ls,ag Φ ext K.kt [.agg (r.map .pv)]=some (.agg ls)∧ls.all L.clean=true∧ls.all L.closed=true∧ls.map Ce=r∧(K.fl=true→ls=r.map .pv∧ls.all L.flat=true)
theorem NY {z:Nat}{K:Ks}{zero:List PV}{rows:List (List PV)}(hz:∀r∈rows,r.length=z)(hzero:zero.length=z)(hzb:zero.all PV.bare=true)(hlen:rows.length≤maxLen)(hcp:∀r∈rows,J9 Φ ext K r):∀(m k:Nat),k+m=rows.length→
 ∀(u1 u2 u5 u6 u7 x8 x9 x10 x11 x12 x13 x14 x15 x16 x17 x18 x19 x20 x21 u22:V)(extra:List AObj),
  ∃t' h',ar (aj (ag Φ ext) ar (sO z K)) ⟨[bv rows,u1,u2, .one (.arr 0),aa .i64 k,u5,u6,u7,x8,x9,x10,x11,x12,x13,x14,x15,x16,x17,x18,x19,x20,x21,u22],pH k z (rows.take k++List.replicate m zero)::extra⟩=some (.exit 0,⟨t',pH rows.length z rows::h'⟩)∧t'.length=23∧t'[3]? =some (.one (.arr 0)):=by
 intro m
 induction m with
 |zero=>
  intro k hk u1 u2 u5 u6 u7 x8 x9 x10 x11 x12 x13 x14 x15 x16 x17 x18 x19 x20 x21 u22 extra
  have hk':k=rows.length:=by omega
  subst hk'
  rw[rI]
  simp[sO,EO,aj,ah,az,aI,bg,Opd.ev,put,asList,L.view,bin,bD,isBool]
 |succ m ih=>
  intro k hk u1 u2 u5 u6 u7 x8 x9 x10 x11 x12 x13 x14 x15 x16 x17 x18 x19 x20 x21 u22 extra
  have hlt:k<rows.length:=by omega
  have hr:rows[k]? =some rows[k]:=by simp[hlt]
  have hrz:(rows[k]).length=z:=hz _ (List.getElem_mem hlt)
  obtain⟨ls,c1,c2,c5,c3,c4⟩:=hcp _ (List.getElem_mem hlt)
  have hw:=jj (k:=k) (by unfold maxLen at hlen;omega)
  have hcut:f9 true z 0 ((rows[k]).map L.pv)=some (.agg ((rows[k]).map .pv)):=by
   simp[f9,hrz,List.take_of_length_le (show((rows[k]).map L.pv).length≤z by simp[hrz])]
  have hcast:((k+1:Nat):Int)=(k:Int)+1:=by omega
  have hbz:k=0→iy (rows.take k++List.replicate (m+1) zero)=true:=by
   intro e;subst e;simpa using G4 hzb
  generalize hE:rows.take k++List.replicate (m+1) zero=E at*
  have hEl:k<E.length:=by rw[←hE];simp;omega
  have hat:E[k]? =some zero:=by rw[←hE];exact O8 (by omega)
  have hset':E.set k rows[k]=rows.take (k+1)++List.replicate m zero:=by rw[←hE];exact Ni (by omega)
  cases hK:K.fl with
  |true=>
   obtain⟨rfl,hfl⟩:=c4 hK
   obtain⟨g,ea⟩:=Gives.pvs (pH k z E::extra) rows[k]
   obtain⟨h'',hst⟩:=C6 (h':=pH k z E::extra) (k:=k) (r:=rows[k]) (ls':=(rows[k]).map .pv) (A7 rfl hbz) (by simp) hat hzero (oQ _ _) (by simp[hrz]) (L8 _ _) (by
    rw[List.all_eq_true]at c5⊢
    intro l hl
    obtain⟨p,hp,rfl⟩:=List.mem_map.1 hl
    exact c5 _ hl) (by rw[ea];exact List.nodup_nil)
   rw[hset']at hst
   have hset:((rows[k]).map L.pv).map du=(rows[k]).map L.pv:=by simp[du]
   have hel:=A8 (h:=pH k z E::extra) (k:=k) (z:=z) (i:=k) (es:=E) rfl hEl
   have key:=ih (k+1) (by omega) u1 u2 u5 u6 u7 (aa .i64 k) (bv rows) (aa .i64 rows.length) (au true) (aa .i64 k) (aa .i64 ((k:Int)+1)) (.one (.arr 0)) (aa .i64 k) (bv rows) (aa .i64 k) (.one (.ip rows[k] 0)) (.agg ((rows[k]).map .pv)) (.agg ((rows[k]).map .pv)) (.one (.ptr 0 k 0)) u22 h''
   obtain⟨t',h',e1,e2,e3⟩:=key
   refine⟨t',h',(fC ?_).trans e1,e2,e3⟩
   rw[hcast]
   have hip:aJ (pH k z E::extra) z (bv rows) k=some (.one (.ip rows[k] 0)):=by simp[aJ,hlt,hrz]
   generalize hO:pH k z E=O at*
   simp[sO,EO,FN,aj,ah,az,aI,bg,bX,Opd.ev,put,asList,L.view,bin,bD,isBool,isInt,hlt,hip,hel,hrz,bn,hcut,Hd,hK,ap,qb,c1,V.flat,hfl,dL,hset,hst,hw,pH]
  |false=>
   obtain⟨t,ht⟩:=mI ls (pH k z E::extra) c2
   have hv:=qa ls (pH k z E::extra) c2
   have hna:=mJ ls (pH k z E::extra) 0 c2 (by simp)
   have hll:=(jT ls (pH k z E::extra) c2).1
   have hmv:=sj ls (pH k z E::extra) c2 c5
   have hnd:=(oP ls (pH k z E::extra) c2).1.nodup
   have hlz:ls.length=z:=by rw[←hrz,←c3];simp
   rw[c3]at hv
   generalize hth:thawL (pH k z E::extra) ls=th at*
   obtain⟨ls',h1⟩:=th
   simp only at ht hv hna hll hmv hnd
   have hh0:h1[0]? =some (pH k z E):=by rw[ht];rfl
   obtain⟨h'',hst⟩:=C6 (h':=h1) (k:=k) (r:=rows[k]) (ls':=ls') (A7 hh0 hbz) (by rw[ht];simp) hat hzero hv (by rw[hll,hlz]) hna hmv hnd
   rw[hset']at hst
   have hel:=A8 (h:=h1) (k:=k) (z:=z) (i:=k) (es:=E) hh0 hEl
   have key:=ih (k+1) (by omega) u1 u2 u5 u6 u7 (aa .i64 k) (bv rows) (aa .i64 rows.length) (au true) (aa .i64 k) (aa .i64 ((k:Int)+1)) (.one (.arr 0)) (aa .i64 k) (bv rows) (aa .i64 k) (.one (.ip rows[k] 0)) (.agg ((rows[k]).map .pv)) (.agg ls') (.one (.ptr 0 k 0)) u22 h''
   obtain⟨t',h',e1,e2,e3⟩:=key
   refine⟨t',h',(fC ?_).trans e1,e2,e3⟩
   rw[hcast]
   have hip:aJ (pH k z E::extra) z (bv rows) k=some (.one (.ip rows[k] 0)):=by simp[aJ,hlt,hrz]
   generalize hO:pH k z E=O at*
   simp[sO,EO,FN,aj,ah,az,aI,bg,bX,Opd.ev,put,asList,L.view,bin,bD,isBool,isInt,hlt,hip,hel,hrz,bn,hcut,Hd,hK,ap,qb,c1,thaw,hth,ze,hst,hw,pH]
theorem PI {k bytes z:Nat}{K:Ks}{zero:List PV}{rows:List (List PV)}(hk:Φ k=some (GE bytes z K zero))(hz:∀r∈rows,r.length=z)(hz0:0<z)(hzero:zero.length=z)(hzb:zero.all PV.bare=true)(hlen:rows.length≤maxLen)(hb:(rows.length:Int)*bytes≤140737488355328)(hcp:∀r∈rows,J9 Φ ext K r):
 ag Φ ext k [bv rows]=some (.one (JC z rows)):=by
 refine eW hk ?_
 obtain⟨t',h',e1,e2,e3⟩:=NY (Φ:=Φ) (ext:=ext) hz hzero hzb hlen hcp rows.length 0 (by omega) (.tup []) (.one .nil) (bv rows) (aa .i64 rows.length) (.one (.arr 0)) (.tup []) (.tup []) (.tup []) (.tup []) (.tup []) (.tup []) (.tup []) (.tup []) (.tup []) (.tup []) (.tup []) (.tup []) (.tup []) (.tup []) (.tup []) []
 simp only[List.take_zero,List.nil_append,show((0:Nat):Int)=0 from rfl,G2]at e1
 have hl63:(rows.length:Int)≤9223372036854775807:=by unfold maxLen at hlen;omega
 obtain⟨_,e4⟩:=List.getElem?_eq_some_iff.1 e3
 generalize hF:aj (ag Φ ext) ar (sO z K)=F at e1
 have e5:bt (pH rows.length z rows::h') (.arr 0)=some (JC z rows):=by cases rows<;>simp[bt,pH,JC]
 generalize hO:pH rows.length z rows=O at*
 simp[GE,bu,fm,aj,hF,ah,az,aI,bg,bX,Opd.ev,put,asList,L.view,isInt,hb,hl63,hzero,hz0,e1,done,aS,av,bx,bP,comp,aK,e5,ai,e2,e4,V.cells]
def wU :ACode:= .seq (EO 4 0 8) (.seq (.block 1 (.region [⟨some 14, .mv (.tmp 3),none⟩,⟨some 15, .mv (.tmp 4),none⟩,⟨some 16, .mv (.tmp 0),none⟩,⟨some 17, .mv (.tmp 4),none⟩,⟨some 18, .indexA 1 (.tmp 16) (.tmp 17),none⟩,⟨some 19, .load false 1 (.tmp 18),none⟩,⟨some 20, .indexA 1 (.tmp 14) (.tmp 15),none⟩,⟨none, .storeD 1 (.tmp 20) (.tmp 19),none⟩])) (FN 4 12))
def PS (bytes:Nat)(zero:PV):AFn:=⟨22,[.tmp 2], .seq (.region [⟨some 2, .mv .nil,none⟩]) (.seq (.region [⟨some 5, .mv (.tmp 0),none⟩,⟨some 6, .len (.tmp 5),none⟩,⟨some 7, .make bytes [zero] (.tmp 6),none⟩,⟨some 3, .mv (.tmp 7),none⟩]) (.seq (.seq (.region [⟨some 4, .mv (.pv (.int .i64 0)),none⟩]) (.block 0 (.loop wU))) (.seq (.region [⟨some 21, .mv (.tmp 3),none⟩,⟨some 2, .mv (.tmp 21),none⟩]) .ret)))⟩
theorem NZ {zero:PV}{rows:List (List PV)}(hz:∀r∈rows,∃q:PV,r=[q]∧q.bare=true)(hzb:zero.bare=true)(hlen:rows.length≤maxLen):∀(m k:Nat),k+m=rows.length→
 ∀(u1 u2 u5 u6 u7 x8 x9 x10 x11 x12 x13 x14 x15 x16 x17 x18 x19 x20 u21:V)(extra:List AObj),
  ∃t' h',ar (aj (ag Φ ext) ar wU) ⟨[bv rows,u1,u2, .one (.arr 0),aa .i64 k,u5,u6,u7,x8,x9,x10,x11,x12,x13,x14,x15,x16,x17,x18,x19,x20,u21],pH k 1 (rows.take k++List.replicate m [zero])::extra⟩=some (.exit 0,⟨t',pH rows.length 1 rows::h'⟩)∧t'.length=22∧t'[3]? =some (.one (.arr 0)):=by
 intro m
 induction m with
 |zero=>
  intro k hk u1 u2 u5 u6 u7 x8 x9 x10 x11 x12 x13 x14 x15 x16 x17 x18 x19 x20 u21 extra
  have hk':k=rows.length:=by omega
  subst hk'
  rw[rI]
  simp[wU,EO,aj,ah,az,aI,bg,Opd.ev,put,asList,L.view,bin,bD,isBool]
 |succ m ih=>
  intro k hk u1 u2 u5 u6 u7 x8 x9 x10 x11 x12 x13 x14 x15 x16 x17 x18 x19 x20 u21 extra
  have hlt:k<rows.length:=by omega
  obtain⟨q,hq,hqb⟩:=hz _ (List.getElem_mem hlt)
  have hw:=jj (k:=k) (by unfold maxLen at hlen;omega)
  have hcut:f9 false 1 0 [L.pv q]=some (.one (.pv q)):=by simp[f9]
  have hcast:((k+1:Nat):Int)=(k:Int)+1:=by omega
  have hbz:k=0→iy (rows.take k++List.replicate (m+1) [zero])=true:=by
   intro e;subst e;simpa using G4 (m:=m+1) (zero:=[zero]) (by simp[hzb])
  generalize hE:rows.take k++List.replicate (m+1) [zero]=E at*
  have hEl:k<E.length:=by rw[←hE];simp;omega
  have hat:E[k]? =some [zero]:=by rw[←hE];exact O8 (by omega)
  have hset':E.set k rows[k]=rows.take (k+1)++List.replicate m [zero]:=by rw[←hE];exact Ni (by omega)
  rw[hq]at hset'
  have hdp:=A7 (h:=pH k 1 E::extra) rfl hbz
  have hst:storeD (pH k 1 E::extra) 1 (.one (.ptr 0 k 0)) (.one (.pv q))=some (pH (k+1) 1 (rows.take (k+1)++List.replicate m [zero])::extra):=by
   simp[storeD,hdp,hat,V.cells,viewL,L.view,L.notArr,L.mov,hqb,ai,freezeLs,freezeL,putAt,hset',MW]
  have hel:=A8 (h:=pH k 1 E::extra) (k:=k) (z:=1) (i:=k) (es:=E) rfl hEl
  obtain⟨t',h',g1,g2⟩:=ih (k+1) (by omega) u1 u2 u5 u6 u7 (aa .i64 k) (bv rows) (aa .i64 rows.length) (au true) (aa .i64 k) (aa .i64 ((k:Int)+1)) (.one (.arr 0)) (aa .i64 k) (bv rows) (aa .i64 k) (.one (.ip [q] 0)) (.one (.pv q)) (.one (.ptr 0 k 0)) u21 extra
  refine⟨t',h',(fC ?_).trans g1,g2⟩
  rw[hcast]
  have hip:aJ (pH k 1 E::extra) 1 (bv rows) k=some (.one (.ip [q] 0)):=by simp[aJ,hlt,hq]
  generalize hO:pH k 1 E=O at*
  generalize hO':pH (k+1) 1 (rows.take (k+1)++List.replicate m [zero])=O' at*
  simp[wU,EO,FN,aj,ah,az,aI,bg,bX,Opd.ev,put,asList,L.view,bin,bD,isBool,isInt,hlt,hip,hel,bn,hcut,hst,hw]
theorem PJ {k bytes:Nat}{zero:PV}{rows:List (List PV)}(hk:Φ k=some (PS bytes zero))(hz:∀r∈rows,∃q:PV,r=[q]∧q.bare=true)(hzb:zero.bare=true)(hlen:rows.length≤maxLen)(hb:(rows.length:Int)*bytes≤140737488355328):
 ag Φ ext k [bv rows]=some (.one (JC 1 rows)):=by
 refine eW hk ?_
 obtain⟨t',h',e1,e2,e3⟩:=NZ (Φ:=Φ) (ext:=ext) (zero:=zero) hz hzb hlen rows.length 0 (by omega) (.tup []) (.one .nil) (bv rows) (aa .i64 rows.length) (.one (.arr 0)) (.tup []) (.tup []) (.tup []) (.tup []) (.tup []) (.tup []) (.tup []) (.tup []) (.tup []) (.tup []) (.tup []) (.tup []) (.tup []) (.tup []) []
 simp only[List.take_zero,List.nil_append,show((0:Nat):Int)=0 from rfl,G2]at e1
 have hl63:(rows.length:Int)≤9223372036854775807:=by unfold maxLen at hlen;omega
 obtain⟨_,e4⟩:=List.getElem?_eq_some_iff.1 e3
 generalize hF:aj (ag Φ ext) ar wU=F at e1
 have e5:bt (pH rows.length 1 rows::h') (.arr 0)=some (JC 1 rows):=by cases rows<;>simp[bt,pH,JC]
 generalize hO:pH rows.length 1 rows=O at*
 simp[PS,bu,fm,aj,hF,ah,az,aI,bg,bX,Opd.ev,put,asList,L.view,isInt,hb,hl63,e1,done,aS,av,bx,bP,comp,aK,e5,ai,e2,e4,V.cells]
theorem H0 (ts:List PTy)(rows:List (List PV)):uz (.lst ts) (.lst rows)=(JC ts.length rows):=by cases rows<;>rfl
theorem gM {k bytes z:Nat}{K:Ks}{ts:List PTy}{zero:List PV}(hk:Φ k=some (GE bytes z K zero))(hz:ts.length=z)(hzero:zero.length=z)(hzb:zero.all PV.bare=true)(hz0:0<z)(hb:bytes≤134217728)(hx:jm Φ ext K.kt ts)(hfl:K.fl=true→ts.all PTy.flatT=true):jz Φ ext k ts:=by
 intro rows h hs
 obtain⟨hl,hr⟩:=aL h
 have hn:rows.length≤1048576:=Nat.le_trans (Nat.le_add_right _ (cC rows)) (by rw[←jJ];exact hs)
 rw[H0,hz]
 refine PI hk (fun r m=>by rw[i9 (hr r m),hz]) hz0 hzero hzb hl ?_ (fun r m=> ?_)
 ·have:=Nat.mul_le_mul hn hb
  omega
 ·refine⟨_,hx r (hr r m) (PD m hs),uA _ _,rV (hr r m),zq (hr r m),fun hf=> ?_⟩
  obtain⟨e1,e2⟩:=pX (hfl hf) (hr r m)
  exact⟨e1,by rw[e1];exact e2⟩
theorem GF {k bytes:Nat}{t:PTy}{zero:PV}(hk:Φ k=some (PS bytes zero))(hzb:zero.bare=true)(ht:t.flatT=true)(hb:bytes≤134217728):jz Φ ext k [t]:=by
 intro rows h hs
 obtain⟨hl,hr⟩:=aL h
 have hn:rows.length≤1048576:=Nat.le_trans (Nat.le_add_right _ (cC rows)) (by rw[←jJ];exact hs)
 rw[H0]
 refine PJ hk (fun r m=> ?_) hzb hl ?_
 ·obtain⟨q,r',rfl,h1,h2⟩:=dw (hr r m)
  obtain rfl:=eU h2
  refine⟨q,rfl,?_⟩
  have:=zp h1
  rw[vX ht h1]at this
  exact this
 ·have:=Nat.mul_le_mul hn hb
  omega
end
end Gi
