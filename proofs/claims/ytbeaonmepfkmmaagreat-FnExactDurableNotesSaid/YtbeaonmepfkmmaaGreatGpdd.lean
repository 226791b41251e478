/- Of this proof. -/
import Derived.Test.YtbeaonmepfkmmaaGreatGpad
set_option linter.unusedSimpArgs false
set_option linter.unusedVariables false
namespace Gi
open Go Go.RowKit
def K7 (z:Nat)(rows:List (List PV)):L:=match rows with
 |[]=> .own z []
 |rows=> .down z rows
def qg (k z:Nat)(es:List (List PV)):AObj:=match k with
 |0=> .arr z es
 |_+1=> .darr z es
theorem HM {z:Nat}{es:List (List PV)}:qg 0 z es= .arr z es:=rfl
theorem Pr {k z:Nat}{es:List (List PV)}:qg (k+1) z es= .darr z es:=rfl
theorem Ba {h:List AObj}{k z:Nat}{es:List (List PV)}(h0:h[0]? =some (qg k z es))(hb:k=0→iR es=true):aT h 0=some (z,es):=by
 cases k with
 |zero=>simp only[qg]at h0;simp only[aT,h0,hb rfl,if_true]
 |succ k=>simp only[qg]at h0;simp only[aT,h0]
theorem Bb {h:List AObj}{k z i:Nat}{es:List (List PV)}(h0:h[0]? =some (qg k z es))(hi:i<es.length):aJ h z (.one (.arr 0)) i=some (.one (.ptr 0 i 0)):=by
 cases k with
 |zero=>simp only[qg]at h0;simp[aJ,h0,hi]
 |succ k=>simp only[qg]at h0;simp[aJ,h0,hi]
theorem HV {m:Nat}{zero:List PV}(hz:zero.all PV.bare=true):iR (List.replicate m zero)=true:=by
 unfold iR
 rw[List.all_eq_true]
 intro e he
 obtain⟨_,rfl⟩:=List.mem_replicate.1 he
 exact hz
theorem tf :∀(ls:List L)(h:List AObj),ls.all L.clean=true→ls.all L.closed=true→(thawL h ls).1.all (L.mov (thawL h ls).2)=true
 |[],h,_,_=>by simp[thawL]
 |l::ls,h,hc,hk=>by
  simp only[List.all_cons,Bool.and_eq_true]at hc hk
  cases l with
  |own z es=>
   obtain⟨t,ht⟩:=ng ls (h++[.arr z es]) hc.2
   have hg:(thawL (h++[AObj.arr z es]) ls).2[h.length]? =some (.arr z es):=by rw[ht];simp
   simp only[thawL,List.all_cons,Bool.and_eq_true]
   refine⟨?_,tf ls _ hc.2 hk.2⟩
   simp only[L.mov,hg]
   exact hk.1
  |down z es=>
   obtain⟨t,ht⟩:=ng ls (h++[.darr z es]) hc.2
   have hg:(thawL (h++[AObj.darr z es]) ls).2[h.length]? =some (.darr z es):=by rw[ht];simp
   simp only[thawL,List.all_cons,Bool.and_eq_true]
   refine⟨?_,tf ls _ hc.2 hk.2⟩
   simp only[L.mov,hg]
  |pv p=>
   simp only[thawL,List.all_cons,Bool.and_eq_true]
   exact⟨hk.1,tf ls _ hc.2 hk.2⟩
  |nil=>
   simp only[thawL,List.all_cons,Bool.and_eq_true]
   exact⟨rfl,tf ls _ hc.2 hk.2⟩
  |_=>simp[L.closed]at hk
theorem zC {t:PTy}{p:PV}(h:n5 t p):(ve t p).closed=true:=by
 cases t with
 |int k=>obtain⟨n,rfl⟩:=lh h;rfl
 |bool=>obtain⟨n,rfl⟩:=j7 h;rfl
 |str=>obtain⟨n,rfl⟩:=jG h;rfl
 |lst us=>
  obtain⟨rows,rfl⟩:=mV h
  cases rows<;>rfl
theorem sP :∀{ts:List PTy}{ps:List PV},bp ts ps→(gZ ts ps).all L.closed=true
 |[],ps,_=>by simp[gZ]
 |t::ts,ps,h=>by
  obtain⟨p,r,rfl,h1,h2⟩:=dB h
  simp only[gZ,List.all_cons,zC h1,sP h2,Bool.and_self]
theorem Dd {h':List AObj}{z k:Nat}{es:List (List PV)}{e r:List PV}{ls':List L}(hd:aT h' 0=some (z,es))(hpos:0<h'.length)(he:es[k]? =some e)(hez:e.length=z)(hv:viewL h' ls'=some r)(hl:ls'.length=z)(hna:ls'.all (L.notArr 0)=true)(hm:ls'.all (L.mov h')=true)(hnd:(al ls').Nodup):
 ∃h'',storeD h' z (.one (.ptr 0 k 0)) (.agg ls')=some (.darr z (es.set k r)::h''):=by
 have hrl:r.length=z:=by rw[(lX hv).1];exact hl
 have hlen:(freezeLs h' ls').length=h'.length:=lH ls'
 cases hf:freezeLs h' ls' with
 |nil=>rw[hf]at hlen;simp at hlen;omega
 |cons x h''=>
  refine⟨h'',?_⟩
  have hv':viewL h' (V.agg ls').cells=some r:=hv
  have key:(V.agg ls').cells.length=z∧0+z≤e.length∧(V.agg ls').cells.all (L.notArr 0)=true∧(V.agg ls').cells.all (L.mov h')=true∧(al (V.agg ls').cells).Nodup:=⟨hl,by omega,hna,hm,hnd⟩
  simp only[storeD,hd,he,hv']
  rw[if_pos key,CV e r (by omega)]
  simp only[V.cells,hf]
  rfl
section
variable {Φ:Nat→Option AFn}{ext:Nat→List V→Option V}
def tM (z:Nat)(K:Ks):ACode:= .seq (ES 4 0 8) (.seq (.block 1 (.region [⟨some 14, .mv (.tmp 3),none⟩,⟨some 15, .mv (.tmp 4),none⟩,⟨some 16, .mv (.tmp 0),none⟩,⟨some 17, .mv (.tmp 4),none⟩,⟨some 18, .indexA z (.tmp 16) (.tmp 17),none⟩,⟨some 19, .load true z (.tmp 18),none⟩,⟨some 20,H7 K (.tmp 19),none⟩,⟨some 21, .indexA z (.tmp 14) (.tmp 15),none⟩,⟨none, .storeD z (.tmp 21) (.tmp 20),none⟩])) (Ge 4 12))
def Hm (bytes z:Nat)(K:Ks)(zero:List PV):AFn:=⟨23,[.tmp 2], .seq (.region [⟨some 2, .mv .nil,none⟩]) (.seq (.region [⟨some 5, .mv (.tmp 0),none⟩,⟨some 6, .len (.tmp 5),none⟩,⟨some 7, .make bytes zero (.tmp 6),none⟩,⟨some 3, .mv (.tmp 7),none⟩]) (.seq (.seq (.region [⟨some 4, .mv (.pv (.int .i64 0)),none⟩]) (.block 0 (.loop (tM z K)))) (.seq (.region [⟨some 22, .mv (.tmp 3),none⟩,⟨some 2, .mv (.tmp 22),none⟩]) .ret)))⟩
def LQ (Φ:Nat→Option AFn)(ext:Nat→List V→Option V)(K:Ks)(r:List PV):Prop:=
 ∃ls,ah Φ ext K.kt [.agg (r.map .pv)]=some (.agg ls)∧ls.all L.clean=true∧ls.all L.closed=true∧ls.map Ci=r∧(K.fl=true→ls=r.map .pv∧ls.all L.flat=true)
theorem QS {z:Nat}{K:Ks}{zero:List PV}{rows:List (List PV)}(hz:∀r∈rows,r.length=z)(hzero:zero.length=z)(hzb:zero.all PV.bare=true)(hlen:rows.length≤maxLen)(hcp:∀r∈rows,LQ Φ ext K r):∀(m k:Nat),k+m=rows.length→
 ∀(u1 u2 u5 u6 u7 x8 x9 x10 x11 x12 x13 x14 x15 x16 x17 x18 x19 x20 x21 u22:V)(extra:List AObj),
  ∃t' h',aC (au (ah Φ ext) aC (tM z K)) ⟨[aQ rows,u1,u2, .one (.arr 0),aa .i64 k,u5,u6,u7,x8,x9,x10,x11,x12,x13,x14,x15,x16,x17,x18,x19,x20,x21,u22],qg k z (rows.take k++List.replicate m zero)::extra⟩=some (.exit 0,⟨t',qg rows.length z rows::h'⟩)∧t'.length=23∧t'[3]? =some (.one (.arr 0)):=by
 intro m
 induction m with
 |zero=>
  intro k hk u1 u2 u5 u6 u7 x8 x9 x10 x11 x12 x13 x14 x15 x16 x17 x18 x19 x20 x21 u22 extra
  have hk':k=rows.length:=by omega
  subst hk'
  rw[sL]
  simp[tM,ES,au,ai,aE,aO,a9,Opd.ev,put,asList,L.view,bin,ca,isBool]
 |succ m ih=>
  intro k hk u1 u2 u5 u6 u7 x8 x9 x10 x11 x12 x13 x14 x15 x16 x17 x18 x19 x20 x21 u22 extra
  have hlt:k<rows.length:=by omega
  have hr:rows[k]? =some rows[k]:=by simp[hlt]
  have hrz:(rows[k]).length=z:=hz _ (List.getElem_mem hlt)
  obtain⟨ls,c1,c2,c5,c3,c4⟩:=hcp _ (List.getElem_mem hlt)
  have hw:=jE (k:=k) (by unfold maxLen at hlen;omega)
  have hcut:fO true z 0 ((rows[k]).map L.pv)=some (.agg ((rows[k]).map .pv)):=by
   simp[fO,hrz,List.take_of_length_le (show((rows[k]).map L.pv).length≤z by simp[hrz])]
  have hcast:((k+1:Nat):Int)=(k:Int)+1:=by omega
  have hbz:k=0→iR (rows.take k++List.replicate (m+1) zero)=true:=by
   intro e;subst e;simpa using HV hzb
  generalize hE:rows.take k++List.replicate (m+1) zero=E at*
  have hEl:k<E.length:=by rw[←hE];simp;omega
  have hat:E[k]? =some zero:=by rw[←hE];exact Sq (by omega)
  have hset':E.set k rows[k]=rows.take (k+1)++List.replicate m zero:=by rw[←hE];exact PP (by omega)
  cases hK:K.fl with
  |true=>
   obtain⟨rfl,hfl⟩:=c4 hK
   obtain⟨g,ea⟩:=Gives.pvs (qg k z E::extra) rows[k]
   obtain⟨h'',hst⟩:=Dd (h':=qg k z E::extra) (k:=k) (r:=rows[k]) (ls':=(rows[k]).map .pv) (Ba rfl hbz) (by simp) hat hzero (o8 _ _) (by simp[hrz]) (Oy _ _) (by
    rw[List.all_eq_true]at c5⊢
    intro l hl
    obtain⟨p,hp,rfl⟩:=List.mem_map.1 hl
    exact c5 _ hl) (by rw[ea];exact List.nodup_nil)
   rw[hset']at hst
   have hset:((rows[k]).map L.pv).map cN=(rows[k]).map L.pv:=by simp[cN]
   have hel:=Bb (h:=qg k z E::extra) (k:=k) (z:=z) (i:=k) (es:=E) rfl hEl
   have key:=ih (k+1) (by omega) u1 u2 u5 u6 u7 (aa .i64 k) (aQ rows) (aa .i64 rows.length) (aD true) (aa .i64 k) (aa .i64 ((k:Int)+1)) (.one (.arr 0)) (aa .i64 k) (aQ rows) (aa .i64 k) (.one (.ip rows[k] 0)) (.agg ((rows[k]).map .pv)) (.agg ((rows[k]).map .pv)) (.one (.ptr 0 k 0)) u22 h''
   obtain⟨t',h',e1,e2,e3⟩:=key
   refine⟨t',h',(fG ?_).trans e1,e2,e3⟩
   rw[hcast]
   have hip:aJ (qg k z E::extra) z (aQ rows) k=some (.one (.ip rows[k] 0)):=by simp[aJ,hlt,hrz]
   generalize hO:qg k z E=O at*
   simp[tM,ES,Ge,au,ai,aE,aO,a9,b6,Opd.ev,put,asList,L.view,bin,ca,isBool,isInt,hlt,hip,hel,hrz,bf,hcut,H7,hK,av,qP,c1,V.flat,hfl,cX,hset,hst,hw,qg]
  |false=>
   obtain⟨t,ht⟩:=ng ls (qg k z E::extra) c2
   have hv:=qO ls (qg k z E::extra) c2
   have hna:=nh ls (qg k z E::extra) 0 c2 (by simp)
   have hll:=(ki ls (qg k z E::extra) c2).1
   have hmv:=tf ls (qg k z E::extra) c2 c5
   have hnd:=(o7 ls (qg k z E::extra) c2).1.nodup
   have hlz:ls.length=z:=by rw[←hrz,←c3];simp
   rw[c3]at hv
   generalize hth:thawL (qg k z E::extra) ls=th at*
   obtain⟨ls',h1⟩:=th
   simp only at ht hv hna hll hmv hnd
   have hh0:h1[0]? =some (qg k z E):=by rw[ht];rfl
   obtain⟨h'',hst⟩:=Dd (h':=h1) (k:=k) (r:=rows[k]) (ls':=ls') (Ba hh0 hbz) (by rw[ht];simp) hat hzero hv (by rw[hll,hlz]) hna hmv hnd
   rw[hset']at hst
   have hel:=Bb (h:=h1) (k:=k) (z:=z) (i:=k) (es:=E) hh0 hEl
   have key:=ih (k+1) (by omega) u1 u2 u5 u6 u7 (aa .i64 k) (aQ rows) (aa .i64 rows.length) (aD true) (aa .i64 k) (aa .i64 ((k:Int)+1)) (.one (.arr 0)) (aa .i64 k) (aQ rows) (aa .i64 k) (.one (.ip rows[k] 0)) (.agg ((rows[k]).map .pv)) (.agg ls') (.one (.ptr 0 k 0)) u22 h''
   obtain⟨t',h',e1,e2,e3⟩:=key
   refine⟨t',h',(fG ?_).trans e1,e2,e3⟩
   rw[hcast]
   have hip:aJ (qg k z E::extra) z (aQ rows) k=some (.one (.ip rows[k] 0)):=by simp[aJ,hlt,hrz]
   generalize hO:qg k z E=O at*
   simp[tM,ES,Ge,au,ai,aE,aO,a9,b6,Opd.ev,put,asList,L.view,bin,ca,isBool,isInt,hlt,hip,hel,hrz,bf,hcut,H7,hK,av,qP,c1,thaw,hth,zq,hst,hw,qg]
theorem To {k bytes z:Nat}{K:Ks}{zero:List PV}{rows:List (List PV)}(hk:Φ k=some (Hm bytes z K zero))(hz:∀r∈rows,r.length=z)(hz0:0<z)(hzero:zero.length=z)(hzb:zero.all PV.bare=true)(hlen:rows.length≤maxLen)(hb:(rows.length:Int)*bytes≤140737488355328)(hcp:∀r∈rows,LQ Φ ext K r):
 ah Φ ext k [aQ rows]=some (.one (K7 z rows)):=by
 refine eB hk ?_
 obtain⟨t',h',e1,e2,e3⟩:=QS (Φ:=Φ) (ext:=ext) hz hzero hzb hlen hcp rows.length 0 (by omega) (.tup []) (.one .nil) (aQ rows) (aa .i64 rows.length) (.one (.arr 0)) (.tup []) (.tup []) (.tup []) (.tup []) (.tup []) (.tup []) (.tup []) (.tup []) (.tup []) (.tup []) (.tup []) (.tup []) (.tup []) (.tup []) (.tup []) []
 simp only[List.take_zero,List.nil_append,show((0:Nat):Int)=0 from rfl,HM]at e1
 have hl63:(rows.length:Int)≤9223372036854775807:=by unfold maxLen at hlen;omega
 obtain⟨_,e4⟩:=List.getElem?_eq_some_iff.1 e3
 generalize hF:au (ah Φ ext) aC (tM z K)=F at e1
 have e5:bv (qg rows.length z rows::h') (.arr 0)=some (K7 z rows):=by cases rows<;>simp[bv,qg,K7]
 generalize hO:qg rows.length z rows=O at*
 simp[Hm,start,fB,au,hF,ai,aE,aO,a9,b6,Opd.ev,put,asList,L.view,isInt,hb,hl63,hzero,hz0,e1,done,aR,aw,cq,bE,comp,aK,e5,al,e2,e4,V.cells]
def xg :ACode:= .seq (ES 4 0 8) (.seq (.block 1 (.region [⟨some 14, .mv (.tmp 3),none⟩,⟨some 15, .mv (.tmp 4),none⟩,⟨some 16, .mv (.tmp 0),none⟩,⟨some 17, .mv (.tmp 4),none⟩,⟨some 18, .indexA 1 (.tmp 16) (.tmp 17),none⟩,⟨some 19, .load false 1 (.tmp 18),none⟩,⟨some 20, .indexA 1 (.tmp 14) (.tmp 15),none⟩,⟨none, .storeD 1 (.tmp 20) (.tmp 19),none⟩])) (Ge 4 12))
def Tz (bytes:Nat)(zero:PV):AFn:=⟨22,[.tmp 2], .seq (.region [⟨some 2, .mv .nil,none⟩]) (.seq (.region [⟨some 5, .mv (.tmp 0),none⟩,⟨some 6, .len (.tmp 5),none⟩,⟨some 7, .make bytes [zero] (.tmp 6),none⟩,⟨some 3, .mv (.tmp 7),none⟩]) (.seq (.seq (.region [⟨some 4, .mv (.pv (.int .i64 0)),none⟩]) (.block 0 (.loop xg))) (.seq (.region [⟨some 21, .mv (.tmp 3),none⟩,⟨some 2, .mv (.tmp 21),none⟩]) .ret)))⟩
theorem QT {zero:PV}{rows:List (List PV)}(hz:∀r∈rows,∃q:PV,r=[q]∧q.bare=true)(hzb:zero.bare=true)(hlen:rows.length≤maxLen):∀(m k:Nat),k+m=rows.length→
 ∀(u1 u2 u5 u6 u7 x8 x9 x10 x11 x12 x13 x14 x15 x16 x17 x18 x19 x20 u21:V)(extra:List AObj),
  ∃t' h',aC (au (ah Φ ext) aC xg) ⟨[aQ rows,u1,u2, .one (.arr 0),aa .i64 k,u5,u6,u7,x8,x9,x10,x11,x12,x13,x14,x15,x16,x17,x18,x19,x20,u21],qg k 1 (rows.take k++List.replicate m [zero])::extra⟩=some (.exit 0,⟨t',qg rows.length 1 rows::h'⟩)∧t'.length=22∧t'[3]? =some (.one (.arr 0)):=by
 intro m
 induction m with
 |zero=>
  intro k hk u1 u2 u5 u6 u7 x8 x9 x10 x11 x12 x13 x14 x15 x16 x17 x18 x19 x20 u21 extra
  have hk':k=rows.length:=by omega
  subst hk'
  rw[sL]
  simp[xg,ES,au,ai,aE,aO,a9,Opd.ev,put,asList,L.view,bin,ca,isBool]
 |succ m ih=>
  intro k hk u1 u2 u5 u6 u7 x8 x9 x10 x11 x12 x13 x14 x15 x16 x17 x18 x19 x20 u21 extra
  have hlt:k<rows.length:=by omega
  obtain⟨q,hq,hqb⟩:=hz _ (List.getElem_mem hlt)
  have hw:=jE (k:=k) (by unfold maxLen at hlen;omega)
  have hcut:fO false 1 0 [L.pv q]=some (.one (.pv q)):=by simp[fO]
  have hcast:((k+1:Nat):Int)=(k:Int)+1:=by omega
  have hbz:k=0→iR (rows.take k++List.replicate (m+1) [zero])=true:=by
   intro e;subst e;simpa using HV (m:=m+1) (zero:=[zero]) (by simp[hzb])
  generalize hE:rows.take k++List.replicate (m+1) [zero]=E at*
  have hEl:k<E.length:=by rw[←hE];simp;omega
  have hat:E[k]? =some [zero]:=by rw[←hE];exact Sq (by omega)
  have hset':E.set k rows[k]=rows.take (k+1)++List.replicate m [zero]:=by rw[←hE];exact PP (by omega)
  rw[hq]at hset'
  have hdp:=Ba (h:=qg k 1 E::extra) rfl hbz
  have hst:storeD (qg k 1 E::extra) 1 (.one (.ptr 0 k 0)) (.one (.pv q))=some (qg (k+1) 1 (rows.take (k+1)++List.replicate m [zero])::extra):=by
   simp[storeD,hdp,hat,V.cells,viewL,L.view,L.notArr,L.mov,hqb,al,freezeLs,freezeL,putAt,hset',Pr]
  have hel:=Bb (h:=qg k 1 E::extra) (k:=k) (z:=1) (i:=k) (es:=E) rfl hEl
  obtain⟨t',h',g1,g2⟩:=ih (k+1) (by omega) u1 u2 u5 u6 u7 (aa .i64 k) (aQ rows) (aa .i64 rows.length) (aD true) (aa .i64 k) (aa .i64 ((k:Int)+1)) (.one (.arr 0)) (aa .i64 k) (aQ rows) (aa .i64 k) (.one (.ip [q] 0)) (.one (.pv q)) (.one (.ptr 0 k 0)) u21 extra
  refine⟨t',h',(fG ?_).trans g1,g2⟩
  rw[hcast]
  have hip:aJ (qg k 1 E::extra) 1 (aQ rows) k=some (.one (.ip [q] 0)):=by simp[aJ,hlt,hq]
  generalize hO:qg k 1 E=O at*
  generalize hO':qg (k+1) 1 (rows.take (k+1)++List.replicate m [zero])=O' at*
  simp[xg,ES,Ge,au,ai,aE,aO,a9,b6,Opd.ev,put,asList,L.view,bin,ca,isBool,isInt,hlt,hip,hel,bf,hcut,hst,hw]
theorem Tp {k bytes:Nat}{zero:PV}{rows:List (List PV)}(hk:Φ k=some (Tz bytes zero))(hz:∀r∈rows,∃q:PV,r=[q]∧q.bare=true)(hzb:zero.bare=true)(hlen:rows.length≤maxLen)(hb:(rows.length:Int)*bytes≤140737488355328):
 ah Φ ext k [aQ rows]=some (.one (K7 1 rows)):=by
 refine eB hk ?_
 obtain⟨t',h',e1,e2,e3⟩:=QT (Φ:=Φ) (ext:=ext) (zero:=zero) hz hzb hlen rows.length 0 (by omega) (.tup []) (.one .nil) (aQ rows) (aa .i64 rows.length) (.one (.arr 0)) (.tup []) (.tup []) (.tup []) (.tup []) (.tup []) (.tup []) (.tup []) (.tup []) (.tup []) (.tup []) (.tup []) (.tup []) (.tup []) (.tup []) []
 simp only[List.take_zero,List.nil_append,show((0:Nat):Int)=0 from rfl,HM]at e1
 have hl63:(rows.length:Int)≤9223372036854775807:=by unfold maxLen at hlen;omega
 obtain⟨_,e4⟩:=List.getElem?_eq_some_iff.1 e3
 generalize hF:au (ah Φ ext) aC xg=F at e1
 have e5:bv (qg rows.length 1 rows::h') (.arr 0)=some (K7 1 rows):=by cases rows<;>simp[bv,qg,K7]
 generalize hO:qg rows.length 1 rows=O at*
 simp[Tz,start,fB,au,hF,ai,aE,aO,a9,b6,Opd.ev,put,asList,L.view,isInt,hb,hl63,e1,done,aR,aw,cq,bE,comp,aK,e5,al,e2,e4,V.cells]
theorem I9 (ts:List PTy)(rows:List (List PV)):ve (.lst ts) (.lst rows)=(K7 ts.length rows):=by cases rows<;>rfl
theorem ic {k bytes z:Nat}{K:Ks}{ts:List PTy}{zero:List PV}(hk:Φ k=some (Hm bytes z K zero))(hz:ts.length=z)(hzero:zero.length=z)(hzb:zero.all PV.bare=true)(hz0:0<z)(hb:bytes≤134217728)(hx:jH Φ ext K.kt ts)(hfl:K.fl=true→ts.all PTy.flatT=true):jW Φ ext k ts:=by
 intro rows h hs
 obtain⟨hl,hr⟩:=aS h
 have hn:rows.length≤1048576:=Nat.le_trans (Nat.le_add_right _ (cU rows)) (by rw[←k6];exact hs)
 rw[I9,hz]
 refine To hk (fun r m=>by rw[jp (hr r m),hz]) hz0 hzero hzb hl ?_ (fun r m=> ?_)
 ·have:=Nat.mul_le_mul hn hb
  omega
 ·refine⟨_,hx r (hr r m) (Ti m hs),vf _ _,sP (hr r m),zD (hr r m),fun hf=> ?_⟩
  obtain⟨e1,e2⟩:=qC (hfl hf) (hr r m)
  exact⟨e1,by rw[e1];exact e2⟩
theorem Hn {k bytes:Nat}{t:PTy}{zero:PV}(hk:Φ k=some (Tz bytes zero))(hzb:zero.bare=true)(ht:t.flatT=true)(hb:bytes≤134217728):jW Φ ext k [t]:=by
 intro rows h hs
 obtain⟨hl,hr⟩:=aS h
 have hn:rows.length≤1048576:=Nat.le_trans (Nat.le_add_right _ (cU rows)) (by rw[←k6];exact hs)
 rw[I9]
 refine Tp hk (fun r m=> ?_) hzb hl ?_
 ·obtain⟨q,r',rfl,h1,h2⟩:=dB (hr r m)
  obtain rfl:=eV h2
  refine⟨q,rfl,?_⟩
  have:=zC h1
  rw[wg ht h1]at this
  exact this
 ·have:=Nat.mul_le_mul hn hb
  omega
end
end Gi
