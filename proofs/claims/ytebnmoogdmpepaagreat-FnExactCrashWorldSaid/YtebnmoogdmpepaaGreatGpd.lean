/- Of this proof. -/
import Derived.Test.YtebnmoogdmpepaaGreatGpa
set_option linter.unusedSimpArgs false
set_option linter.unusedVariables false
namespace Gi
open Go Go.RowKit
def M9 (z:Nat)(rows:List (List PV)):L:=match rows with
 |[]=> .own z []
 |rows=> .down z rows
def rz (k z:Nat)(es:List (List PV)):AObj:=match k with
 |0=> .arr z es
 |_+1=> .darr z es
theorem J7 {z:Nat}{es:List (List PV)}:rz 0 z es= .arr z es:=rfl
theorem QS {k z:Nat}{es:List (List PV)}:rz (k+1) z es= .darr z es:=rfl
theorem DJ {h:List AObj}{k z:Nat}{es:List (List PV)}(h0:h[0]? =some (rz k z es))(hb:k=0→eS es=true):aX h 0=some (z,es):=by
 cases k with
 |zero=>simp only[rz]at h0;simp only[aX,h0,hb rfl,if_true]
 |succ k=>simp only[rz]at h0;simp only[aX,h0]
theorem DK {h:List AObj}{k z i:Nat}{es:List (List PV)}(h0:h[0]? =some (rz k z es))(hi:i<es.length):aG h z (.one (.arr 0)) i=some (.one (.ptr 0 i 0)):=by
 cases k with
 |zero=>simp only[rz]at h0;simp[aG,h0,hi]
 |succ k=>simp only[rz]at h0;simp[aG,h0,hi]
theorem Ka {m:Nat}{zero:List PV}(hz:zero.all PV.bare=true):eS (List.replicate m zero)=true:=by
 unfold eS
 rw[Zw]
 intro e he
 obtain⟨_,rfl⟩:=List.mem_replicate.1 he
 exact hz
theorem vd :∀(ls:List L)(h:List AObj),ls.all L.clean=true→ls.all L.closed=true→(thawL h ls).1.all (L.mov (thawL h ls).2)=true
 |[],h,_,_=>by simp[thawL]
 |l::ls,h,hc,hk=>by
  simp only[Zq,Zm]at hc hk
  cases l with
  |own z es=>
   obtain⟨t,ht⟩:=om ls (h++[.arr z es]) hc.2
   have hg:(thawL (h++[AObj.arr z es]) ls).2[h.length]? =some (.arr z es):=by rw[ht];simp
   simp only[thawL,Zq,Zm]
   refine⟨?_,vd ls _ hc.2 hk.2⟩
   simp only[L.mov,hg]
   exact hk.1
  |down z es=>
   obtain⟨t,ht⟩:=om ls (h++[.darr z es]) hc.2
   have hg:(thawL (h++[AObj.darr z es]) ls).2[h.length]? =some (.darr z es):=by rw[ht];simp
   simp only[thawL,Zq,Zm]
   refine⟨?_,vd ls _ hc.2 hk.2⟩
   simp only[L.mov,hg]
  |pv p=>
   simp only[thawL,Zq,Zm]
   exact⟨hk.1,vd ls _ hc.2 hk.2⟩
  |nil=>
   simp only[thawL,Zq,Zm]
   exact⟨rfl,vd ls _ hc.2 hk.2⟩
  |_=>simp[L.closed]at hk
theorem B4 {t:PTy}{p:PV}(h:nQ t p):(mS t p).closed=true:=by
 cases t with
 |int k=>obtain⟨n,rfl⟩:=ma h;rfl
 |bool=>obtain⟨n,rfl⟩:=kL h;rfl
 |str=>obtain⟨n,rfl⟩:=mb h;rfl
 |lst us=>
  obtain⟨rows,rfl⟩:=nR h
  cases rows<;>rfl
theorem qL :∀{ts:List PTy}{ps:List PV},bi ts ps→(gD ts ps).all L.closed=true
 |[],ps,_=>by simp[gD]
 |t::ts,ps,h=>by
  obtain⟨p,r,rfl,h1,h2⟩:=eA h
  simp only[gD,Zq,B4 h1,qL h2,Yr]
theorem FT {h':List AObj}{z k:Nat}{es:List (List PV)}{e r:List PV}{ls':List L}(hd:aX h' 0=some (z,es))(hpos:0<h'.length)(he:es[k]? =some e)(hez:e.length=z)(hv:viewL h' ls'=some r)(hl:ls'.length=z)(hna:ls'.all (L.notArr 0)=true)(hm:ls'.all (L.mov h')=true)(hnd:(al ls').Nodup):
 ∃h'',storeD h' z (.one (.ptr 0 k 0)) (.agg ls')=some (.darr z (es.set k r)::h''):=by
 have hrl:r.length=z:=by rw[(mX hv).1];exact hl
 have hlen:(freezeLs h' ls').length=h'.length:=mM ls'
 cases hf:freezeLs h' ls' with
 |nil=>rw[hf]at hlen;simp at hlen;omega
 |cons x h''=>
  refine⟨h'',?_⟩
  have hv':viewL h' (V.agg ls').cells=some r:=hv
  have key:(V.agg ls').cells.length=z∧0+z≤e.length∧(V.agg ls').cells.all (L.notArr 0)=true∧(V.agg ls').cells.all (L.mov h')=true∧(al (V.agg ls').cells).Nodup:=⟨hl,by omega,hna,hm,hnd⟩
  simp only[storeD,hd,he,hv']
  rw[if_pos key,FA e r (by omega)]
  simp only[V.cells,hf]
  rfl
section
variable {Φ:Nat→Option AFn}{ext:Nat→List V→Option V}
def vB (z:Nat)(K:Ks):ACode:= .seq (BS 4 0 8) (.seq (.block 1 (.region [⟨some 14, .mv (.tmp 3),none⟩,⟨some 15, .mv (.tmp 4),none⟩,⟨some 16, .mv (.tmp 0),none⟩,⟨some 17, .mv (.tmp 4),none⟩,⟨some 18, .indexA z (.tmp 16) (.tmp 17),none⟩,⟨some 19, .load true z (.tmp 18),none⟩,⟨some 20,Kj K (.tmp 19),none⟩,⟨some 21, .indexA z (.tmp 14) (.tmp 15),none⟩,⟨none, .storeD z (.tmp 21) (.tmp 20),none⟩])) (IZ 4 12))
def JH (bytes z:Nat)(K:Ks)(zero:List PV):AFn:=⟨23,[.tmp 2], .seq (.region [⟨some 2, .mv .nil,none⟩]) (.seq (.region [⟨some 5, .mv (.tmp 0),none⟩,⟨some 6, .len (.tmp 5),none⟩,⟨some 7, .make bytes zero (.tmp 6),none⟩,⟨some 3, .mv (.tmp 7),none⟩]) (.seq (.seq (.region [⟨some 4, .mv (.pv (.int .i64 0)),none⟩]) (.block 0 (.loop (vB z K)))) (.seq (.region [⟨some 22, .mv (.tmp 3),none⟩,⟨some 2, .mv (.tmp 22),none⟩]) .ret)))⟩
def NL (Φ:Nat→Option AFn)(ext:Nat→List V→Option V)(K:Ks)(r:List PV):Prop:=
 ∃ls,ah Φ ext K.kt [.agg (r.map .pv)]=some (.agg ls)∧ls.all L.clean=true∧ls.all L.closed=true∧ls.map EW=r∧(K.fl=true→ls=r.map .pv∧ls.all L.flat=true)
theorem Sc {z:Nat}{K:Ks}{zero:List PV}{rows:List (List PV)}(hz:∀r∈rows,r.length=z)(hzero:zero.length=z)(hzb:zero.all PV.bare=true)(hlen:rows.length≤maxLen)(hcp:∀r∈rows,NL Φ ext K r):∀(m k:Nat),k+m=rows.length→
 ∀(u1 u2 u5 u6 u7 x8 x9 x10 x11 x12 x13 x14 x15 x16 x17 x18 x19 x20 x21 u22:V)(extra:List AObj),
  ∃t' h',aB (aq (ah Φ ext) aB (vB z K)) ⟨[ba rows,u1,u2, .one (.arr 0),aa .i64 k,u5,u6,u7,x8,x9,x10,x11,x12,x13,x14,x15,x16,x17,x18,x19,x20,x21,u22],rz k z (rows.take k++List.replicate m zero)::extra⟩=some (.exit 0,⟨t',rz rows.length z rows::h'⟩)∧t'.length=23∧t'[3]? =some (.one (.arr 0)):=by
 intro m
 induction m with
 |zero=>
  intro k hk u1 u2 u5 u6 u7 x8 x9 x10 x11 x12 x13 x14 x15 x16 x17 x18 x19 x20 x21 u22 extra
  have hk':k=rows.length:=by omega
  subst hk'
  rw[uJ]
  simp[vB,BS,aq,ai,az,aK,bj,Opd.ev,put,asList,L.view,bin,bV,isBool]
 |succ m ih=>
  intro k hk u1 u2 u5 u6 u7 x8 x9 x10 x11 x12 x13 x14 x15 x16 x17 x18 x19 x20 x21 u22 extra
  have hlt:k<rows.length:=by omega
  have hr:rows[k]? =some rows[k]:=by simp[hlt]
  have hrz:(rows[k]).length=z:=hz _ (Zg hlt)
  obtain⟨ls,c1,c2,c5,c3,c4⟩:=hcp _ (Zg hlt)
  have hw:=j4 (k:=k) (by unfold maxLen at hlen;omega)
  have hcut:gn true z 0 ((rows[k]).map L.pv)=some (.agg ((rows[k]).map .pv)):=by
   simp[gn,hrz,Zt (show((rows[k]).map L.pv).length≤z by simp[hrz])]
  have hcast:((k+1:Nat):Int)=(k:Int)+1:=by omega
  have hbz:k=0→eS (rows.take k++List.replicate (m+1) zero)=true:=by
   intro e;subst e;simpa using Ka hzb
  generalize hE:rows.take k++List.replicate (m+1) zero=E at*
  have hEl:k<E.length:=by rw[←hE];simp;omega
  have hat:E[k]? =some zero:=by rw[←hE];exact Ty (by omega)
  have hset':E.set k rows[k]=rows.take (k+1)++List.replicate m zero:=by rw[←hE];exact Rj (by omega)
  cases hK:K.fl with
  |true=>
   obtain⟨rfl,hfl⟩:=c4 hK
   obtain⟨g,ea⟩:=Gives.pvs (rz k z E::extra) rows[k]
   obtain⟨h'',hst⟩:=FT (h':=rz k z E::extra) (k:=k) (r:=rows[k]) (ls':=(rows[k]).map .pv) (DJ rfl hbz) (by simp) hat hzero (qt _ _) (by simp[hrz]) (P3 _ _) (by
    rw[Zw]at c5⊢
    intro l hl
    obtain⟨p,hp,rfl⟩:=Yo.1 hl
    exact c5 _ hl) (by rw[ea];exact List.nodup_nil)
   rw[hset']at hst
   have hset:((rows[k]).map L.pv).map di=(rows[k]).map L.pv:=by simp[di]
   have hel:=DK (h:=rz k z E::extra) (k:=k) (z:=z) (i:=k) (es:=E) rfl hEl
   have key:=ih (k+1) (by omega) u1 u2 u5 u6 u7 (aa .i64 k) (ba rows) (aa .i64 rows.length) (av true) (aa .i64 k) (aa .i64 ((k:Int)+1)) (.one (.arr 0)) (aa .i64 k) (ba rows) (aa .i64 k) (.one (.ip rows[k] 0)) (.agg ((rows[k]).map .pv)) (.agg ((rows[k]).map .pv)) (.one (.ptr 0 k 0)) u22 h''
   obtain⟨t',h',e1,e2,e3⟩:=key
   refine⟨t',h',(f7 ?_).trans e1,e2,e3⟩
   rw[hcast]
   have hip:aG (rz k z E::extra) z (ba rows) k=some (.one (.ip rows[k] 0)):=by simp[aG,hlt,hrz]
   generalize hO:rz k z E=O at*
   simp[vB,BS,IZ,aq,ai,az,aK,bj,cf,Opd.ev,put,asList,L.view,bin,bV,isBool,isInt,hlt,hip,hel,hrz,bo,hcut,Kj,hK,am,sC,c1,V.flat,hfl,dO,hset,hst,hw,rz]
  |false=>
   obtain⟨t,ht⟩:=om ls (rz k z E::extra) c2
   have hv:=sB ls (rz k z E::extra) c2
   have hna:=oq ls (rz k z E::extra) 0 c2 (by simp)
   have hll:=(kV ls (rz k z E::extra) c2).1
   have hmv:=vd ls (rz k z E::extra) c2 c5
   have hnd:=(qr ls (rz k z E::extra) c2).1.nodup
   have hlz:ls.length=z:=by rw[←hrz,←c3];simp
   rw[c3]at hv
   generalize hth:thawL (rz k z E::extra) ls=th at*
   obtain⟨ls',h1⟩:=th
   simp only at ht hv hna hll hmv hnd
   have hh0:h1[0]? =some (rz k z E):=by rw[ht];rfl
   obtain⟨h'',hst⟩:=FT (h':=h1) (k:=k) (r:=rows[k]) (ls':=ls') (DJ hh0 hbz) (by rw[ht];simp) hat hzero hv (by rw[hll,hlz]) hna hmv hnd
   rw[hset']at hst
   have hel:=DK (h:=h1) (k:=k) (z:=z) (i:=k) (es:=E) hh0 hEl
   have key:=ih (k+1) (by omega) u1 u2 u5 u6 u7 (aa .i64 k) (ba rows) (aa .i64 rows.length) (av true) (aa .i64 k) (aa .i64 ((k:Int)+1)) (.one (.arr 0)) (aa .i64 k) (ba rows) (aa .i64 k) (.one (.ip rows[k] 0)) (.agg ((rows[k]).map .pv)) (.agg ls') (.one (.ptr 0 k 0)) u22 h''
   obtain⟨t',h',e1,e2,e3⟩:=key
   refine⟨t',h',(f7 ?_).trans e1,e2,e3⟩
   rw[hcast]
   have hip:aG (rz k z E::extra) z (ba rows) k=some (.one (.ip rows[k] 0)):=by simp[aG,hlt,hrz]
   generalize hO:rz k z E=O at*
   simp[vB,BS,IZ,aq,ai,az,aK,bj,cf,Opd.ev,put,asList,L.view,bin,bV,isBool,isInt,hlt,hip,hel,hrz,bo,hcut,Kj,hK,am,sC,c1,thaw,hth,BQ,hst,hw,rz]
theorem Uj {k bytes z:Nat}{K:Ks}{zero:List PV}{rows:List (List PV)}(hk:Φ k=some (JH bytes z K zero))(hz:∀r∈rows,r.length=z)(hz0:0<z)(hzero:zero.length=z)(hzb:zero.all PV.bare=true)(hlen:rows.length≤maxLen)(hb:(rows.length:Int)*bytes≤140737488355328)(hcp:∀r∈rows,NL Φ ext K r):
 ah Φ ext k [ba rows]=some (.one (M9 z rows)):=by
 refine fC hk ?_
 obtain⟨t',h',e1,e2,e3⟩:=Sc (Φ:=Φ) (ext:=ext) hz hzero hzb hlen hcp rows.length 0 (by omega) (.tup []) (.one .nil) (ba rows) (aa .i64 rows.length) (.one (.arr 0)) (.tup []) (.tup []) (.tup []) (.tup []) (.tup []) (.tup []) (.tup []) (.tup []) (.tup []) (.tup []) (.tup []) (.tup []) (.tup []) (.tup []) (.tup []) []
 simp only[Ya,Zi,show((0:Nat):Int)=0 from rfl,J7]at e1
 have hl63:(rows.length:Int)≤9223372036854775807:=by unfold maxLen at hlen;omega
 obtain⟨_,e4⟩:=Zb.1 e3
 generalize hF:aq (ah Φ ext) aB (vB z K)=F at e1
 have e5:bH (rz rows.length z rows::h') (.arr 0)=some (M9 z rows):=by cases rows<;>simp[bH,rz,M9]
 generalize hO:rz rows.length z rows=O at*
 simp[JH,start,fL,aq,hF,ai,az,aK,bj,cf,Opd.ev,put,asList,L.view,isInt,hb,hl63,hzero,hz0,e1,done,aY,ar,bQ,bM,comp,aJ,e5,al,e2,e4,V.cells]
def zM :ACode:= .seq (BS 4 0 8) (.seq (.block 1 (.region [⟨some 14, .mv (.tmp 3),none⟩,⟨some 15, .mv (.tmp 4),none⟩,⟨some 16, .mv (.tmp 0),none⟩,⟨some 17, .mv (.tmp 4),none⟩,⟨some 18, .indexA 1 (.tmp 16) (.tmp 17),none⟩,⟨some 19, .load false 1 (.tmp 18),none⟩,⟨some 20, .indexA 1 (.tmp 14) (.tmp 15),none⟩,⟨none, .storeD 1 (.tmp 20) (.tmp 19),none⟩])) (IZ 4 12))
def Ut (bytes:Nat)(zero:PV):AFn:=⟨22,[.tmp 2], .seq (.region [⟨some 2, .mv .nil,none⟩]) (.seq (.region [⟨some 5, .mv (.tmp 0),none⟩,⟨some 6, .len (.tmp 5),none⟩,⟨some 7, .make bytes [zero] (.tmp 6),none⟩,⟨some 3, .mv (.tmp 7),none⟩]) (.seq (.seq (.region [⟨some 4, .mv (.pv (.int .i64 0)),none⟩]) (.block 0 (.loop zM))) (.seq (.region [⟨some 21, .mv (.tmp 3),none⟩,⟨some 2, .mv (.tmp 21),none⟩]) .ret)))⟩
theorem Sd {zero:PV}{rows:List (List PV)}(hz:∀r∈rows,∃q:PV,r=[q]∧q.bare=true)(hzb:zero.bare=true)(hlen:rows.length≤maxLen):∀(m k:Nat),k+m=rows.length→
 ∀(u1 u2 u5 u6 u7 x8 x9 x10 x11 x12 x13 x14 x15 x16 x17 x18 x19 x20 u21:V)(extra:List AObj),
  ∃t' h',aB (aq (ah Φ ext) aB zM) ⟨[ba rows,u1,u2, .one (.arr 0),aa .i64 k,u5,u6,u7,x8,x9,x10,x11,x12,x13,x14,x15,x16,x17,x18,x19,x20,u21],rz k 1 (rows.take k++List.replicate m [zero])::extra⟩=some (.exit 0,⟨t',rz rows.length 1 rows::h'⟩)∧t'.length=22∧t'[3]? =some (.one (.arr 0)):=by
 intro m
 induction m with
 |zero=>
  intro k hk u1 u2 u5 u6 u7 x8 x9 x10 x11 x12 x13 x14 x15 x16 x17 x18 x19 x20 u21 extra
  have hk':k=rows.length:=by omega
  subst hk'
  rw[uJ]
  simp[zM,BS,aq,ai,az,aK,bj,Opd.ev,put,asList,L.view,bin,bV,isBool]
 |succ m ih=>
  intro k hk u1 u2 u5 u6 u7 x8 x9 x10 x11 x12 x13 x14 x15 x16 x17 x18 x19 x20 u21 extra
  have hlt:k<rows.length:=by omega
  obtain⟨q,hq,hqb⟩:=hz _ (Zg hlt)
  have hw:=j4 (k:=k) (by unfold maxLen at hlen;omega)
  have hcut:gn false 1 0 [L.pv q]=some (.one (.pv q)):=by simp[gn]
  have hcast:((k+1:Nat):Int)=(k:Int)+1:=by omega
  have hbz:k=0→eS (rows.take k++List.replicate (m+1) [zero])=true:=by
   intro e;subst e;simpa using Ka (m:=m+1) (zero:=[zero]) (by simp[hzb])
  generalize hE:rows.take k++List.replicate (m+1) [zero]=E at*
  have hEl:k<E.length:=by rw[←hE];simp;omega
  have hat:E[k]? =some [zero]:=by rw[←hE];exact Ty (by omega)
  have hset':E.set k rows[k]=rows.take (k+1)++List.replicate m [zero]:=by rw[←hE];exact Rj (by omega)
  rw[hq]at hset'
  have hdp:=DJ (h:=rz k 1 E::extra) rfl hbz
  have hst:storeD (rz k 1 E::extra) 1 (.one (.ptr 0 k 0)) (.one (.pv q))=some (rz (k+1) 1 (rows.take (k+1)++List.replicate m [zero])::extra):=by
   simp[storeD,hdp,hat,V.cells,viewL,L.view,L.notArr,L.mov,hqb,al,freezeLs,freezeL,putAt,hset',QS]
  have hel:=DK (h:=rz k 1 E::extra) (k:=k) (z:=1) (i:=k) (es:=E) rfl hEl
  obtain⟨t',h',g1,g2⟩:=ih (k+1) (by omega) u1 u2 u5 u6 u7 (aa .i64 k) (ba rows) (aa .i64 rows.length) (av true) (aa .i64 k) (aa .i64 ((k:Int)+1)) (.one (.arr 0)) (aa .i64 k) (ba rows) (aa .i64 k) (.one (.ip [q] 0)) (.one (.pv q)) (.one (.ptr 0 k 0)) u21 extra
  refine⟨t',h',(f7 ?_).trans g1,g2⟩
  rw[hcast]
  have hip:aG (rz k 1 E::extra) 1 (ba rows) k=some (.one (.ip [q] 0)):=by simp[aG,hlt,hq]
  generalize hO:rz k 1 E=O at*
  generalize hO':rz (k+1) 1 (rows.take (k+1)++List.replicate m [zero])=O' at*
  simp[zM,BS,IZ,aq,ai,az,aK,bj,cf,Opd.ev,put,asList,L.view,bin,bV,isBool,isInt,hlt,hip,hel,bo,hcut,hst,hw]
theorem Uk {k bytes:Nat}{zero:PV}{rows:List (List PV)}(hk:Φ k=some (Ut bytes zero))(hz:∀r∈rows,∃q:PV,r=[q]∧q.bare=true)(hzb:zero.bare=true)(hlen:rows.length≤maxLen)(hb:(rows.length:Int)*bytes≤140737488355328):
 ah Φ ext k [ba rows]=some (.one (M9 1 rows)):=by
 refine fC hk ?_
 obtain⟨t',h',e1,e2,e3⟩:=Sd (Φ:=Φ) (ext:=ext) (zero:=zero) hz hzb hlen rows.length 0 (by omega) (.tup []) (.one .nil) (ba rows) (aa .i64 rows.length) (.one (.arr 0)) (.tup []) (.tup []) (.tup []) (.tup []) (.tup []) (.tup []) (.tup []) (.tup []) (.tup []) (.tup []) (.tup []) (.tup []) (.tup []) (.tup []) []
 simp only[Ya,Zi,show((0:Nat):Int)=0 from rfl,J7]at e1
 have hl63:(rows.length:Int)≤9223372036854775807:=by unfold maxLen at hlen;omega
 obtain⟨_,e4⟩:=Zb.1 e3
 generalize hF:aq (ah Φ ext) aB zM=F at e1
 have e5:bH (rz rows.length 1 rows::h') (.arr 0)=some (M9 1 rows):=by cases rows<;>simp[bH,rz,M9]
 generalize hO:rz rows.length 1 rows=O at*
 simp[Ut,start,fL,aq,hF,ai,az,aK,bj,cf,Opd.ev,put,asList,L.view,isInt,hb,hl63,e1,done,aY,ar,bQ,bM,comp,aJ,e5,al,e2,e4,V.cells]
theorem Lf (ts:List PTy)(rows:List (List PV)):mS (.lst ts) (.lst rows)=(M9 ts.length rows):=by cases rows<;>rfl
theorem iz {k bytes z:Nat}{K:Ks}{ts:List PTy}{zero:List PV}(hk:Φ k=some (JH bytes z K zero))(hz:ts.length=z)(hzero:zero.length=z)(hzb:zero.all PV.bare=true)(hz0:0<z)(hb:bytes≤134217728)(hx:j6 Φ ext K.kt ts)(hfl:K.fl=true→ts.all PTy.flatT=true):kq Φ ext k ts:=by
 intro rows h hs
 obtain⟨hl,hr⟩:=aL h
 have hn:rows.length≤1048576:=Zc (Xq _ (bI rows)) (by rw[←ik];exact hs)
 rw[Lf,hz]
 refine Uj hk (fun r m=>by rw[jM (hr r m),hz]) hz0 hzero hzb hl ?_ (fun r m=> ?_)
 ·have:=Nat.mul_le_mul hn hb
  omega
 ·refine⟨_,hx r (hr r m) (Ue m hs),xu _ _,qL (hr r m),B5 (hr r m),fun hf=> ?_⟩
  obtain⟨e1,e2⟩:=si (hfl hf) (hr r m)
  exact⟨e1,by rw[e1];exact e2⟩
theorem JI {k bytes:Nat}{t:PTy}{zero:PV}(hk:Φ k=some (Ut bytes zero))(hzb:zero.bare=true)(ht:t.flatT=true)(hb:bytes≤134217728):kq Φ ext k [t]:=by
 intro rows h hs
 obtain⟨hl,hr⟩:=aL h
 have hn:rows.length≤1048576:=Zc (Xq _ (bI rows)) (by rw[←ik];exact hs)
 rw[Lf]
 refine Uk hk (fun r m=> ?_) hzb hl ?_
 ·obtain⟨q,r',rfl,h1,h2⟩:=eA (hr r m)
  obtain rfl:=fR h2
  refine⟨q,rfl,?_⟩
  have:=B4 h1
  rw[yC ht h1]at this
  exact this
 ·have:=Nat.mul_le_mul hn hb
  omega
end
end Gi
