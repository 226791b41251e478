/- Of this proof. -/
import Derived.Test.YtpfadfkomcbecaaGreatGpa
set_option linter.unusedSimpArgs false
set_option linter.unusedVariables false
namespace Gi
open Go Go.RowKit
def Ly (z:Nat)(rows:List (List PV)):L:=match rows with
 |[]=> .own z []
 |rows=> .down z rows
def qp (k z:Nat)(es:List (List PV)):AObj:=match k with
 |0=> .arr z es
 |_+1=> .darr z es
theorem II {z:Nat}{es:List (List PV)}:qp 0 z es= .arr z es:=rfl
theorem O7 {k z:Nat}{es:List (List PV)}:qp (k+1) z es= .darr z es:=rfl
theorem Cg {h:List AObj}{k z:Nat}{es:List (List PV)}(h0:h[0]? =some (qp k z es))(hb:k=0→iM es=true):a9 h 0=some (z,es):=by
 cases k with
 |zero=>simp only[qp]at h0;simp only[a9,h0,hb rfl,if_true]
 |succ k=>simp only[qp]at h0;simp only[a9,h0]
theorem Ci {h:List AObj}{k z i:Nat}{es:List (List PV)}(h0:h[0]? =some (qp k z es))(hi:i<es.length):aJ h z (.one (.arr 0)) i=some (.one (.ptr 0 i 0)):=by
 cases k with
 |zero=>simp only[qp]at h0;simp[aJ,h0,hi]
 |succ k=>simp only[qp]at h0;simp[aJ,h0,hi]
theorem IL {m:Nat}{zero:List PV}(hz:zero.all PV.bare=true):iM (List.replicate m zero)=true:=by
 unfold iM
 rw[List.all_eq_true]
 intro e he
 obtain⟨_,rfl⟩:=List.mem_replicate.1 he
 exact hz
theorem tm :∀(ls:List L)(h:List AObj),ls.all L.clean=true→ls.all L.closed=true→(thawL h ls).1.all (L.mov (thawL h ls).2)=true
 |[],h,_,_=>by simp[thawL]
 |l::ls,h,hc,hk=>by
  simp only[List.all_cons,Bool.and_eq_true]at hc hk
  cases l with
  |own z es=>
   obtain⟨t,ht⟩:=np ls (h++[.arr z es]) hc.2
   have hg:(thawL (h++[AObj.arr z es]) ls).2[h.length]? =some (.arr z es):=by rw[ht];simp
   simp only[thawL,List.all_cons,Bool.and_eq_true]
   refine⟨?_,tm ls _ hc.2 hk.2⟩
   simp only[L.mov,hg]
   exact hk.1
  |down z es=>
   obtain⟨t,ht⟩:=np ls (h++[.darr z es]) hc.2
   have hg:(thawL (h++[AObj.darr z es]) ls).2[h.length]? =some (.darr z es):=by rw[ht];simp
   simp only[thawL,List.all_cons,Bool.and_eq_true]
   refine⟨?_,tm ls _ hc.2 hk.2⟩
   simp only[L.mov,hg]
  |pv p=>
   simp only[thawL,List.all_cons,Bool.and_eq_true]
   exact⟨hk.1,tm ls _ hc.2 hk.2⟩
  |nil=>
   simp only[thawL,List.all_cons,Bool.and_eq_true]
   exact⟨rfl,tm ls _ hc.2 hk.2⟩
  |_=>simp[L.closed]at hk
theorem AG {t:PTy}{p:PV}(h:nv t p):(vU t p).closed=true:=by
 cases t with
 |int k=>obtain⟨n,rfl⟩:=km h;rfl
 |bool=>obtain⟨n,rfl⟩:=j9 h;rfl
 |str=>obtain⟨n,rfl⟩:=lu h;rfl
 |lst us=>
  obtain⟨rows,rfl⟩:=ng h
  cases rows<;>rfl
theorem sR :∀{ts:List PTy}{ps:List PV},aZ ts ps→(gQ ts ps).all L.closed=true
 |[],ps,_=>by simp[gQ]
 |t::ts,ps,h=>by
  obtain⟨p,r,rfl,h1,h2⟩:=dI h
  simp only[gQ,List.all_cons,AG h1,sR h2,Bool.and_self]
theorem Ep {h':List AObj}{z k:Nat}{es:List (List PV)}{e r:List PV}{ls':List L}(hd:a9 h' 0=some (z,es))(hpos:0<h'.length)(he:es[k]? =some e)(hez:e.length=z)(hv:viewL h' ls'=some r)(hl:ls'.length=z)(hna:ls'.all (L.notArr 0)=true)(hm:ls'.all (L.mov h')=true)(hnd:(ai ls').Nodup):
 ∃h'',storeD h' z (.one (.ptr 0 k 0)) (.agg ls')=some (.darr z (es.set k r)::h''):=by
 have hrl:r.length=z:=by rw[(mz hv).1];exact hl
 have hlen:(freezeLs h' ls').length=h'.length:=ma ls'
 cases hf:freezeLs h' ls' with
 |nil=>rw[hf]at hlen;simp at hlen;omega
 |cons x h''=>
  refine⟨h'',?_⟩
  have hv':viewL h' (V.agg ls').cells=some r:=hv
  have key:(V.agg ls').cells.length=z∧0+z≤e.length∧(V.agg ls').cells.all (L.notArr 0)=true∧(V.agg ls').cells.all (L.mov h')=true∧(ai (V.agg ls').cells).Nodup:=⟨hl,by omega,hna,hm,hnd⟩
  simp only[storeD,hd,he,hv']
  rw[if_pos key,D6 e r (by omega)]
  simp only[V.cells,hf]
  rfl
section
variable {Φ:Nat→Option AFn}{ext:Nat→List V→Option V}
def tP (z:Nat)(K:Ks):ACode:= .seq (Gq 4 0 8) (.seq (.block 1 (.region [⟨some 14, .mv (.tmp 3),none⟩,⟨some 15, .mv (.tmp 4),none⟩,⟨some 16, .mv (.tmp 0),none⟩,⟨some 17, .mv (.tmp 4),none⟩,⟨some 18, .indexA z (.tmp 16) (.tmp 17),none⟩,⟨some 19, .load true z (.tmp 18),none⟩,⟨some 20,IU K (.tmp 19),none⟩,⟨some 21, .indexA z (.tmp 14) (.tmp 15),none⟩,⟨none, .storeD z (.tmp 21) (.tmp 20),none⟩])) (Hq 4 12))
def Ii (bytes z:Nat)(K:Ks)(zero:List PV):AFn:=⟨23,[.tmp 2], .seq (.region [⟨some 2, .mv .nil,none⟩]) (.seq (.region [⟨some 5, .mv (.tmp 0),none⟩,⟨some 6, .len (.tmp 5),none⟩,⟨some 7, .make bytes zero (.tmp 6),none⟩,⟨some 3, .mv (.tmp 7),none⟩]) (.seq (.seq (.region [⟨some 4, .mv (.pv (.int .i64 0)),none⟩]) (.block 0 (.loop (tP z K)))) (.seq (.region [⟨some 22, .mv (.tmp 3),none⟩,⟨some 2, .mv (.tmp 22),none⟩]) .ret)))⟩
def L8 (Φ:Nat→Option AFn)(ext:Nat→List V→Option V)(K:Ks)(r:List PV):Prop:=
 ∃ls,ag Φ ext K.kt [.agg (r.map .pv)]=some (.agg ls)∧ls.all L.clean=true∧ls.all L.closed=true∧ls.map Dw=r∧(K.fl=true→ls=r.map .pv∧ls.all L.flat=true)
theorem Qg {z:Nat}{K:Ks}{zero:List PV}{rows:List (List PV)}(hz:∀r∈rows,r.length=z)(hzero:zero.length=z)(hzb:zero.all PV.bare=true)(hlen:rows.length≤maxLen)(hcp:∀r∈rows,L8 Φ ext K r):∀(m k:Nat),k+m=rows.length→
 ∀(u1 u2 u5 u6 u7 x8 x9 x10 x11 x12 x13 x14 x15 x16 x17 x18 x19 x20 x21 u22:V)(extra:List AObj),
  ∃t' h',av (aj (ag Φ ext) av (tP z K)) ⟨[bu rows,u1,u2, .one (.arr 0),aa .i64 k,u5,u6,u7,x8,x9,x10,x11,x12,x13,x14,x15,x16,x17,x18,x19,x20,x21,u22],qp k z (rows.take k++List.replicate m zero)::extra⟩=some (.exit 0,⟨t',qp rows.length z rows::h'⟩)∧t'.length=23∧t'[3]? =some (.one (.arr 0)):=by
 intro m
 induction m with
 |zero=>
  intro k hk u1 u2 u5 u6 u7 x8 x9 x10 x11 x12 x13 x14 x15 x16 x17 x18 x19 x20 x21 u22 extra
  have hk':k=rows.length:=by omega
  subst hk'
  rw[sM]
  simp[tP,Gq,aj,ah,az,aH,bf,Opd.ev,put,asList,L.view,bin,bM,isBool]
 |succ m ih=>
  intro k hk u1 u2 u5 u6 u7 x8 x9 x10 x11 x12 x13 x14 x15 x16 x17 x18 x19 x20 x21 u22 extra
  have hlt:k<rows.length:=by omega
  have hr:rows[k]? =some rows[k]:=by simp[hlt]
  have hrz:(rows[k]).length=z:=hz _ (List.getElem_mem hlt)
  obtain⟨ls,c1,c2,c5,c3,c4⟩:=hcp _ (List.getElem_mem hlt)
  have hw:=jC (k:=k) (by unfold maxLen at hlen;omega)
  have hcut:gu true z 0 ((rows[k]).map L.pv)=some (.agg ((rows[k]).map .pv)):=by
   simp[gu,hrz,List.take_of_length_le (show((rows[k]).map L.pv).length≤z by simp[hrz])]
  have hcast:((k+1:Nat):Int)=(k:Int)+1:=by omega
  have hbz:k=0→iM (rows.take k++List.replicate (m+1) zero)=true:=by
   intro e;subst e;simpa using IL hzb
  generalize hE:rows.take k++List.replicate (m+1) zero=E at*
  have hEl:k<E.length:=by rw[←hE];simp;omega
  have hat:E[k]? =some zero:=by rw[←hE];exact Ro (by omega)
  have hset':E.set k rows[k]=rows.take (k+1)++List.replicate m zero:=by rw[←hE];exact Pt (by omega)
  cases hK:K.fl with
  |true=>
   obtain⟨rfl,hfl⟩:=c4 hK
   obtain⟨g,ea⟩:=Gives.pvs (qp k z E::extra) rows[k]
   obtain⟨h'',hst⟩:=Ep (h':=qp k z E::extra) (k:=k) (r:=rows[k]) (ls':=(rows[k]).map .pv) (Cg rfl hbz) (by simp) hat hzero (pD _ _) (by simp[hrz]) (Of _ _) (by
    rw[List.all_eq_true]at c5⊢
    intro l hl
    obtain⟨p,hp,rfl⟩:=List.mem_map.1 hl
    exact c5 _ hl) (by rw[ea];exact List.nodup_nil)
   rw[hset']at hst
   have hset:((rows[k]).map L.pv).map dk=(rows[k]).map L.pv:=by simp[dk]
   have hel:=Ci (h:=qp k z E::extra) (k:=k) (z:=z) (i:=k) (es:=E) rfl hEl
   have key:=ih (k+1) (by omega) u1 u2 u5 u6 u7 (aa .i64 k) (bu rows) (aa .i64 rows.length) (ar true) (aa .i64 k) (aa .i64 ((k:Int)+1)) (.one (.arr 0)) (aa .i64 k) (bu rows) (aa .i64 k) (.one (.ip rows[k] 0)) (.agg ((rows[k]).map .pv)) (.agg ((rows[k]).map .pv)) (.one (.ptr 0 k 0)) u22 h''
   obtain⟨t',h',e1,e2,e3⟩:=key
   refine⟨t',h',(fH ?_).trans e1,e2,e3⟩
   rw[hcast]
   have hip:aJ (qp k z E::extra) z (bu rows) k=some (.one (.ip rows[k] 0)):=by simp[aJ,hlt,hrz]
   generalize hO:qp k z E=O at*
   simp[tP,Gq,Hq,aj,ah,az,aH,bf,bU,Opd.ev,put,asList,L.view,bin,bM,isBool,isInt,hlt,hip,hel,hrz,bm,hcut,IU,hK,ap,qT,c1,V.flat,hfl,dG,hset,hst,hw,qp]
  |false=>
   obtain⟨t,ht⟩:=np ls (qp k z E::extra) c2
   have hv:=qS ls (qp k z E::extra) c2
   have hna:=nq ls (qp k z E::extra) 0 c2 (by simp)
   have hll:=(kl ls (qp k z E::extra) c2).1
   have hmv:=tm ls (qp k z E::extra) c2 c5
   have hnd:=(pC ls (qp k z E::extra) c2).1.nodup
   have hlz:ls.length=z:=by rw[←hrz,←c3];simp
   rw[c3]at hv
   generalize hth:thawL (qp k z E::extra) ls=th at*
   obtain⟨ls',h1⟩:=th
   simp only at ht hv hna hll hmv hnd
   have hh0:h1[0]? =some (qp k z E):=by rw[ht];rfl
   obtain⟨h'',hst⟩:=Ep (h':=h1) (k:=k) (r:=rows[k]) (ls':=ls') (Cg hh0 hbz) (by rw[ht];simp) hat hzero hv (by rw[hll,hlz]) hna hmv hnd
   rw[hset']at hst
   have hel:=Ci (h:=h1) (k:=k) (z:=z) (i:=k) (es:=E) hh0 hEl
   have key:=ih (k+1) (by omega) u1 u2 u5 u6 u7 (aa .i64 k) (bu rows) (aa .i64 rows.length) (ar true) (aa .i64 k) (aa .i64 ((k:Int)+1)) (.one (.arr 0)) (aa .i64 k) (bu rows) (aa .i64 k) (.one (.ip rows[k] 0)) (.agg ((rows[k]).map .pv)) (.agg ls') (.one (.ptr 0 k 0)) u22 h''
   obtain⟨t',h',e1,e2,e3⟩:=key
   refine⟨t',h',(fH ?_).trans e1,e2,e3⟩
   rw[hcast]
   have hip:aJ (qp k z E::extra) z (bu rows) k=some (.one (.ip rows[k] 0)):=by simp[aJ,hlt,hrz]
   generalize hO:qp k z E=O at*
   simp[tP,Gq,Hq,aj,ah,az,aH,bf,bU,Opd.ev,put,asList,L.view,bin,bM,isBool,isInt,hlt,hip,hel,hrz,bm,hcut,IU,hK,ap,qT,c1,thaw,hth,Ay,hst,hw,qp]
theorem R5 {k bytes z:Nat}{K:Ks}{zero:List PV}{rows:List (List PV)}(hk:Φ k=some (Ii bytes z K zero))(hz:∀r∈rows,r.length=z)(hz0:0<z)(hzero:zero.length=z)(hzb:zero.all PV.bare=true)(hlen:rows.length≤maxLen)(hb:(rows.length:Int)*bytes≤140737488355328)(hcp:∀r∈rows,L8 Φ ext K r):
 ag Φ ext k [bu rows]=some (.one (Ly z rows)):=by
 refine fQ hk ?_
 obtain⟨t',h',e1,e2,e3⟩:=Qg (Φ:=Φ) (ext:=ext) hz hzero hzb hlen hcp rows.length 0 (by omega) (.tup []) (.one .nil) (bu rows) (aa .i64 rows.length) (.one (.arr 0)) (.tup []) (.tup []) (.tup []) (.tup []) (.tup []) (.tup []) (.tup []) (.tup []) (.tup []) (.tup []) (.tup []) (.tup []) (.tup []) (.tup []) (.tup []) []
 simp only[List.take_zero,List.nil_append,show((0:Nat):Int)=0 from rfl,II]at e1
 have hl63:(rows.length:Int)≤9223372036854775807:=by unfold maxLen at hlen;omega
 obtain⟨_,e4⟩:=List.getElem?_eq_some_iff.1 e3
 generalize hF:aj (ag Φ ext) av (tP z K)=F at e1
 have e5:bq (qp rows.length z rows::h') (.arr 0)=some (Ly z rows):=by cases rows<;>simp[bq,qp,Ly]
 generalize hO:qp rows.length z rows=O at*
 simp[Ii,start,ft,aj,hF,ah,az,aH,bf,bU,Opd.ev,put,asList,L.view,isInt,hb,hl63,hzero,hz0,e1,done,aV,au,bE,bN,comp,aK,e5,ai,e2,e4,V.cells]
def ya :ACode:= .seq (Gq 4 0 8) (.seq (.block 1 (.region [⟨some 14, .mv (.tmp 3),none⟩,⟨some 15, .mv (.tmp 4),none⟩,⟨some 16, .mv (.tmp 0),none⟩,⟨some 17, .mv (.tmp 4),none⟩,⟨some 18, .indexA 1 (.tmp 16) (.tmp 17),none⟩,⟨some 19, .load false 1 (.tmp 18),none⟩,⟨some 20, .indexA 1 (.tmp 14) (.tmp 15),none⟩,⟨none, .storeD 1 (.tmp 20) (.tmp 19),none⟩])) (Hq 4 12))
def Se (bytes:Nat)(zero:PV):AFn:=⟨22,[.tmp 2], .seq (.region [⟨some 2, .mv .nil,none⟩]) (.seq (.region [⟨some 5, .mv (.tmp 0),none⟩,⟨some 6, .len (.tmp 5),none⟩,⟨some 7, .make bytes [zero] (.tmp 6),none⟩,⟨some 3, .mv (.tmp 7),none⟩]) (.seq (.seq (.region [⟨some 4, .mv (.pv (.int .i64 0)),none⟩]) (.block 0 (.loop ya))) (.seq (.region [⟨some 21, .mv (.tmp 3),none⟩,⟨some 2, .mv (.tmp 21),none⟩]) .ret)))⟩
theorem Qh {zero:PV}{rows:List (List PV)}(hz:∀r∈rows,∃q:PV,r=[q]∧q.bare=true)(hzb:zero.bare=true)(hlen:rows.length≤maxLen):∀(m k:Nat),k+m=rows.length→
 ∀(u1 u2 u5 u6 u7 x8 x9 x10 x11 x12 x13 x14 x15 x16 x17 x18 x19 x20 u21:V)(extra:List AObj),
  ∃t' h',av (aj (ag Φ ext) av ya) ⟨[bu rows,u1,u2, .one (.arr 0),aa .i64 k,u5,u6,u7,x8,x9,x10,x11,x12,x13,x14,x15,x16,x17,x18,x19,x20,u21],qp k 1 (rows.take k++List.replicate m [zero])::extra⟩=some (.exit 0,⟨t',qp rows.length 1 rows::h'⟩)∧t'.length=22∧t'[3]? =some (.one (.arr 0)):=by
 intro m
 induction m with
 |zero=>
  intro k hk u1 u2 u5 u6 u7 x8 x9 x10 x11 x12 x13 x14 x15 x16 x17 x18 x19 x20 u21 extra
  have hk':k=rows.length:=by omega
  subst hk'
  rw[sM]
  simp[ya,Gq,aj,ah,az,aH,bf,Opd.ev,put,asList,L.view,bin,bM,isBool]
 |succ m ih=>
  intro k hk u1 u2 u5 u6 u7 x8 x9 x10 x11 x12 x13 x14 x15 x16 x17 x18 x19 x20 u21 extra
  have hlt:k<rows.length:=by omega
  obtain⟨q,hq,hqb⟩:=hz _ (List.getElem_mem hlt)
  have hw:=jC (k:=k) (by unfold maxLen at hlen;omega)
  have hcut:gu false 1 0 [L.pv q]=some (.one (.pv q)):=by simp[gu]
  have hcast:((k+1:Nat):Int)=(k:Int)+1:=by omega
  have hbz:k=0→iM (rows.take k++List.replicate (m+1) [zero])=true:=by
   intro e;subst e;simpa using IL (m:=m+1) (zero:=[zero]) (by simp[hzb])
  generalize hE:rows.take k++List.replicate (m+1) [zero]=E at*
  have hEl:k<E.length:=by rw[←hE];simp;omega
  have hat:E[k]? =some [zero]:=by rw[←hE];exact Ro (by omega)
  have hset':E.set k rows[k]=rows.take (k+1)++List.replicate m [zero]:=by rw[←hE];exact Pt (by omega)
  rw[hq]at hset'
  have hdp:=Cg (h:=qp k 1 E::extra) rfl hbz
  have hst:storeD (qp k 1 E::extra) 1 (.one (.ptr 0 k 0)) (.one (.pv q))=some (qp (k+1) 1 (rows.take (k+1)++List.replicate m [zero])::extra):=by
   simp[storeD,hdp,hat,V.cells,viewL,L.view,L.notArr,L.mov,hqb,ai,freezeLs,freezeL,putAt,hset',O7]
  have hel:=Ci (h:=qp k 1 E::extra) (k:=k) (z:=1) (i:=k) (es:=E) rfl hEl
  obtain⟨t',h',g1,g2⟩:=ih (k+1) (by omega) u1 u2 u5 u6 u7 (aa .i64 k) (bu rows) (aa .i64 rows.length) (ar true) (aa .i64 k) (aa .i64 ((k:Int)+1)) (.one (.arr 0)) (aa .i64 k) (bu rows) (aa .i64 k) (.one (.ip [q] 0)) (.one (.pv q)) (.one (.ptr 0 k 0)) u21 extra
  refine⟨t',h',(fH ?_).trans g1,g2⟩
  rw[hcast]
  have hip:aJ (qp k 1 E::extra) 1 (bu rows) k=some (.one (.ip [q] 0)):=by simp[aJ,hlt,hq]
  generalize hO:qp k 1 E=O at*
  generalize hO':qp (k+1) 1 (rows.take (k+1)++List.replicate m [zero])=O' at*
  simp[ya,Gq,Hq,aj,ah,az,aH,bf,bU,Opd.ev,put,asList,L.view,bin,bM,isBool,isInt,hlt,hip,hel,bm,hcut,hst,hw]
theorem R6 {k bytes:Nat}{zero:PV}{rows:List (List PV)}(hk:Φ k=some (Se bytes zero))(hz:∀r∈rows,∃q:PV,r=[q]∧q.bare=true)(hzb:zero.bare=true)(hlen:rows.length≤maxLen)(hb:(rows.length:Int)*bytes≤140737488355328):
 ag Φ ext k [bu rows]=some (.one (Ly 1 rows)):=by
 refine fQ hk ?_
 obtain⟨t',h',e1,e2,e3⟩:=Qh (Φ:=Φ) (ext:=ext) (zero:=zero) hz hzb hlen rows.length 0 (by omega) (.tup []) (.one .nil) (bu rows) (aa .i64 rows.length) (.one (.arr 0)) (.tup []) (.tup []) (.tup []) (.tup []) (.tup []) (.tup []) (.tup []) (.tup []) (.tup []) (.tup []) (.tup []) (.tup []) (.tup []) (.tup []) []
 simp only[List.take_zero,List.nil_append,show((0:Nat):Int)=0 from rfl,II]at e1
 have hl63:(rows.length:Int)≤9223372036854775807:=by unfold maxLen at hlen;omega
 obtain⟨_,e4⟩:=List.getElem?_eq_some_iff.1 e3
 generalize hF:aj (ag Φ ext) av ya=F at e1
 have e5:bq (qp rows.length 1 rows::h') (.arr 0)=some (Ly 1 rows):=by cases rows<;>simp[bq,qp,Ly]
 generalize hO:qp rows.length 1 rows=O at*
 simp[Se,start,ft,aj,hF,ah,az,aH,bf,bU,Opd.ev,put,asList,L.view,isInt,hb,hl63,e1,done,aV,au,bE,bN,comp,aK,e5,ai,e2,e4,V.cells]
theorem JJ (ts:List PTy)(rows:List (List PV)):vU (.lst ts) (.lst rows)=(Ly ts.length rows):=by cases rows<;>rfl
theorem hC {k bytes z:Nat}{K:Ks}{ts:List PTy}{zero:List PV}(hk:Φ k=some (Ii bytes z K zero))(hz:ts.length=z)(hzero:zero.length=z)(hzb:zero.all PV.bare=true)(hz0:0<z)(hb:bytes≤134217728)(hx:jE Φ ext K.kt ts)(hfl:K.fl=true→ts.all PTy.flatT=true):jU Φ ext k ts:=by
 intro rows h hs
 obtain⟨hl,hr⟩:=aL h
 have hn:rows.length≤1048576:=Nat.le_trans (Nat.le_add_right _ (bP rows)) (by rw[←jc];exact hs)
 rw[JJ,hz]
 refine R5 hk (fun r m=>by rw[jp (hr r m),hz]) hz0 hzero hzb hl ?_ (fun r m=> ?_)
 ·have:=Nat.mul_le_mul hn hb
  omega
 ·refine⟨_,hx r (hr r m) (RY m hs),vV _ _,sR (hr r m),AH (hr r m),fun hf=> ?_⟩
  obtain⟨e1,e2⟩:=qJ (hfl hf) (hr r m)
  exact⟨e1,by rw[e1];exact e2⟩
theorem Ij {k bytes:Nat}{t:PTy}{zero:PV}(hk:Φ k=some (Se bytes zero))(hzb:zero.bare=true)(ht:t.flatT=true)(hb:bytes≤134217728):jU Φ ext k [t]:=by
 intro rows h hs
 obtain⟨hl,hr⟩:=aL h
 have hn:rows.length≤1048576:=Nat.le_trans (Nat.le_add_right _ (bP rows)) (by rw[←jc];exact hs)
 rw[JJ]
 refine R6 hk (fun r m=> ?_) hzb hl ?_
 ·obtain⟨q,r',rfl,h1,h2⟩:=dI (hr r m)
  obtain rfl:=fm h2
  refine⟨q,rfl,?_⟩
  have:=AG h1
  rw[xe ht h1]at this
  exact this
 ·have:=Nat.mul_le_mul hn hb
  omega
end
end Gi
