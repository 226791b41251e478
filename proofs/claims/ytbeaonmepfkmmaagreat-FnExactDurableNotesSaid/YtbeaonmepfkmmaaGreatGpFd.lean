/- Of this proof. -/
import Derived.Test.YtbeaonmepfkmmaaGreatGlId
import Derived.Test.YtbeaonmepfkmmaaGreatGnAd
set_option linter.unusedSimpArgs false
set_option linter.unusedVariables false
namespace Gi
open Go Go.RowKit
set_option maxHeartbeats 8000000
set_option maxRecDepth 4000
attribute [local simp] start pa a9 b6 cP dS cO dR d5 dZ pR p5 pS p6 pT p7 pU p8 pV p9 pW qa pX qb pY qc pZ qd V.cells plain bf fO isInt isStr isBool bin bN gA bO gB dV un asList L.view av V.view viewL aR aw bS bq bE comp aK bv cL bK bj bh bi aB aq aH am az aW ap aY bH aI bm bo V.flat L.flat cX cN br putAt thaw thawL thawT V.ow dY cR cS bQ dX bR cQ freezeVs freezeLs freezeL V.mut L.mut aJ cy fQ aX bu aP dN co bG cJ L.ren aM dd bP dq bF bB wp_seq wp_block aV cV bT bt bU wp_skip wp_exit wp_ret ce b9 ct cf cF cG cE bJ aL L.notArr bA bw bz cT b8 storeD aT eS bc bZ aU mf L.mov L.closed V.closed PV.bare PV.flat
def Ll :XStore:=⟨[],[],0⟩
def Ic (b:XBucket):XStore:=match(sO (oO b.disk.log).2 b.disk.base).stores.find? (Gr [110,111,116,101,115])with
 |some st=>st
 |none=>Ll
def xB (w:XWorld)(s t:List UInt8):XStore:=match w.storage.buckets.find? (KN s t)with
 |some b=>Ic b
 |none=>Ll
abbrev Uj (x:XStore):V:= .agg [.pv (.str x.name),nd 4 (x.items.map XItem.e), .pv (.int .i64 x.auto)]
theorem EN {rows:List (List PV)}(h:rows≠[]):kI rows= .pv (.lst rows):=by
 cases rows with
 |nil=>exact absurd rfl h
 |cons r rs=>rfl
theorem QP :Ll.Ok 1048576:=⟨by simp[Ll],⟨by simp[Ll],fun x h=>by simp[Ll]at h⟩,by simp[Ll,iy]⟩
theorem Rq {b:XBucket}(h:b.Ok 1048576):(Ic b).Ok 1048576:=by
 unfold Ic
 have:=AY (oO b.disk.log).2 h.2.2.2.2.1.1
 split
 ·rename_i st hst
  exact this.2.2.1.2 _ (List.mem_of_find?_eq_some hst)
 ·exact QP
theorem Rr {w:XWorld}(h:w.Ok 1048576)(s t:List UInt8):(xB w s t).Ok 1048576:=by
 unfold xB
 split
 ·rename_i b hb
  exact Rq (h.2.2.1.2 _ (List.mem_of_find?_eq_some hb))
 ·exact QP
theorem sI {w:XWorld}(h:w.Ok 1048576)(s t:List UInt8):ah Ph aN 538 [w.v,dv s,dv t]=some (Uj (xB w s t)):=by
 have hbl:w.storage.buckets.length≤maxLen:=Nat.le_trans h.2.2.1.1 (by unfold maxLen;omega)
 have e1:ah Ph aN 146 [w.v,dv s,dv t]=some _:=yx (bs:=w.storage.buckets) hbl s t
 unfold xB
 cases hb:w.storage.buckets.find? (KN s t)with
 |none=>
  rw[hb]at e1
  simp only[FC]at e1
  refine ae (fn:=da) rfl ?_
  simp(maxSteps:=9999999) [da,e1,Ll,nd]
 |some b=>
  rw[hb]at e1
  have hbo:=h.2.2.1.2 _ (List.mem_of_find?_eq_some hb)
  have hx:=XBucket.e.eq_1 b
  simp only[hx,List.map_cons,List.map_nil]at e1
  have e2:=yv hbo.2.2.2.2.1
  have hd:=AY (oO b.disk.log).2 hbo.2.2.2.2.1.1
  show ah Ph aN 538 [w.v,dv s,dv t]=some (Uj (Ic b))
  unfold Ic
  simp only[zR]at e2
  generalize sO (oO b.disk.log).2 b.disk.base=d at*
  have e3:=lK (d:=d) (Nat.le_trans hd.2.2.1.1 (by unfold maxLen;omega)) [110,111,116,101,115]
  rcases qu (Gr [110,111,116,101,115]) d.stores with⟨q1,q2⟩|⟨j,hj,q1,q2⟩<;>rw[q1]at e3<;>rw[q2]
  ·have l0:bX (-1) 0=true:=rfl
   refine ae (fn:=da) rfl ?_
   simp(maxSteps:=9999999) [da,e1,e2,e3,l0,Ll,nd, ↓aI, ↓az, ↓aq, ↓aB, ↓am, ↓aH, ↓ap]
  ·show ah Ph aN 538 [w.v,dv s,dv t]=some (.agg [.pv (.str d.stores[j].name),nd 4 (d.stores[j].items.map XItem.e), .pv (.int .i64 d.stores[j].auto)])
   have e4:=gL (Nat.le_refl 1048576) (hd.2.2.1.2 _ (List.getElem_mem hj))
   have hs:=XStore.e.eq_1 d.stores[j]
   rw[EN (rows:=d.stores.map XStore.e) (fun e=>by have:=congrArg List.length e;simp at this;simp[this]at hj)]at e2
   have N:=zx 4 (d.stores[j].items.map XItem.e)
   generalize nd 4 (d.stores[j].items.map XItem.e)=nn at*
   have l0:bX (j:Int) 0=false:=fK (by omega)
   rcases N with⟨_,rfl⟩|⟨_,rfl⟩
   ·refine ae (fn:=da) rfl ?_
    simp(maxSteps:=9999999) [da,e1,e2,e3,e4,hj,hs,l0]
   ·refine ae (fn:=da) rfl ?_
    simp(maxSteps:=9999999) [da,e1,e2,e3,e4,hj,hs,l0]
theorem sY {w:XWorld}(h:w.Ok 1048576)(s t:List UInt8):ah Ph aN 537 [w.v,dv s,dv t]=some (Uj (xB w s t)):=by
 have hbl:w.storage.buckets.length≤maxLen:=Nat.le_trans h.2.2.1.1 (by unfold maxLen;omega)
 have e1:=vo (bs:=w.storage.buckets) hbl s t
 unfold xB
 rcases qu (KN s t) w.storage.buckets with⟨p1,p2⟩|⟨i,hi,p1,p2⟩<;>rw[p1]at e1<;>rw[p2]
 ·have l0:bX (-1) 0=true:=rfl
  refine ae (fn:=db) rfl ?_
  simp(maxSteps:=9999999) [db,e1,l0,Ll,nd]
 ·have hbo:=h.2.2.1.2 _ (List.getElem_mem hi)
  have hx:=XBucket.e.eq_1 w.storage.buckets[i]
  have e2:=yS hbo.2.2.2.2.1
  have hd:=AY (oO w.storage.buckets[i].disk.log).2 hbo.2.2.2.2.1.1
  have li:bX (i:Int) 0=false:=fK (by omega)
  show ah Ph aN 537 [w.v,dv s,dv t]=some (Uj (Ic w.storage.buckets[i]))
  unfold Ic
  simp only[zR]at e2
  generalize sO (oO w.storage.buckets[i].disk.log).2 w.storage.buckets[i].disk.base=d at*
  have e3:=lS (d:=d) (Nat.le_trans hd.2.2.1.1 (by unfold maxLen;omega)) [110,111,116,101,115]
  rcases qu (Gr [110,111,116,101,115]) d.stores with⟨q1,q2⟩|⟨j,hj,q1,q2⟩<;>rw[q1]at e3<;>rw[q2]
  ·have l0:bX (-1) 0=true:=rfl
   refine ae (fn:=db) rfl ?_
   simp(maxSteps:=9999999) [db,e1,e2,e3,hi,hx,li,l0,Ll,nd, ↓aI, ↓az, ↓aq, ↓aB, ↓am, ↓aH, ↓ap]
  ·show ah Ph aN 537 [w.v,dv s,dv t]=some (.agg [.pv (.str d.stores[j].name),nd 4 (d.stores[j].items.map XItem.e), .pv (.int .i64 d.stores[j].auto)])
   have e4:=iv (Nat.le_refl 1048576) (hd.2.2.1.2 _ (List.getElem_mem hj))
   have hs:=XStore.e.eq_1 d.stores[j]
   rw[EN (rows:=d.stores.map XStore.e) (fun e=>by have:=congrArg List.length e;simp at this;simp[this]at hj)]at e2
   have N:=zx 4 (d.stores[j].items.map XItem.e)
   generalize nd 4 (d.stores[j].items.map XItem.e)=nn at*
   have l0:bX (j:Int) 0=false:=fK (by omega)
   rcases N with⟨_,rfl⟩|⟨_,rfl⟩
   ·refine ae (fn:=db) rfl ?_
    simp(maxSteps:=9999999) [db,e1,e2,e3,e4,hi,hx,li,hj,hs,l0]
   ·refine ae (fn:=db) rfl ?_
    simp(maxSteps:=9999999) [db,e1,e2,e3,e4,hi,hx,li,hj,hs,l0]
end Gi
namespace Gi
open Go Go.RowKit
set_option maxHeartbeats 8000000
set_option maxRecDepth 8000
attribute [local simp] start fB au ai aE aO a9 b6 Opd.ev put V.cells plain bf fO isInt isStr isBool bin ca un asList L.view av V.view viewL done aR aw cq bE comp aK bv al V.flat L.flat cX cN br putAt freezeVs freezeLs freezeL V.mut L.mut lent AObj.unz L.unsub rt wZ kG uk lL zt PV.flat PV.bare kB AObj.zone pz thaw thawL thawT V.closed L.closed
theorem Qi (a:List UInt8)(n k:Int):ah Ph aN (539+mM) [.agg [.pv (.str a), .pv (.lst []), .pv (.int .i64 n)],aa .i64 k]=some (.tup [(false,[.pv (.int .i64 k)])]):=by
 have c:=(lO (ext:=aN)).1 k
 refine vD (fn:=mF) rfl rfl rfl ?_
 simp[mF,c,nO,Ou,Tu,Ov,MS.ts,gz,gy,du,hJ,sy,Ce,gu]
theorem Oj {c0 c2 c5 l0 n:Int}{c1:Bool}{c3 c4 c6 c7 c8 c9 g:List (List PV)}{s t a:List UInt8}(h1:bp jm [.str a, .lst g, .int .i64 n])(hs1:eT [.str a, .lst g, .int .i64 n]≤2097152)(h0:bp iO (WR c0 c1 c2 c3 c4 c5 c6 c7 c8 c9))(hs0:eT (WR c0 c1 c2 c3 c4 c5 c6 c7 c8 c9)≤1048576)
 (m0:ah Ph aN 104 [.agg (WP c0 c1 c2 c3 c4 c5 c6 c7 c8 c9),aa .i64 1048576]=some (aa .i64 l0)) (n0:¬l0<0) (ls:¬(1048576:Int)<s.length) (lt:¬(1048576:Int)<t.length)
 (e1:ah Ph aN 538 [.agg (WP c0 c1 c2 c3 c4 c5 c6 c7 c8 c9),dv s,dv t]=some (.agg [.pv (.str a),nd 4 g, .pv (.int .i64 n)])) (e2:ah Ph aN 537 [.agg (WP c0 c1 c2 c3 c4 c5 c6 c7 c8 c9),dv s,dv t]=some (.agg [.pv (.str a),nd 4 g, .pv (.int .i64 n)])):ah Ph aN 533 [.agg (WP c0 c1 c2 c3 c4 c5 c6 c7 c8 c9),dv s,dv t]=some (aD true):=by
 have to0:ah Ph aN 106 [.agg (WP c0 c1 c2 c3 c4 c5 c6 c7 c8 c9)]=some (.agg (gZ iO (WR c0 c1 c2 c3 c4 c5 c6 c7 c8 c9))):=LM (ext:=aN) _ h0 hs0
 have hset0:(gZ iO (WR c0 c1 c2 c3 c4 c5 c6 c7 c8 c9)).map cN=WP c0 c1 c2 c3 c4 c5 c6 c7 c8 c9:=R5 h0
 have hcl0:V.closed (.agg (gZ iO (WR c0 c1 c2 c3 c4 c5 c6 c7 c8 c9)))=true:=sP h0
 have hth0:∀hh,pz hh (.agg (gZ iO (WR c0 c1 c2 c3 c4 c5 c6 c7 c8 c9)))=(.agg [.pv (.int .i64 c0), .pv (.bool c1), .pv (.int .i64 c2), .arr hh.length, .arr (hh.length+1), .pv (.int .i64 c5), .arr (hh.length+1+1), .arr (hh.length+1+1+1), .arr (hh.length+1+1+1+1), .arr (hh.length+1+1+1+1+1)],hh++[.zarr 24 c3, .zarr 11 c4, .zarr 4 c6, .zarr 3 c7, .zarr 4 c8, .zarr 5 c9]):=fun hh=>OB h0 hh
 have eq0:ah Ph aN 108 [.agg (WP c0 c1 c2 c3 c4 c5 c6 c7 c8 c9), .agg (WP c0 c1 c2 c3 c4 c5 c6 c7 c8 c9)]=some (aD true):=KA (ext:=aN) _ h0
 generalize gZ iO (WR c0 c1 c2 c3 c4 c5 c6 c7 c8 c9)=OW at to0 hset0 hcl0 hth0
 have cw:=tG dO _ iO 1 h0 (by decide)
 have mw:=GA (ext:=aN) _ h0 1 (by omega) (by unfold yH;omega)
 have cw0:=lP dO (WR c0 c1 c2 c3 c4 c5 c6 c7 c8 c9) 1
 have cw1:=tG dO [.str a, .lst g, .int .i64 n] jm 1 h1 (by decide)
 have hk1:(fb dO [.str a, .lst g, .int .i64 n] 1).2≤yH:=by unfold yH;omega
 have eq1:ah Ph aN 24 [.agg [.pv (.str a), .pv (.lst g), .pv (.int .i64 n)], .agg [.pv (.str a), .pv (.lst g), .pv (.int .i64 n)]]=some (aD true):=qZ (ext:=aN) _ h1
 have hd:=Gh (ext:=aN) _ h1 1 (by omega) hk1
 have mg:=Gz (ext:=aN) _ h1 1 (by omega) hk1
 have cw2:=lP dO [.str a, .lst g, .int .i64 n] 1
 have mn:=Qi a n 1
 simp only[WR,WP,iO,jm,Hz,OA,fb,List.map_cons,List.map_nil]at m0 e1 e2 to0 hset0 hth0 eq0 mw cw0 mg hd cw2⊢
 have tl:iw.length=24∧mZ.length=11∧lU.length=4∧lV.length=3∧m4.length=4∧iY.length=5:=⟨rfl,rfl,rfl,rfl,rfl,rfl⟩
 simp only[tl]at mw
 simp only[show gQ.length=4 from rfl]at mg
 clear cw cw1 h0 hs0 h1 hs1 hk1 tl
 have hk:=Int.not_lt.2 (Int.le_trans (by decide:(0:Int)≤1) cw0)
 rcases T1 4 g with⟨rfl,u,_,_,_⟩|⟨_,u,_,_,_⟩<;>simp only[u]at e1 e2
 ·simp only[RS]at hd
  refine eB (fn:=aZ) rfl ?_
  simp[aZ,m0,n0,ls,lt,to0,hset0, ↓hcl0, ↓hth0,eq0,e1,e2,mw,eq1,mn,hd,hk]
 ·have hk2:=Int.not_lt.2 (Int.le_trans (by decide:(0:Int)≤1) cw2)
  refine eB (fn:=aZ) rfl ?_
  simp[aZ,m0,n0,ls,lt,to0,hset0, ↓hcl0, ↓hth0,eq0,e1,e2,mw,eq1,mg,hd,hk,hk2]
theorem Mh {n:Int}(h:iy n):n5 (.int .i64) (.int .i64 n):=by
 unfold iy at h
 simp only[n5,Lit.wf,IntKind.min,IntKind.max,IntKind.signed,IntKind.bits,true_and]
 simp
 omega
theorem N9 {x:XItem}(h:x.Ok 1048576):bp yW x.e:=by
 obtain⟨⟨h1,h2,h3⟩,h4,h5⟩:=h
 refine⟨Mh h1,Mh h2,?_,⟨by rw[List.length_map];unfold maxLen;omega,fun r m=> ?_⟩,trivial⟩
 ·show x.key.text.length≤maxLen
  unfold maxLen;omega
 ·obtain⟨f,hf,rfl⟩:=List.mem_map.1 m
  obtain⟨g1,g2⟩:=h5 f hf
  refine⟨?_,Mh g2,trivial⟩
  show f.name.length≤maxLen
  unfold maxLen;omega
theorem KE {x:XStore}(h:x.Ok 1048576):bp jm [.str x.name, .lst (x.items.map XItem.e), .int .i64 x.auto]:=by
 obtain⟨h1,⟨h2,h3⟩,h4⟩:=h
 refine⟨?_,⟨by rw[List.length_map];unfold maxLen;omega,fun r m=> ?_⟩,Mh h4,trivial⟩
 ·show x.name.length≤maxLen
  unfold maxLen;omega
 ·obtain⟨f,hf,rfl⟩:=List.mem_map.1 m
  exact N9 (h3 f hf)
theorem GO {α:Type}{e:α→List PV}{B:Nat}:∀{l:List α},(∀x∈l,eT (e x)≤B)→cU (l.map e)≤B*l.length
 |[],_=>by simp[cU]
 |x::l,h=>by
  have:=GO (e:=e) (B:=B) (l:=l) (fun y m=>h y (List.mem_cons_of_mem _ m))
  have h0:=h x (List.mem_cons_self ..)
  simp only[List.map_cons,cU,List.length_cons,Nat.mul_succ]
  omega
theorem LB {s:XStore}(h:d7 s=true):eT [.str s.name, .lst (s.items.map XItem.e), .int .i64 s.auto]≤2097152:=by
 simp only[d7,Bool.and_eq_true,Bool.not_eq_true']at h
 obtain⟨h1,h2,h3,_⟩:=h
 have hn:=rq h2
 have hl:=of_decide_eq_false h3
 have hi:∀x∈s.items,eT x.e≤128:=by
  intro x m
  obtain⟨j,hj,rfl⟩:=List.mem_iff_getElem.1 m
  have:=sn h1 hj
  simp only[DD,hj,show j-1<s.items.length by omega,List.getElem?_eq_getElem,Bool.or_eq_false_iff,Bool.not_eq_false']at this
  obtain⟨k1,k2,_⟩:=this
  have q1:=oh k1
  obtain⟨q2,q3⟩:=mP k2
  have:=GO (e:=XField.e) (B:=8) (l:=s.items[j].rcd.fs) (fun f m=>by have:=(q3 f m).1;simp only[XField.e,eT,sz];omega)
  rw[XItem.e.eq_1]
  simp only[eT,sz,List.length_map]
  omega
 have:=GO hi
 simp only[eT,sz,List.length_map]
 omega
theorem Tj (d:XDatabase)(o:XOp):(hC d o).1=d∨nH (hC d o).1=true:=by
 unfold hC
 split
 ·split
  ·rename_i st _
   cases q:(ru st o).2.2&&nH (qG d _ (ru st o).1)
   ·exact .inl (by simp only[q,cond_false])
   ·exact .inr (by simp only[q,cond_true];simp only[Bool.and_eq_true]at q;exact q.2)
  ·exact .inl rfl
 ·exact .inl rfl
theorem QB :∀(l:List XOp)(a b:XDatabase×List Int),l.foldl wY (some a)=some b→b.1=a.1∨nH b.1=true
 |[],a,b,h=>by simp only[List.foldl_nil,Option.some.injEq]at h;exact .inl (by rw[h])
 |o::l,a,b,h=>by
  simp only[List.foldl_cons,wY]at h
  cases q:(hC a.1 o).2.2<;>rw[q]at h<;>simp only[cond_true,cond_false]at h
  ·rw[uT]at h;cases h
  ·rcases QB l _ _ h with e|e
   ·rcases Tj a.1 o with g|g
    ·exact .inl (e.trans g)
    ·exact .inr (by rw[e];exact g)
   ·exact .inr e
theorem T6 (d:XDatabase)(l:List XOp):(GP d l).1=d∨nH (GP d l).1=true:=by
 unfold GP
 cases nH d&& !(bX 6 l.length)
 ·exact .inl rfl
 ·simp only[cond_true]
  split
  ·rename_i d' ns h
   exact QB l _ _ h
  ·exact .inl rfl
theorem Qo :∀(L:List (List UInt8))(d:XDatabase),sO L d=d∨nH (sO L d)=true
 |[],d=> .inl rfl
 |b::L,d=>by
  simp only[sO]
  cases(jK mO b).2
  ·exact .inl rfl
  ·simp only[cond_true]
   rcases Qo L (GP d (jK mO b).1).1 with e|e
   ·rcases T6 d (jK mO b).1 with g|g
    ·exact .inl (e.trans g)
    ·exact .inr (by rw[e];exact g)
   ·exact .inr e
theorem KO {d:XDatabase}(h:nH d=true){s:XStore}(m:s∈d.stores):d7 s=true:=by
 simp only[nH,Bool.and_eq_true,Bool.not_eq_true']at h
 obtain⟨j,hj,rfl⟩:=List.mem_iff_getElem.1 m
 have:=sn h.2.2.2.2.1 hj
 simp only[Nl,hj,show j-1<d.stores.length by omega,List.getElem?_eq_getElem,Bool.or_eq_false_iff,Bool.not_eq_false']at this
 exact this.1
theorem Rs {w:XWorld}(hz:eT w.e≤1048576)(h:w.Ok 1048576)(s t:List UInt8):bp jm [.str (xB w s t).name, .lst ((xB w s t).items.map XItem.e), .int .i64 (xB w s t).auto]∧eT [.str (xB w s t).name, .lst ((xB w s t).items.map XItem.e), .int .i64 (xB w s t).auto]≤2097152:=by
 refine⟨KE (Rr h s t),?_⟩
 have z0:eT [.str Ll.name, .lst (Ll.items.map XItem.e), .int .i64 Ll.auto]≤2097152:=by simp[Ll,eT,sz,cU]
 unfold xB
 split
 ·rename_i b hb
  have hm:=List.mem_of_find?_eq_some hb
  unfold Ic
  split
  ·rename_i st hst
   have hm2:=List.mem_of_find?_eq_some hst
   rcases Qo (oO b.disk.log).2 b.disk.base with e|e
   ·rw[e]at hm2
    have y1:sz (.lst (w.storage.buckets.map XBucket.e))≤eT w.e:=bd (i:=3) rfl
    have y2:=rS (List.mem_map_of_mem (f:=XBucket.e) hm)
    have y3:sz (.lst (b.disk.base.stores.map XStore.e))≤eT b.e:=bd (i:=9) rfl
    have y4:=rS (List.mem_map_of_mem (f:=XStore.e) hm2)
    rw[k6]at y1 y3
    rw[XStore.e.eq_1]at y4
    omega
   ·exact LB (KO e hm2)
  ·exact z0
 ·exact z0
theorem yA {r0:List PV}{s1 s2:List UInt8}(h0:bp iO r0)(k1:n5 .str (.str s1))(k2:n5 .str (.str s2)):ah Ph aN 533 [.agg (r0.map .pv),dv s1,dv s2]=some (aD true):=by
 obtain⟨w,rfl,hok⟩:=XWorld.of (B:=eT r0) r0 h0 (Nat.le_refl _)
 have m0:ah Ph aN 104 [.agg (WP w.now w.online w.device (w.storage.buckets.map XBucket.e) (w.pages.map XPage.e) w.nextPage (w.locks.locks.map XLock.e) (w.channel.mails.map XMail.e) (w.sites.map XSite.e) (w.servers.map XServer.e)),aa .i64 1048576]=some (aa .i64 (less 1048576 (eT w.e))):=Lz (ext:=aN) _ h0 1048576 (by omega) (by omega)
 show ah Ph aN 533 [.agg (WP w.now w.online w.device (w.storage.buckets.map XBucket.e) (w.pages.map XPage.e) w.nextPage (w.locks.locks.map XLock.e) (w.channel.mails.map XMail.e) (w.sites.map XSite.e) (w.servers.map XServer.e)),dv s1,dv s2]=_
 by_cases b1:(1048576:Int)<s1.length
 ·refine eB (fn:=aZ) rfl ?_
  simp[WP,aZ,b1]
 by_cases b2:(1048576:Int)<s2.length
 ·refine eB (fn:=aZ) rfl ?_
  simp[WP,aZ,b1,b2]
 generalize q0:less 1048576 (eT w.e)=l0 at m0
 by_cases n0:l0<0
 ·refine eB (fn:=aZ) rfl ?_
  simp only[WP]at m0
  simp[WP,aZ,b1,b2,m0,n0]
 obtain⟨le0,hz0⟩:=Qa (by omega) q0 n0
 have hs0:eT w.e≤1048576:=by omega
 have hk:=XWorld.Ok.mono hs0 hok
 obtain⟨t1,t2⟩:=Rs hs0 hk s1 s2
 exact Oj t1 t2 h0 hs0 m0 n0 b1 b2 (sI hk s1 s2) (sY hk s1 s2)
end Gi
