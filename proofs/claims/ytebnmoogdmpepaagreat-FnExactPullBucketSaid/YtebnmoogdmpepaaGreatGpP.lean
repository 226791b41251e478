/- Of this proof. -/
import Derived.Test.YtebnmoogdmpepaaGreatGpM
import Derived.Test.YtebnmoogdmpepaaGreatGkd
set_option linter.unusedSimpArgs false
set_option linter.unusedVariables false
namespace Gi
open Go Go.RowKit
set_option maxHeartbeats 8000000
set_option maxRecDepth 4000
attribute [local simp] start oH bJ cI cS ed cR dZ eu ep pz pI pA pJ pB pK pC pL pD pM pE pO pF pP pG pQ pH pR V.cells plain bA fR isInt isStr isBool bin bY gj bZ gl ee un asList L.view aj V.view viewL aW am ce bD bS comp aQ bI cH bP bq bo bp aC aq aY al aB aI au bi bF aE br bt V.flat L.flat db da bB putAt thaw thawL thawT V.ow ej cV cW ca eh cd cU freezeVs freezeLs freezeL V.mut L.mut aH dE fK aZ bC aN dv bR bj bV L.ren aP dg bW dq bU bH wp_seq wp_block bg cZ cf bE cj wp_skip wp_exit wp_ret ct cr cz cu cC cD cB bO aF L.notArr aU aS aT cY bz storeD bc eP bu co ba k8 L.mov L.closed V.closed PV.bare PV.flat
theorem SD (x:XBucket)(n:Bool):db (.tup [(true,UT x),(false,[.pv (.bool n)])])= .tup [(true,Vy x),(false,[.pv (.bool n)])]:=by simp[db, ↓bi,da]
theorem yt {w:XWorld}(h:w.Ok 1048576)(s t:List UInt8):ag Ph aM 626 [w.v,eB s,eB t]=some (.tup [(true,wO w (Sn w s t).1),(false,[.pv (.int .i64 (Sn w s t).2)])]):=by
 have hbl:w.storage.buckets.length≤maxLen:=Zc h.2.2.1.1 (by unfold maxLen;omega)
 have e2:=jC hbl s t
 have e3:=qY s
 have e4:=uC h
 rcases FU w s t with⟨hf,q⟩|⟨k,hk,i,hi,q1,q2,c1,c2,hb,q⟩
 ·rw[q];exact vH h s t hf
 rw[q]
 clear q
 have hst:w.storage.buckets[k].site=s∧w.storage.buckets[k].top=t:=by simpa[BB]using hb
 have lk:cT (k:Int) 0=false:=kE (by omega)
 have li:cT (i:Int) 0=false:=kE (by omega)
 have hx:=XBucket.e.eq_1 w.storage.buckets[k]
 have hv:=XServer.e.eq_1 w.servers[i]
 have hbo:=h.2.2.1.2 _ (Zf hk)
 have hvo:=h.2.2.2.2.2.2.2.2.2 _ (Zf hi)
 have e5:=wV hbo.2.2.2.2.2.1 hvo
 have hpo:=FW hbo.2.2.2.2.2.1 hvo
 have e6:=uo hbo hpo
 generalize kg w.storage.buckets[k].replica w.servers[i]=p at*
 have l0:(!(cT (k:Int) 0))=true:=by rw[lk];rfl
 have ne:∀(l:List XBucket),0<l.length→nK 24 (l.map XBucket.e)= .own 24 (l.map XBucket.e):=fun l hl=>by
  cases l with
  |nil=>simp at hl
  |cons x xs=>rfl
 cases r2:(vz w.storage.buckets[k] p.1).2
 ·rw[r2]at e6
  simp only[cond_false]at e6
  have e7:=vK h hbo hk (by rw[hst.1,hst.2];exact q1) false
  have e8:=SD w.storage.buckets[k] false
  simp only[Xr,cond_false,wO,ne _ (show 0<w.storage.buckets.length by omega)]at e7⊢
  rw[q1]at e2
  rw[q2]at e3
  rw[c1]at e4
  clear hb hst r2 ne
  simp only[XWorld.v,c2]at e4 e7
  simp only[UT,Vy]at e6 e8
  generalize V.tup [(true,_),(false,[L.pv (.bool false)])]=bv at e6 e8
  refine ae (fn:=cQ) rfl ?_
  simp(maxSteps:=9999999) [cQ,e2,e3,e4,c2,e5,e6, ↓e8,e7,lk,li,hk,hi,hx,hv, ↓aE, ↓aB, ↓aq, ↓aC, ↓al, ↓aY, ↓au, ↓oC]
 ·rw[r2]at e6
  have hrp:(vz w.storage.buckets[k] p.1).1=fX w.storage.buckets[k] p.1∧gv (fX w.storage.buckets[k] p.1)=true:=by
   unfold vz T8 at r2⊢
   cases c:gv w.storage.buckets[k]&&gv (fX w.storage.buckets[k] p.1)<;>rw[c]at r2
   ·simp at r2
   ·simp only[Zh]at c
    exact⟨rfl,c.2⟩
  have hso:=Qr hk (b:=fX w.storage.buckets[k] p.1) hrp.2 rfl rfl (wi c1).2.2
  have e7:=vK h (GH hbo hpo) hk (show dR (BB (fX w.storage.buckets[k] p.1).site (fX w.storage.buckets[k] p.1).top) w.storage.buckets=(k:Int) by show dR (BB w.storage.buckets[k].site w.storage.buckets[k].top) w.storage.buckets=(k:Int);rw[hst.1,hst.2];exact q1) true
  have hp2:Hy w.storage.buckets k (fX w.storage.buckets[k] p.1)=(w.storage.buckets.set k (fX w.storage.buckets[k] p.1),true):=by
   unfold Hy
   rw[(wi c1).2.2,hso]
   rfl
  rw[hp2]at e7
  rw[hrp.1]
  have hx2:=XBucket.e.eq_1 (fX w.storage.buckets[k] p.1)
  simp only[cond_true]at e6
  simp only[Yk,cond_true,wO,ne _ (show 0<(w.storage.buckets.set k (fX w.storage.buckets[k] p.1)).length by simp;omega)]at e7⊢
  rw[q1]at e2
  rw[q2]at e3
  rw[c1]at e4
  clear hb hst r2 ne hrp hso hp2
  generalize fX w.storage.buckets[k] p.1=b' at*
  generalize (w.storage.buckets.set k b').map XBucket.e=L1 at*
  simp only[XWorld.v,c2]at e4 e7
  simp only[hx2,Zv,Z5]at e6
  refine ae (fn:=cQ) rfl ?_
  simp(maxSteps:=9999999) [cQ,e2,e3,e4,c2,e5,e6,e7,lk,li,hk,hi,hx,hv, ↓aE, ↓aB, ↓aq, ↓aC, ↓al, ↓aY, ↓au, ↓oC]
end Gi
namespace Gi
open Go Go.RowKit
set_option maxHeartbeats 8000000
set_option maxRecDepth 8000
attribute [local simp] start f9 aw ah aJ bf bJ cI Opd.ev put V.cells plain bA fR isInt isStr isBool bin cK un asList L.view aj V.view viewL done aW am cF bS comp aQ bI ai V.flat L.flat db da bB putAt freezeVs freezeLs freezeL V.mut L.mut lent AObj.unz L.unsub sN wu k9 vo mG zM PV.flat PV.bare kV AObj.zone sf thaw thawL thawT V.closed L.closed
theorem Qv {c0 c2 c5 d0 d2 d5 l0:Int}{c1 d1:Bool}{c3 c4 c6 c7 c8 c9 d3 d4 d6 d7 d8 d9:List (List PV)}{n:Int}{s t:List UInt8}(h0:bM fE (WR c0 c1 c2 c3 c4 c5 c6 c7 c8 c9))(hs0:fg (WR c0 c1 c2 c3 c4 c5 c6 c7 c8 c9)≤1048576)(h1:bM fE (WR d0 d1 d2 d3 d4 d5 d6 d7 d8 d9))(hs1:fg (WR d0 d1 d2 d3 d4 d5 d6 d7 d8 d9)≤2097152)(m0:ag Ph aM 104 [.agg (WP c0 c1 c2 c3 c4 c5 c6 c7 c8 c9),aa .i64 1048576]=some (aa .i64 l0))(n0:¬l0<0)(ls:¬(1048576:Int)<s.length)(lt:¬(1048576:Int)<t.length)
 (e1:ag Ph aM 627 [.agg (WP c0 c1 c2 c3 c4 c5 c6 c7 c8 c9),eB s,eB t]=some (.tup [(true,[.pv (.int .i64 d0), .pv (.bool d1), .pv (.int .i64 d2),nd 24 d3, .down 11 d4, .pv (.int .i64 d5), .down 4 d6, .down 3 d7,nd 4 d8,nd 5 d9]),(false,[.pv (.int .i64 n)])]))
 (e2:ag Ph aM 626 [.agg (WP c0 c1 c2 c3 c4 c5 c6 c7 c8 c9),eB s,eB t]=some (.tup [(true,[.pv (.int .i64 d0), .pv (.bool d1), .pv (.int .i64 d2),nK 24 d3, .own 11 d4, .pv (.int .i64 d5), .own 4 d6, .own 3 d7, .own 4 d8, .own 5 d9]),(false,[.pv (.int .i64 n)])])):ag Ph aM 614 [.agg (WP c0 c1 c2 c3 c4 c5 c6 c7 c8 c9),eB s,eB t]=some (aA true):=by
 have to0:ag Ph aM 106 [.agg (WP c0 c1 c2 c3 c4 c5 c6 c7 c8 c9)]=some (.agg (iE fE (WR c0 c1 c2 c3 c4 c5 c6 c7 c8 c9))):=Og (ext:=aM) _ h0 hs0
 have hset:(iE fE (WR c0 c1 c2 c3 c4 c5 c6 c7 c8 c9)).map da=WP c0 c1 c2 c3 c4 c5 c6 c7 c8 c9:=TQ h0
 have hcl:V.closed (.agg (iE fE (WR c0 c1 c2 c3 c4 c5 c6 c7 c8 c9)))=true:=vx h0
 have hth:∀hh,sf hh (.agg (iE fE (WR c0 c1 c2 c3 c4 c5 c6 c7 c8 c9)))=(.agg [.pv (.int .i64 c0), .pv (.bool c1), .pv (.int .i64 c2), .arr hh.length, .arr (hh.length+1), .pv (.int .i64 c5), .arr (hh.length+1+1), .arr (hh.length+1+1+1), .arr (hh.length+1+1+1+1), .arr (hh.length+1+1+1+1+1)],hh++[.zarr 24 c3, .zarr 11 c4, .zarr 4 c6, .zarr 3 c7, .zarr 4 c8, .zarr 5 c9]):=fun hh=>QG h0 hh
 have eq0:ag Ph aM 108 [.agg (WP c0 c1 c2 c3 c4 c5 c6 c7 c8 c9), .agg (WP c0 c1 c2 c3 c4 c5 c6 c7 c8 c9)]=some (aA true):=Et (ext:=aM) _ h0
 have eq1:ag Ph aM 108 [.agg (WP d0 d1 d2 d3 d4 d5 d6 d7 d8 d9), .agg (WP d0 d1 d2 d3 d4 d5 d6 d7 d8 d9)]=some (aA true):=Et (ext:=aM) _ h1
 generalize iE fE (WR c0 c1 c2 c3 c4 c5 c6 c7 c8 c9)=OW at to0 hset hcl hth
 have cw:=wn az _ fE 1 h0 (by decide)
 have cw1:=wn az _ fE 1 h1 (by decide)
 have mw:=Jw (ext:=aM) _ h0 1 (by omega) (by unfold xk;omega)
 have hd:=Jp (ext:=aM) _ h1 1 (by omega) (by unfold xk;omega)
 have cw0:=nC az (WR c0 c1 c2 c3 c4 c5 c6 c7 c8 c9) 1
 have cw2:=nC az (WR d0 d1 d2 d3 d4 d5 d6 d7 d8 d9) 1
 have hk1:(fL az (WR d0 d1 d2 d3 d4 d5 d6 d7 d8 d9) 1).2≤xk:=by unfold xk;omega
 have mg:=Wl h1 (k:=1) (by omega) hk1
 simp only[WR,WP,fE,Kk,QF,fL,Zv,Z5]at m0 e1 e2 to0 hset hth eq0 eq1 mw hd cw0 cw2⊢
 have tl:eE.length=24∧kj.length=11∧jE.length=4∧jF.length=3∧kl.length=4∧gz.length=5:=⟨rfl,rfl,rfl,rfl,rfl,rfl⟩
 simp only[tl]at mw
 clear cw cw1 h0 h1 hs0 hs1 hk1 tl
 rcases Ie 24 d3 with⟨rfl,u3,v3,w3,o3⟩|⟨_,u3,v3,w3,o3⟩<;>rcases Ie 4 d8 with⟨rfl,u8,v8,w8,o8⟩|⟨_,u8,v8,w8,o8⟩<;>rcases Ie 5 d9 with⟨rfl,u9,v9,w9,o9⟩|⟨_,u9,v9,w9,o9⟩
 all_goals
  simp only[u3,u8,u9]at e1
  simp only[o3]at e2
  simp only[v3,v8,v9,w3,w8,w9]at mg
  (try simp only[TH]at mg hd cw2)
  have hk:=Int.not_lt.2 (Int.le_trans (by decide:(0:Int)≤1) cw0)
  have hk2:=Int.not_lt.2 (Int.le_trans (by decide:(0:Int)≤1) cw2)
  refine fJ (fn:=cL) rfl ?_
  simp[cL,m0,n0,ls,lt,to0,hset, ↓hcl, ↓hth,eq0,eq1,e1,e2,mw,mg,hd,hk,hk2]
end Gi
namespace Gi
open Go Go.RowKit
set_option maxHeartbeats 8000000
set_option maxRecDepth 8000
attribute [local simp] start f9 aw ah aJ bf bJ cI Opd.ev put V.cells plain bA fR isInt isStr isBool bin cK un asList L.view aj V.view viewL done aW am cF bS comp aQ bI ai V.flat L.flat db da bB putAt freezeVs freezeLs freezeL V.mut L.mut lent AObj.unz L.unsub sN wu k9 vo mG zM PV.flat PV.bare kV AObj.zone
theorem rW {n:Int}(h:ou n):oQ (.int .i64) (.int .i64 n):=by
 unfold ou at h
 simp only[oQ,Lit.wf,IntKind.min,IntKind.max,IntKind.signed,IntKind.bits,true_and]
 simp
 omega
theorem Ll {s:List UInt8}(h:s.length≤1048576):oQ .str (.str s):=by
 show s.length≤maxLen
 unfold maxLen;omega
theorem Ql {x:XItem}(h:x.Ok 1048576):bM BX x.e:=by
 obtain⟨⟨h1,h2,h3⟩,h4,h5⟩:=h
 refine⟨rW h1,rW h2,Ll h3,⟨by rw[Zt];unfold maxLen;omega,fun r m=> ?_⟩,trivial⟩
 obtain⟨f,hf,rfl⟩:=Yt.1 m
 obtain⟨g1,g2⟩:=h5 f hf
 exact⟨Ll g1,rW g2,trivial⟩
theorem Nn {x:XWrite}(h:x.Ok 1048576):bM wx x.e:=by
 obtain⟨h1,h2,⟨h3,h4,h5⟩,h6,h7⟩:=h
 exact⟨rW h1,rW h2,rW h3,rW h4,Ll h5,Ll h6,rW h7,trivial⟩
theorem Jj {x:XReplica}(h:x.Ok 1048576):bM mO x.e:=by
 obtain⟨⟨h1,⟨h2,h3⟩,h4⟩,h5,⟨⟨h6,h7,h8,h9⟩,h10,h11⟩⟩:=h
 refine⟨Ll h1,⟨by rw[Zt];unfold maxLen;omega,fun r m=> ?_⟩,rW h4,rW h5,rW h6,rW h7,⟨by rw[Zt];unfold maxLen;omega,fun r m=> ?_⟩,rW h10,rW h11,trivial⟩
 ·obtain⟨f,hf,rfl⟩:=Yt.1 m
  exact Ql (h3 f hf)
 ·obtain⟨f,hf,rfl⟩:=Yt.1 m
  exact Nn (h9 f hf)
theorem JF {α:Type}{e:α→List PV}{B:Nat}:∀{l:List α},(∀x∈l,fg (e x)≤B)→cM (l.map e)≤B*l.length
 |[],_=>by simp[cM]
 |x::l,h=>by
  have:=JF (e:=e) (B:=B) (l:=l) (fun y m=>h y (Y5 _ m))
  have h0:=h x (Xq ..)
  simp only[Zv,cM,Zo,Nat.mul_succ]
  omega
theorem N6 {s:XStore}(h:eO s=true):fg [.str s.name, .lst (s.items.map XItem.e), .int .i64 s.auto]≤4096:=by
 simp only[eO,Zh,Yb]at h
 obtain⟨h1,h2,h3,_⟩:=h
 have hn:=FF h2
 have hl:=of_decide_eq_false h3
 have hi:∀x∈s.items,fg x.e≤128:=by
  intro x m
  obtain⟨j,hj,rfl⟩:=Y4.1 m
  have:=uQ h1 hj
  simp only[GN,hj,show j-1<s.items.length by omega,Zn,Yp,Y6]at this
  obtain⟨k1,k2,_⟩:=this
  have q1:=wl k1
  obtain⟨q2,q3⟩:=tu k2
  have:=JF (e:=XField.e) (B:=8) (l:=s.items[j].rcd.fs) (fun f m=>by have:=(q3 f m).1;simp only[XField.e,fg,sz];omega)
  rw[XItem.e.eq_1]
  simp only[fg,sz,Zt]
  omega
 have:=JF hi
 simp only[fg,sz,Zt]
 omega
theorem xr {α:Type}(e:α→List PV)(p:α→Bool):∀xs:List α,cM ((xs.filter p).map e)≤cM (xs.map e)
 |[]=>Zm _
 |x::xs=>by
  have ih:=xr e p xs
  cases h:p x<;>simp only[List.filter_cons,h,if_true,if_false,Zv,cM,Zy]<;>omega
theorem Cv {c:Nat}:∀{rows:List (List PV)}{j:Nat}{r:List PV}(hj:j<rows.length),fg r≤fg rows[j]+c→cM (rows.set j r)≤cM rows+c
 |x::rows,0,r,_,h=>by simp only[Ye,cM];simp only[Xm]at h;omega
 |x::rows,j+1,r,hj,h=>by
  have ih:=Cv (rows:=rows) (j:=j) (r:=r) (by simpa using hj) (by simpa using h)
  simp only[Ys,cM]
  omega
theorem Re {b:XBucket}{r:XReplica}(h:bM eE b.e)(hr:bM mO r.e):bM eE (fX b r).e:=by
 simp only[XBucket.e,XReplica.e,fX,eE,mO,bM]at h hr⊢
 obtain⟨a0,a1,a2,a3,a4,a5,a6,a7,a8,a9,a10,a11,a12,_,_,_,_,_,_,_,_,_,a22,a23,_⟩:=h
 obtain⟨b0,b1,b2,b3,b4,b5,b6,b7,b8,_⟩:=hr
 exact⟨a0,a1,a2,a3,a4,a5,a6,a7,a8,a9,a10,a11,a12,b0,b1,b2,b3,b4,b5,b6,b7,b8,a22,a23,trivial⟩
def Vq (b:XBucket):List PV:=b.e.take 13
def Ue (b:XBucket):List PV:=b.e.drop 22
theorem S0 {b:XBucket}{r:XReplica}{c:Nat}(h:fg r.e≤fg b.replica.e+c):fg (fX b r).e≤fg b.e+c:=by
 have e1:(fX b r).e=Vq b++(r.e++Ue b):=rfl
 have e2:b.e=Vq b++(b.replica.e++Ue b):=rfl
 rw[e1,e2,Ah,Ah,Ah,Ah]
 omega
theorem TR {r:XReplica}{s:XServer}(h:eO (kg r s).1.base=true):fg (kg r s).1.e≤fg r.e+4096:=by
 have h2:=N6 h
 unfold kg at h h2⊢
 cases c:qR r&&(r7 s&& !(cT (s.changes.length:Nat) r.seen))
 ·simp only[cond_false];omega
 ·rw[c]at h2
  simp only[cond_true]at h2⊢
  have h3:cM ((CC r.sync.outbox (r9 s r.sync.outbox.dev)).1.writes.map XWrite.e)≤cM (r.sync.outbox.writes.map XWrite.e)∧(CC r.sync.outbox (r9 s r.sync.outbox.dev)).1.writes.length≤r.sync.outbox.writes.length:=by
   unfold CC
   cases qQ r.sync.outbox
   ·exact⟨Zm _,Zm _⟩
   ·exact⟨xr XWrite.e _ _,List.length_filter_le _ _⟩
  simp only[XReplica.e,LO,fg,sz,Zt]at h2 h3⊢
  omega
theorem UG {w:XWorld}{s t:List UInt8}(hk:w.Ok 1048576)(h:oQ (.lst eE) (.lst (w.storage.buckets.map XBucket.e))):oQ (.lst eE) (.lst ((Sn w s t).1.map XBucket.e))∧sz (.lst ((Sn w s t).1.map XBucket.e))≤sz (.lst (w.storage.buckets.map XBucket.e))+4096:=by
 rcases FU w s t with⟨_,e⟩|⟨k,hlt,i,hi,_,_,_,_,_,e⟩
 ·rw[e];exact⟨h,Xe _ _⟩
 rw[e]
 cases r2:(vz w.storage.buckets[k] (kg w.storage.buckets[k].replica w.servers[i]).1).2
 ·exact⟨h,Xe _ _⟩
 simp only[cond_true]
 have hrp:(vz w.storage.buckets[k] (kg w.storage.buckets[k].replica w.servers[i]).1).1=fX w.storage.buckets[k] (kg w.storage.buckets[k].replica w.servers[i]).1∧gv (fX w.storage.buckets[k] (kg w.storage.buckets[k].replica w.servers[i]).1)=true:=by
  unfold vz T8 at r2⊢
  cases c:gv w.storage.buckets[k]&&gv (fX w.storage.buckets[k] (kg w.storage.buckets[k].replica w.servers[i]).1)<;>rw[c]at r2
  ·simp at r2
  ·simp only[Zh]at c
   exact⟨rfl,c.2⟩
 rw[hrp.1]
 have hst:eO (kg w.storage.buckets[k].replica w.servers[i]).1.base=true:=by
  have:=hrp.2
  simp only[gv,qR,fX,Zh]at this
  exact this.2.2.2.2.2.2.1.1
 have hz:=TR hst
 have hbo:=hk.2.2.1.2 _ (Zf hlt)
 have hvo:=hk.2.2.2.2.2.2.2.2.2 _ (Zf hi)
 have hpo:=Jj (FW hbo.2.2.2.2.2.1 hvo)
 generalize (kg w.storage.buckets[k].replica w.servers[i]).1=r at*
 obtain⟨h1,h2⟩:=bw h
 have hr:=Re (h2 _ (Yt.2 ⟨_,Zf hlt,rfl⟩)) hpo
 have hlm:k<(w.storage.buckets.map XBucket.e).length:=by rw[Zt];exact hlt
 have hg:(w.storage.buckets.map XBucket.e)[k]'hlm=(w.storage.buckets[k]'hlt).e:=List.getElem_map ..
 have hs2:=Cv (c:=4096) (rows:=w.storage.buckets.map XBucket.e) (r:=(fX (w.storage.buckets[k]'hlt) r).e) hlm (hg▸S0 (b:=w.storage.buckets[k]'hlt) hz)
 rw[List.map_set,ly,ly,Yj]
 refine⟨⟨by rw[Yj];exact h1,fun r' hr'=> ?_⟩,?_⟩
 rotate_left
 ·generalize cM ((w.storage.buckets.map XBucket.e).set k (fX (w.storage.buckets[k]'hlt) r).e)=A at hs2⊢
  generalize cM (w.storage.buckets.map XBucket.e)=B at hs2⊢
  omega
 rcases Yo hr' with m|rfl
 ·exact h2 r' m
 ·exact hr
theorem FI {r0:List PV}{s1 s2:List UInt8}(h0:bM fE r0)(h1:oQ .str (.str s1))(h2:oQ .str (.str s2)):ag Ph aM 614 [.agg (r0.map .pv),eB s1,eB s2]=some (aA true):=by
 obtain⟨w,rfl,hok⟩:=XWorld.of (B:=fg r0) r0 h0 (Zm _)
 have m0:ag Ph aM 104 [.agg (WP w.now w.online w.device (w.storage.buckets.map XBucket.e) (w.pages.map XPage.e) w.nextPage (w.locks.locks.map XLock.e) (w.channel.mails.map XMail.e) (w.sites.map XSite.e) (w.servers.map XServer.e)),aa .i64 1048576]=some (aa .i64 (less 1048576 (fg w.e))):=N4 (ext:=aM) _ h0 1048576 (by omega) (by omega)
 show ag Ph aM 614 [.agg (WP w.now w.online w.device (w.storage.buckets.map XBucket.e) (w.pages.map XPage.e) w.nextPage (w.locks.locks.map XLock.e) (w.channel.mails.map XMail.e) (w.sites.map XSite.e) (w.servers.map XServer.e)),eB s1,eB s2]=_
 by_cases b1:(1048576:Int)<s1.length
 ·refine fJ (fn:=cL) rfl ?_
  simp[WP,cL,b1]
 by_cases b2:(1048576:Int)<s2.length
 ·refine fJ (fn:=cL) rfl ?_
  simp[WP,cL,b1,b2]
 generalize q0:less 1048576 (fg w.e)=l0 at m0
 by_cases n0:l0<0
 ·refine fJ (fn:=cL) rfl ?_
  simp only[WP]at m0
  simp[WP,cL,b1,b2,m0,n0]
 obtain⟨le0,hz0⟩:=Sd (by omega) q0 n0
 have hs0:fg w.e≤1048576:=by omega
 have hk:=XWorld.Ok.mono hs0 hok
 have e1:=xZ hk s1 s2
 have e2:=yt hk s1 s2
 have h0':=h0
 simp only[XWorld.e,fE,bM]at h0'
 obtain⟨g0,g1,g2,g3,g4⟩:=h0'
 have sp:=UG (w:=w) (s:=s1) (t:=s2) hk g3
 refine Qv (d3:=(Sn w s1 s2).1.map XBucket.e) (n:=(Sn w s1 s2).2) h0 hs0 (d0:=w.now) (d1:=w.online) (d2:=w.device) (d4:=w.pages.map XPage.e) (d5:=w.nextPage) (d6:=w.locks.locks.map XLock.e) (d7:=w.channel.mails.map XMail.e) (d8:=w.sites.map XSite.e) (d9:=w.servers.map XServer.e) ?_ ?_ m0 n0 b1 b2 e1 e2
 ·simp only[WR,fE,bM]
  exact⟨g0,g1,g2,sp.1,g4⟩
 ·simp only[XWorld.e,fg]at hs0
  have:=sp.2
  simp only[WR,fg]
  omega
end Gi
