/- Of this proof. -/
import Derived.Test.YtbeaonmepfkmmaaGreatGlBv
import Derived.Test.YtbeaonmepfkmmaaGreatGoPv
import Derived.Test.YtbeaonmepfkmmaaGreatGkdv
import Derived.Test.YtbeaonmepfkmmaaGreatGnAv
set_option linter.unusedSimpArgs false
set_option linter.unusedVariables false
namespace Gi
open Go Go.RowKit
set_option maxHeartbeats 8000000
set_option maxRecDepth 4000
attribute [local simp] start nY bo cj cE dE cD dD dJ dI pa pp pd pq pe pt pf pw pg px ph py pj pz pk pA pm pB V.cells plain bi fT isInt isStr isBool bin bK fR bL fS dF un asList L.view az V.view viewL aS aA bO bg bJ comp aM bA cz bI bc a9 ba av aj aE ai au aQ aq aY bC aD bd bf V.flat L.flat cT cS bq putAt thaw thawL thawT V.ow dH cG cH bM dG bN cF freezeVs freezeLs freezeL V.mut L.mut aI bY fu aZ bB aP dL cf bE cy L.ren aO cX bR cZ bG bD wp_seq wp_block aT cJ bP bh bQ wp_skip wp_exit wp_ret ca b7 ce cd cr ct cq bH aL L.notArr bu br bt cI b6 storeD aV ep a8 bW aU lV L.mov L.closed V.closed PV.bare PV.flat
def yF (w:XWorld)(s t:List UInt8):List Int:=match w.storage.buckets.find? (Ja s t)with
 |none=>[w.now,cond w.online 1 0]
 |some b=>[w.now,cond w.online 1 0,IntKind.i64.wrap (2500-(E9 b:Nat)),b.reg.active,b.reg.waiting,((CU w s t).items.length:Nat),((Bd b.replica.base b.replica.sync.outbox.writes).items.length:Nat),(b.replica.sync.outbox.writes.length:Nat),((w.pages.filter (Ah s t)).length:Nat)]
theorem Qq (w:XWorld)(s t:List UInt8):(yF w s t).length≤9:=by unfold yF;split<;>simp
theorem DX {w:XWorld}(h:w.Ok 1048576)(s t:List UInt8):ah Ph aH 542 [w.v,cU s,cU t]=some (.one (.down 1 ((yF w s t).map kM))):=by
 have hbl:w.storage.buckets.length≤maxLen:=Zc h.2.2.1.1 (by unfold maxLen;omega)
 have e0:=Kc w.online
 have e1:ah Ph aH 146 [w.v,cU s,cU t]=some _:=rV (bs:=w.storage.buckets) hbl s t
 have e3:=tQ h s t
 have e4:=oT (CU w s t)
 have e5:ah Ph aH 551 [w.v,cU s,cU t]=some _:=BR (Zk 1048576) h.2.2.2.1.1 h.2.2.2.1.2 s t
 unfold yF
 simp only[UL]at e3
 simp only[sk]at e4
 generalize CU w s t=dn at*
 generalize V.agg [.pv (.str dn.name),nd 4 (dn.items.map XItem.e), .pv (.int .i64 dn.auto)]=nv at*
 cases hb:w.storage.buckets.find? (Ja s t)with
 |none=>
  rw[hb]at e1
  simp only[Cc]at e1
  refine aa (fn:=kK) rfl ?_
  simp(maxSteps:=9999999) [kK,e0,e1,kM]
 |some b=>
  rw[hb]at e1
  have hbo:=h.2.2.1.2 _ (List.mem_of_find?_eq_some hb)
  have hx:=XBucket.e.eq_1 b
  simp only[hx,Zu,Z4]at e1
  have e2:=BU hbo
  have e6:=wi (r:=b.replica) (by omega) (Zk 1048576) hbo.2.2.2.2.2.1
  have hr:=XReplica.e.eq_1 b.replica
  simp only[hr,Zu,Z4,sk]at e6
  have hlen1:(dn.items.map XItem.e).length=dn.items.length:=by simp
  have hlen2:((Bd b.replica.base b.replica.sync.outbox.writes).items.map XItem.e).length=(Bd b.replica.base b.replica.sync.outbox.writes).items.length:=by simp
  have hlen3:((w.pages.filter (Ah s t)).map XPage.e).length=(w.pages.filter (Ah s t)).length:=by simp
  simp only[←hlen1,←hlen2,←hlen3]
  generalize dn.items.map XItem.e=D1 at*
  generalize Bd b.replica.base b.replica.sync.outbox.writes=ap at*
  generalize ap.items.map XItem.e=D2 at*
  generalize (w.pages.filter (Ah s t)).map XPage.e=D3 at*
  generalize E9 b=us at*
  clear hlen1 hlen2 hlen3
  refine aa (fn:=kK) rfl ?_
  simp(maxSteps:=9999999) [kK,e0,e1,hx,e2,e3, ↓e4,e5,e6,kM, ↓aD, ↓au, ↓aj, ↓av, ↓ai, ↓aE, ↓aq]
theorem EB {w:XWorld}(h:w.Ok 1048576)(s t:List UInt8):ah Ph aH 541 [w.v,cU s,cU t]=some (.one (.own 1 ((yF w s t).map kM))):=by
 have hbl:w.storage.buckets.length≤maxLen:=Zc h.2.2.1.1 (by unfold maxLen;omega)
 have e1:=qc (bs:=w.storage.buckets) hbl s t
 have e3:=uh h s t
 have e4:=oT (CU w s t)
 have e5:ah Ph aH 549 [w.v,cU s,cU t]=some _:=B4 (Zk 1048576) h.2.2.2.1.1 h.2.2.2.1.2 s t
 unfold yF
 simp only[UL]at e3
 simp only[sk]at e4
 generalize CU w s t=dn at*
 generalize V.agg [.pv (.str dn.name),nd 4 (dn.items.map XItem.e), .pv (.int .i64 dn.auto)]=nv at*
 have b0:(cond w.online 1 0:Int)=cond w.online 1 0:=rfl
 rcases o6 (Ja s t) w.storage.buckets with⟨p1,p2⟩|⟨i,hi,p1,p2⟩<;>rw[p1]at e1<;>rw[p2]
 ·have l0:b9 (-1) 0=true:=rfl
  refine aa (fn:=kL) rfl ?_
  cases hon:w.online<;>(simp only[XWorld.v,hon]at e3 e5;simp(maxSteps:=9999999) [kL,e1,l0,hon,kM])
 ·have hbo:=h.2.2.1.2 _ (Zf hi)
  have hx:=XBucket.e.eq_1 w.storage.buckets[i]
  have li:b9 (i:Int) 0=false:=fG (by omega)
  have e2:=B6 hbo
  have e6:=wL (r:=w.storage.buckets[i].replica) (by omega) (Zk 1048576) hbo.2.2.2.2.2.1
  have hr:=XReplica.e.eq_1 w.storage.buckets[i].replica
  simp only[hr,Zu,Z4,sk]at e6
  have hlen1:(dn.items.map XItem.e).length=dn.items.length:=by simp
  have hlen2:((Bd w.storage.buckets[i].replica.base w.storage.buckets[i].replica.sync.outbox.writes).items.map XItem.e).length=(Bd w.storage.buckets[i].replica.base w.storage.buckets[i].replica.sync.outbox.writes).items.length:=by simp
  have hlen3:((w.pages.filter (Ah s t)).map XPage.e).length=(w.pages.filter (Ah s t)).length:=by simp
  simp only[←hlen1,←hlen2,←hlen3]
  generalize dn.items.map XItem.e=D1 at*
  generalize Bd w.storage.buckets[i].replica.base w.storage.buckets[i].replica.sync.outbox.writes=ap at*
  generalize ap.items.map XItem.e=D2 at*
  generalize (w.pages.filter (Ah s t)).map XPage.e=D3 at*
  generalize E9 w.storage.buckets[i]=us at*
  clear hlen1 hlen2 hlen3
  refine aa (fn:=kL) rfl ?_
  cases hon:w.online<;>(simp only[XWorld.v,hon]at e3 e5)<;>simp(maxSteps:=9999999) [kL,e1,hi,hx,li,hon,e2,e3, ↓e4,e5,e6,kM, ↓aD, ↓au, ↓aj, ↓av, ↓ai, ↓aE, ↓aq]
end Gi
namespace Gi
open Go Go.RowKit
set_option maxHeartbeats 8000000
set_option maxRecDepth 8000
attribute [local simp] start f8 aB am aK aW bo cj Opd.ev put V.cells plain bi fT isInt isStr isBool bin cA un asList L.view az V.view viewL done aS aA cN bJ comp aM bA ar V.flat L.flat cT cS bq putAt freezeVs freezeLs freezeL V.mut L.mut lent AObj.unz L.unsub sQ yv la vC mD AO PV.flat PV.bare kY AObj.zone qL thaw thawL thawT V.closed L.closed
theorem PG {c0 c2 c5 l0:Int}{c1:Bool}{c3 c4 c6 c7 c8 c9 g:List (List PV)}{s t:List UInt8}(hg:oI (.lst kF) (.lst g))(hgs:sz (.lst g)≤1000)(h0:bF jd (WR c0 c1 c2 c3 c4 c5 c6 c7 c8 c9))(hs0:fC (WR c0 c1 c2 c3 c4 c5 c6 c7 c8 c9)≤1048576)
 (m0:ah Ph aH 104 [.agg (WP c0 c1 c2 c3 c4 c5 c6 c7 c8 c9),ae .i64 1048576]=some (ae .i64 l0)) (n0:¬l0<0) (ls:¬(1048576:Int)<s.length) (lt:¬(1048576:Int)<t.length)
 (e1:ah Ph aH 542 [.agg (WP c0 c1 c2 c3 c4 c5 c6 c7 c8 c9),cU s,cU t]=some (.one (.down 1 g))) (e2:ah Ph aH 541 [.agg (WP c0 c1 c2 c3 c4 c5 c6 c7 c8 c9),cU s,cU t]=some (.one (.own 1 g))):ah Ph aH 534 [.agg (WP c0 c1 c2 c3 c4 c5 c6 c7 c8 c9),cU s,cU t]=some (aF true):=by
 have to0:ah Ph aH 106 [.agg (WP c0 c1 c2 c3 c4 c5 c6 c7 c8 c9)]=some (.agg (ig jd (WR c0 c1 c2 c3 c4 c5 c6 c7 c8 c9))):=Nh (ext:=aH) _ h0 hs0
 have hset0:(ig jd (WR c0 c1 c2 c3 c4 c5 c6 c7 c8 c9)).map cS=WP c0 c1 c2 c3 c4 c5 c6 c7 c8 c9:=Tp h0
 have hcl0:V.closed (.agg (ig jd (WR c0 c1 c2 c3 c4 c5 c6 c7 c8 c9)))=true:=t6 h0
 have hth0:∀hh,qL hh (.agg (ig jd (WR c0 c1 c2 c3 c4 c5 c6 c7 c8 c9)))=(.agg [.pv (.int .i64 c0), .pv (.bool c1), .pv (.int .i64 c2), .arr hh.length, .arr (hh.length+1), .pv (.int .i64 c5), .arr (hh.length+1+1), .arr (hh.length+1+1+1), .arr (hh.length+1+1+1+1), .arr (hh.length+1+1+1+1+1)],hh++[.zarr 24 c3, .zarr 11 c4, .zarr 4 c6, .zarr 3 c7, .zarr 4 c8, .zarr 5 c9]):=fun hh=>PT h0 hh
 have eq0:ah Ph aH 108 [.agg (WP c0 c1 c2 c3 c4 c5 c6 c7 c8 c9), .agg (WP c0 c1 c2 c3 c4 c5 c6 c7 c8 c9)]=some (aF true):=L6 (ext:=aH) _ h0
 generalize ig jd (WR c0 c1 c2 c3 c4 c5 c6 c7 c8 c9)=OW at to0 hset0 hcl0 hth0
 have cw:=uR d8 _ jd 1 h0 (by decide)
 have mw:=If (ext:=aH) _ h0 1 (by omega) (by unfold BX;omega)
 have cw0:=sS d8 (WR c0 c1 c2 c3 c4 c5 c6 c7 c8 c9) 1
 have cwg:=uR d8 [.lst g] [.lst kF] 1 ⟨hg,trivial⟩ (by decide)
 have hgs':fC [.lst g]≤1000:=by simp only[fC];omega
 have hkg:(gM d8 g 1).2≤BX:=by
  have:(ij d8 [.lst g] 1).2=(gM d8 g 1).2:=by simp only[ij]
  unfold BX;omega
 have eqg:ah Ph aH 78 [aR g,aR g]=some (aF true):=Gz (ext:=aH) g hg
 have mgg:=(AQ (ext:=aH)).2 g hg 1 (by omega) hkg
 have hdg:=J9 (ext:=aH) g hg 1 (by omega) hkg
 have cw3:=wz (mT:=d8) g 1
 simp only[WR,WP,jd,I9,PS,ij,Zu,Z4]at m0 e1 e2 to0 hset0 hth0 eq0 mw cw0 mgg hdg cw3⊢
 have tl:iL.length=24∧nI.length=11∧mK.length=4∧mL.length=3∧nJ.length=4∧jn.length=5:=⟨rfl,rfl,rfl,rfl,rfl,rfl⟩
 simp only[tl]at mw
 simp only[show kF.length=1 from rfl]at mgg
 clear cwg hgs hgs' hkg hg cw h0 hs0 tl
 have hk:=Int.not_lt.2 (Int.le_trans (by decide:(0:Int)≤1) cw0)
 have hk3:=Int.not_lt.2 (Int.le_trans (by decide:(0:Int)≤1) cw3)
 refine fy (fn:=cW) rfl ?_
 simp[cW,m0,n0,ls,lt,to0,hset0, ↓hcl0, ↓hth0,eq0,e1,e2,mw,eqg,mgg,hdg,hk,hk3]
theorem Rb :∀l:List Int,(∀n∈l,ii n)→l.length≤9→oI (.lst kF) (.lst (l.map kM))∧sz (.lst (l.map kM))≤1000:=by
 intro l h hl
 refine⟨⟨by rw[Zv];unfold maxLen;omega,fun r m=> ?_⟩,?_⟩
 ·obtain⟨n,hn,rfl⟩:=List.mem_map.1 m
  have:=h n hn
  unfold ii at this
  simp only[kM,kF,bF,oI,Lit.wf,IntKind.min,IntKind.max,IntKind.signed,IntKind.bits,and_true]
  simp
  omega
 ·have key:∀l:List Int,db (l.map kM)≤8*l.length:=by
   intro l
   induction l with
   |nil=>simp[db]
   |cons n l ih=>simp only[Zu,db,kM,fC,sz,Zo];omega
  have:=key l
  rw[lN,Zv]
  omega
theorem TD {w:XWorld}(h:w.Ok 1048576)(s t:List UInt8):∀n∈yF w s t,ii n:=by
 have hb2:∀b:Bool,ii (cond b 1 0):=fun b=>by cases b<;>simp[ii]
 have hl:∀n:Nat,n≤9223372036854775807→ii (n:Int):=fun n hn=>by unfold ii;omega
 intro n hn
 unfold yF at hn
 split at hn
 ·simp only[Z6,List.not_mem_nil,or_false]at hn
  rcases hn with rfl|rfl
  ·exact h.1
  ·exact hb2 _
 ·rename_i b hb
  have hbo:=h.2.2.1.2 _ (List.mem_of_find?_eq_some hb)
  obtain⟨_,_,hr,_,_,hrp,_⟩:=hbo
  simp only[Z6,List.not_mem_nil,or_false]at hn
  rcases hn with rfl|rfl|rfl|rfl|rfl|rfl|rfl|rfl|rfl
  ·exact h.1
  ·exact hb2 _
  ·exact D0 _
  ·exact hr.2.2.2
  ·exact hr.2.2.1
  ·exact hl _ (Zc (SP h s t).2.1.1 (by omega))
  ·exact hl _ (Zc (LH (by omega) hrp.1 hrp.2.2.1.2.2.2).2.1.1 (by omega))
  ·exact hl _ (Zc hrp.2.2.1.2.2.1 (by omega))
  ·exact hl _ (Zc (List.length_filter_le _ _) (Zc h.2.2.2.1.1 (by omega)))
theorem Mi {r0:List PV}{s1 s2:List UInt8}(h0:bF jd r0)(k1:oI .str (.str s1))(k2:oI .str (.str s2)):ah Ph aH 534 [.agg (r0.map .pv),cU s1,cU s2]=some (aF true):=by
 obtain⟨w,rfl,hok⟩:=XWorld.of (B:=fC r0) r0 h0 (Zk _)
 have m0:ah Ph aH 104 [.agg (WP w.now w.online w.device (w.storage.buckets.map XBucket.e) (w.pages.map XPage.e) w.nextPage (w.locks.locks.map XLock.e) (w.channel.mails.map XMail.e) (w.sites.map XSite.e) (w.servers.map XServer.e)),ae .i64 1048576]=some (ae .i64 (less 1048576 (fC w.e))):=M4 (ext:=aH) _ h0 1048576 (by omega) (by omega)
 show ah Ph aH 534 [.agg (WP w.now w.online w.device (w.storage.buckets.map XBucket.e) (w.pages.map XPage.e) w.nextPage (w.locks.locks.map XLock.e) (w.channel.mails.map XMail.e) (w.sites.map XSite.e) (w.servers.map XServer.e)),cU s1,cU s2]=_
 by_cases b1:(1048576:Int)<s1.length
 ·refine fy (fn:=cW) rfl ?_
  simp[WP,cW,b1]
 by_cases b2:(1048576:Int)<s2.length
 ·refine fy (fn:=cW) rfl ?_
  simp[WP,cW,b1,b2]
 generalize q0:less 1048576 (fC w.e)=l0 at m0
 by_cases n0:l0<0
 ·refine fy (fn:=cW) rfl ?_
  simp only[WP]at m0
  simp[WP,cW,b1,b2,m0,n0]
 obtain⟨le0,hz0⟩:=Rp (by omega) q0 n0
 have hs0:fC w.e≤1048576:=by omega
 have hk:=XWorld.Ok.mono hs0 hok
 obtain⟨t1,t2⟩:=Rb (yF w s1 s2) (TD hk s1 s2) (Qq w s1 s2)
 exact PG t1 t2 h0 hs0 m0 n0 b1 b2 (DX hk s1 s2) (EB hk s1 s2)
end Gi
