/- Of this proof. -/
import Derived.Test.YtbeaonmepfkmmaaGreatGoM
import Derived.Test.YtbeaonmepfkmmaaGreatGlG
import Derived.Test.YtbeaonmepfkmmaaGreatGnA
set_option linter.unusedSimpArgs false
set_option linter.unusedVariables false
namespace Gi
open Go Go.RowKit
set_option maxHeartbeats 8000000
set_option maxRecDepth 4000
attribute [local simp] start nx bZ cJ cB dB cA dA dG dF og oA oh oB ol oC om oD oq oE ot oF ou oG ov oH oz oI V.cells plain bt gD isInt isStr isBool bin bM fF bN fG dC un asList L.view au V.view viewL aT az bQ bd b6 comp aN bU cy bI aY aW aX ar aj aE ah aq aO am aR bw aA aZ a9 V.flat L.flat cZ cV br putAt thaw thawL thawT V.ow dE cD cE bO dD bP cC freezeVs freezeLs freezeL V.mut L.mut aH cd eW bg bF aP dN cu bK cH L.ren aJ cS bX cY bW bE wp_seq wp_block aM cG bR bf bS wp_skip wp_exit wp_ret b9 b8 cj ca cr ct cq bH aF L.notArr bq bo bp cF b7 storeD aS eB ba bY aQ kX L.mov L.closed V.closed PV.bare PV.flat
def NE (a b:XWorld)(s t:List UInt8):Bool:=(mC a s t==mC b s t)&&(match a.storage.buckets.find? (Ck s t),b.storage.buckets.find? (Ck s t)with
 |some x,some y=>Qh x y
 |none,none=>true
 |_,_=>false)
theorem AC {a b:XWorld}(ha:a.Ok 1048576)(hb:b.Ok 1048576)(s t:List UInt8):ag Ph aC 536 [a.v,b.v,di s,di t]=some (aD (NE a b s t)):=by
 have hal:a.storage.buckets.length≤maxLen:=Nat.le_trans ha.2.2.1.1 (by unfold maxLen;omega)
 have hbl:b.storage.buckets.length≤maxLen:=Nat.le_trans hb.2.2.1.1 (by unfold maxLen;omega)
 have v1:=uM ha s t
 have v2:=uM hb s t
 have v3:=yE (a:=mC a s t) (b:=mC b s t) (Nat.le_trans (GW a s t) (by unfold maxLen;omega))
 unfold NE
 generalize (mC a s t).map jS=V1 at*
 generalize (mC b s t).map jS=V2 at*
 generalize (mC a s t==mC b s t)=q at*
 have e1:ag Ph aC 146 [a.v,di s,di t]=some _:=kP (bs:=a.storage.buckets) hal s t
 have e2:ag Ph aC 146 [b.v,di s,di t]=some _:=kP (bs:=b.storage.buckets) hbl s t
 cases h1:a.storage.buckets.find? (Ck s t)with
 |none=>
  rw[h1]at e1
  simp only[tk]at e1
  cases h2:b.storage.buckets.find? (Ck s t)with
  |none=>
   rw[h2]at e2
   simp only[tk]at e2
   cases q<;>(refine aa (fn:=eL) rfl ?_;simp(maxSteps:=9999999) [eL,e1,e2,v1,v2,v3])
  |some y=>
   rw[h2]at e2
   have hy:=XBucket.e.eq_1 y
   simp only[hy,List.map_cons,List.map_nil]at e2
   cases q<;>(refine aa (fn:=eL) rfl ?_;simp(maxSteps:=9999999) [eL,e1,e2,v1,v2,v3])
 |some x=>
  rw[h1]at e1
  have hx:=XBucket.e.eq_1 x
  have hxo:=ha.2.2.1.2 _ (List.mem_of_find?_eq_some h1)
  simp only[hx,List.map_cons,List.map_nil]at e1
  cases h2:b.storage.buckets.find? (Ck s t)with
  |none=>
   rw[h2]at e2
   simp only[tk]at e2
   cases q<;>(refine aa (fn:=eL) rfl ?_;simp(maxSteps:=9999999) [eL,e1,e2,v1,v2,v3])
  |some y=>
   rw[h2]at e2
   have hy:=XBucket.e.eq_1 y
   have e3:=uI (Nat.le_refl 1048576) (x:=x) (y:=y) hxo
   simp only[hx,hy,List.map_cons,List.map_nil]at e2 e3
   cases q<;>(refine aa (fn:=eL) rfl ?_;simp(maxSteps:=9999999) [eL,e1,e2,e3,v1,v2,v3])
theorem AW {a b:XWorld}(ha:a.Ok 1048576)(hb:b.Ok 1048576)(s t:List UInt8):ag Ph aC 535 [a.v,b.v,di s,di t]=some (aD (NE a b s t)):=by
 have hal:a.storage.buckets.length≤maxLen:=Nat.le_trans ha.2.2.1.1 (by unfold maxLen;omega)
 have hbl:b.storage.buckets.length≤maxLen:=Nat.le_trans hb.2.2.1.1 (by unfold maxLen;omega)
 have v1:=vi ha s t
 have v2:=vi hb s t
 have v3:=zf (a:=mC a s t) (b:=mC b s t) (Nat.le_trans (GW a s t) (by unfold maxLen;omega))
 unfold NE
 generalize (mC a s t).map jS=V1 at*
 generalize (mC b s t).map jS=V2 at*
 generalize (mC a s t==mC b s t)=q at*
 have e1:=js (bs:=a.storage.buckets) hal s t
 have e2:=js (bs:=b.storage.buckets) hbl s t
 have l0:cw (-1) 0=true:=rfl
 rcases mw (Ck s t) a.storage.buckets with⟨p1,p2⟩|⟨i,hi,p1,p2⟩<;>rw[p1]at e1<;>rw[p2]<;>rcases mw (Ck s t) b.storage.buckets with⟨q1,q2⟩|⟨j,hj,q1,q2⟩<;>rw[q1]at e2<;>rw[q2]
 ·cases q<;>(refine aa (fn:=eM) rfl ?_;simp(maxSteps:=9999999) [eM,e1,e2,v1,v2,v3,l0])
 ·have lj:cw (j:Int) 0=false:=fB (by omega)
  cases q<;>(refine aa (fn:=eM) rfl ?_;simp(maxSteps:=9999999) [eM,e1,e2,v1,v2,v3,l0,lj])
 ·have li:cw (i:Int) 0=false:=fB (by omega)
  cases q<;>(refine aa (fn:=eM) rfl ?_;simp(maxSteps:=9999999) [eM,e1,e2,v1,v2,v3,l0,li])
 ·have lj:cw (j:Int) 0=false:=fB (by omega)
  have li:cw (i:Int) 0=false:=fB (by omega)
  have hx:=XBucket.e.eq_1 a.storage.buckets[i]
  have hy:=XBucket.e.eq_1 b.storage.buckets[j]
  have e3:=ve (Nat.le_refl 1048576) (x:=a.storage.buckets[i]) (y:=b.storage.buckets[j]) (ha.2.2.1.2 _ (List.getElem_mem hi))
  simp only[hx,hy,List.map_cons,List.map_nil]at e3
  cases q<;>(refine aa (fn:=eM) rfl ?_;simp(maxSteps:=9999999) [eM,e1,e2,e3,v1,v2,v3,li,lj,hi,hj,hx,hy])
end Gi
namespace Gi
open Go Go.RowKit
set_option maxHeartbeats 8000000
set_option maxRecDepth 8000
attribute [local simp] start mr aG aK bA cI bZ cJ Opd.ev put V.cells plain bt gD isInt isStr isBool bin ee un asList L.view au V.view viewL done aT az dO b6 comp aN bU aw V.flat L.flat cZ cV br putAt freezeVs freezeLs freezeL V.mut L.mut lent AObj.unz L.unsub xr CJ rB Ei tH Gz PV.flat PV.bare pG AObj.zone qN thaw thawL thawT V.closed L.closed
theorem OU {c0 c2 c5 d0 d2 d5 l0 l1:Int}{c1 d1 b:Bool}{c3 c4 c6 c7 c8 c9 d3 d4 d6 d7 d8 d9:List (List PV)}{s t:List UInt8}(h0:cP gr (WR c0 c1 c2 c3 c4 c5 c6 c7 c8 c9))(hs0:gM (WR c0 c1 c2 c3 c4 c5 c6 c7 c8 c9)≤1048576)(h1:cP gr (WR d0 d1 d2 d3 d4 d5 d6 d7 d8 d9))(hs1:gM (WR d0 d1 d2 d3 d4 d5 d6 d7 d8 d9)≤1048576)
 (m0:ag Ph aC 104 [.agg (WP c0 c1 c2 c3 c4 c5 c6 c7 c8 c9),ai .i64 1048576]=some (ai .i64 l0)) (n0:¬l0<0) (m1:ag Ph aC 104 [.agg (WP d0 d1 d2 d3 d4 d5 d6 d7 d8 d9),ai .i64 l0]=some (ai .i64 l1)) (n1:¬l1<0) (ls:¬(1048576:Int)<s.length) (lt:¬(1048576:Int)<t.length)
 (e1:ag Ph aC 536 [.agg (WP c0 c1 c2 c3 c4 c5 c6 c7 c8 c9), .agg (WP d0 d1 d2 d3 d4 d5 d6 d7 d8 d9),di s,di t]=some (aD b)) (e2:ag Ph aC 535 [.agg (WP c0 c1 c2 c3 c4 c5 c6 c7 c8 c9), .agg (WP d0 d1 d2 d3 d4 d5 d6 d7 d8 d9),di s,di t]=some (aD b)):ag Ph aC 532 [.agg (WP c0 c1 c2 c3 c4 c5 c6 c7 c8 c9), .agg (WP d0 d1 d2 d3 d4 d5 d6 d7 d8 d9),di s,di t]=some (aD true):=by
 have to0:ag Ph aC 106 [.agg (WP c0 c1 c2 c3 c4 c5 c6 c7 c8 c9)]=some (.agg (gW gr (WR c0 c1 c2 c3 c4 c5 c6 c7 c8 c9))):=E8 (ext:=aC) _ h0 hs0
 have hset0:(gW gr (WR c0 c1 c2 c3 c4 c5 c6 c7 c8 c9)).map cV=WP c0 c1 c2 c3 c4 c5 c6 c7 c8 c9:=Np h0
 have hcl0:V.closed (.agg (gW gr (WR c0 c1 c2 c3 c4 c5 c6 c7 c8 c9)))=true:=rn h0
 have hth0:∀hh,qN hh (.agg (gW gr (WR c0 c1 c2 c3 c4 c5 c6 c7 c8 c9)))=(.agg [.pv (.int .i64 c0), .pv (.bool c1), .pv (.int .i64 c2), .arr hh.length, .arr (hh.length+1), .pv (.int .i64 c5), .arr (hh.length+1+1), .arr (hh.length+1+1+1), .arr (hh.length+1+1+1+1), .arr (hh.length+1+1+1+1+1)],hh++[.zarr 24 c3, .zarr 11 c4, .zarr 4 c6, .zarr 3 c7, .zarr 4 c8, .zarr 5 c9]):=fun hh=>GC h0 hh
 have eq0:ag Ph aC 108 [.agg (WP c0 c1 c2 c3 c4 c5 c6 c7 c8 c9), .agg (WP c0 c1 c2 c3 c4 c5 c6 c7 c8 c9)]=some (aD true):=Dk (ext:=aC) _ h0
 have to1:ag Ph aC 106 [.agg (WP d0 d1 d2 d3 d4 d5 d6 d7 d8 d9)]=some (.agg (gW gr (WR d0 d1 d2 d3 d4 d5 d6 d7 d8 d9))):=E8 (ext:=aC) _ h1 hs1
 have hset1:(gW gr (WR d0 d1 d2 d3 d4 d5 d6 d7 d8 d9)).map cV=WP d0 d1 d2 d3 d4 d5 d6 d7 d8 d9:=Np h1
 have hcl1:V.closed (.agg (gW gr (WR d0 d1 d2 d3 d4 d5 d6 d7 d8 d9)))=true:=rn h1
 have hth1:∀hh,qN hh (.agg (gW gr (WR d0 d1 d2 d3 d4 d5 d6 d7 d8 d9)))=(.agg [.pv (.int .i64 d0), .pv (.bool d1), .pv (.int .i64 d2), .arr hh.length, .arr (hh.length+1), .pv (.int .i64 d5), .arr (hh.length+1+1), .arr (hh.length+1+1+1), .arr (hh.length+1+1+1+1), .arr (hh.length+1+1+1+1+1)],hh++[.zarr 24 d3, .zarr 11 d4, .zarr 4 d6, .zarr 3 d7, .zarr 4 d8, .zarr 5 d9]):=fun hh=>GC h1 hh
 have eq1:ag Ph aC 108 [.agg (WP d0 d1 d2 d3 d4 d5 d6 d7 d8 d9), .agg (WP d0 d1 d2 d3 d4 d5 d6 d7 d8 d9)]=some (aD true):=Dk (ext:=aC) _ h1
 generalize gW gr (WR c0 c1 c2 c3 c4 c5 c6 c7 c8 c9)=OW at to0 hset0 hcl0 hth0
 generalize gW gr (WR d0 d1 d2 d3 d4 d5 d6 d7 d8 d9)=OW1 at to1 hset1 hcl1 hth1
 simp only[WR,WP]at m0 m1 e1 e2 to0 hset0 hth0 eq0 to1 hset1 hth1 eq1⊢
 clear h0 h1 hs0 hs1
 refine gA (fn:=ce) rfl ?_
 cases b<;>simp[ce,m0,n0,m1,n1,ls,lt,to0,hset0, ↓hcl0, ↓hth0,eq0,to1,hset1, ↓hcl1, ↓hth1,eq1,e1,e2]
theorem H0 {r0 r1:List PV}{s1 s2:List UInt8}(h0:cP gr r0)(h1:cP gr r1)(k1:zB .str (.str s1))(k2:zB .str (.str s2)):ag Ph aC 532 [.agg (r0.map .pv), .agg (r1.map .pv),di s1,di s2]=some (aD true):=by
 obtain⟨w,rfl,hok⟩:=XWorld.of (B:=gM r0) r0 h0 (Nat.le_refl _)
 obtain⟨x,rfl,hox⟩:=XWorld.of (B:=gM r1) r1 h1 (Nat.le_refl _)
 have m0:ag Ph aC 104 [.agg (WP w.now w.online w.device (w.storage.buckets.map XBucket.e) (w.pages.map XPage.e) w.nextPage (w.locks.locks.map XLock.e) (w.channel.mails.map XMail.e) (w.sites.map XSite.e) (w.servers.map XServer.e)),ai .i64 1048576]=some (ai .i64 (less 1048576 (gM w.e))):=ER (ext:=aC) _ h0 1048576 (by omega) (by omega)
 show ag Ph aC 532 [.agg (WP w.now w.online w.device (w.storage.buckets.map XBucket.e) (w.pages.map XPage.e) w.nextPage (w.locks.locks.map XLock.e) (w.channel.mails.map XMail.e) (w.sites.map XSite.e) (w.servers.map XServer.e)), .agg (WP x.now x.online x.device (x.storage.buckets.map XBucket.e) (x.pages.map XPage.e) x.nextPage (x.locks.locks.map XLock.e) (x.channel.mails.map XMail.e) (x.sites.map XSite.e) (x.servers.map XServer.e)),di s1,di s2]=_
 by_cases b1:(1048576:Int)<s1.length
 ·refine gA (fn:=ce) rfl ?_
  simp[WP,ce,b1]
 by_cases b2:(1048576:Int)<s2.length
 ·refine gA (fn:=ce) rfl ?_
  simp[WP,ce,b1,b2]
 generalize q0:less 1048576 (gM w.e)=l0 at m0
 by_cases n0:l0<0
 ·refine gA (fn:=ce) rfl ?_
  simp only[WP]at m0
  simp[WP,ce,b1,b2,m0,n0]
 obtain⟨le0,hz0⟩:=J3 (by omega) q0 n0
 have hs0:gM w.e≤1048576:=by omega
 have m1:ag Ph aC 104 [.agg (WP x.now x.online x.device (x.storage.buckets.map XBucket.e) (x.pages.map XPage.e) x.nextPage (x.locks.locks.map XLock.e) (x.channel.mails.map XMail.e) (x.sites.map XSite.e) (x.servers.map XServer.e)),ai .i64 l0]=some (ai .i64 (less l0 (gM x.e))):=ER (ext:=aC) _ h1 l0 (by omega) (by omega)
 generalize q1:less l0 (gM x.e)=l1 at m1
 by_cases n1:l1<0
 ·refine gA (fn:=ce) rfl ?_
  simp only[WP]at m0 m1
  simp[WP,ce,b1,b2,m0,n0,m1,n1]
 obtain⟨le1,hz1⟩:=J3 (by omega) q1 n1
 have hs1:gM x.e≤1048576:=by omega
 have hk:=XWorld.Ok.mono hs0 hok
 have hkx:=XWorld.Ok.mono hs1 hox
 exact OU h0 hs0 h1 hs1 m0 n0 m1 n1 b1 b2 (AC hk hkx s1 s2) (AW hk hkx s1 s2)
end Gi
