/- Of this proof. -/
import Derived.Test.YtgmnakghjemjlabGreatGnD
set_option linter.unusedSimpArgs false
set_option linter.unusedVariables false
namespace Gi
open Go Go.RowKit
set_option maxHeartbeats 8000000
set_option maxRecDepth 4000
attribute [local simp] bw rW bg bY dS fY dR fX f7 f6 um uB uo uC uq uD ur uE ut uF uu uG uw uH uy uI uz uJ V.cells plain bo gr isInt isStr isBool bin cT jF cU jG fZ un asList L.view ap V.view viewL aU ar cX bZ bP comp aK bu dz cr bD bB bC bx bc bU aO bH aS aX bJ bV bI bG bK V.flat L.flat dJ dk bt putAt thaw thawL thawT V.ow f5 dW dX cV f4 cW dV freezeVs freezeLs freezeL V.mut L.mut aJ cG iK aN be aG dv bM bi bS L.ren aV dL ce dO bQ bF wp_seq wp_block bA ed cY ca cZ wp_skip wp_exit wp_ret cK cI cS cL df dg de cq aW L.notArr aR aP aQ dZ bp storeD a9 fT br cE bh nK L.mov L.closed V.closed PV.bare PV.flat
def uA (w:XWorld)(n:Int):XWorld:=⟨w.now+n,w.online,w.device,⟨iJ w.storage.buckets w.pages (w.now+n)⟩,w.pages,w.nextPage,w.locks,w.channel,w.sites,w.servers⟩
def DY (w:XWorld)(n:Int):XWorld×List (List UInt8):=match pG w,rg n 1 100,pG (uA w n)with
 |true,true,true=>(uA w n,lR w.storage.buckets w.pages (w.now+n))
 |_,_,_=>(w,[])
theorem Lt {n a b:Int}:rg n a b=true↔a≤n∧n≤b:=by simp[rg,dA]
theorem G8 {w:XWorld}(h:w.Ok 1048576){n:Int}(b1:pG w=true)(b2:rg n 1 100=true):IntKind.i64.wrap (w.now+n)=w.now+n∧(uA w n).Ok 1048576:=by
 have hn:=Lt.1 b2
 have hw:rg w.now 0 999999990000=true:=by
  unfold pG at b1
  rw[Bool.and_eq_true]at b1
  exact b1.1
 have hw:=Lt.1 hw
 obtain⟨h0,h1,h2,h3,h4,h5,h6,h7,h8⟩:=h
 refine⟨by rw[IntKind.wrap_i64];omega,⟨by unfold uA nW;simp only;omega,h1,⟨?_,fun y m=>h2.2 y (List.mem_filter.1 m).1⟩,h3,h4,h5,h6,h7,h8⟩⟩
 exact Nat.le_trans (sw _ _ _).1 h2.1
theorem wT {w:XWorld}(h:w.Ok 1048576)(n:Int):ag Ph aE 621 [w.v,aa .i64 n]=some (.tup [(true,wN (DY w n).1 (DY w n).1.storage.buckets),(false,[.down 1 ((DY w n).2.map nI)])]):=by
 have c0:=wW (Nat.le_refl 1048576) h
 have e1:=rq h
 have e2:=aZ n 1 100
 unfold DY
 cases b1:pG w<;>rw[b1]at e1
 ·simp only
  rcases eG 24 (w.storage.buckets.map XBucket.e)with⟨q3,u3⟩|⟨q3,u3⟩<;>rcases eG 4 (w.sites.map XSite.e)with⟨q8,u8⟩|⟨q8,u8⟩<;>rcases eG 5 (w.servers.map XServer.e)with⟨q9,u9⟩|⟨q9,u9⟩<;>rw[u3,u8,u9]at c0<;>(refine ae (fn:=fh) rfl ?_;simp(maxSteps:=9999999) [fh,c0,e1,u3,u8,u9])
 obtain⟨n8,n9⟩:=Qr b1
 have u8:=((eG 4 (w.sites.map XSite.e)).resolve_left (fun q=>n8 q.1)).2
 have u9:=((eG 5 (w.servers.map XServer.e)).resolve_left (fun q=>n9 q.1)).2
 cases b2:rg n 1 100<;>rw[b2]at e2
 ·simp only
  rcases eG 24 (w.storage.buckets.map XBucket.e)with⟨q3,u3⟩|⟨q3,u3⟩<;>rw[u3,u8,u9]at c0<;>(refine ae (fn:=fh) rfl ?_;simp(maxSteps:=9999999) [fh,c0,e1,e2,u3,u8,u9])
 obtain⟨wn,hok⟩:=G8 h b1 b2
 have e3:=yR (bs:=w.storage.buckets) h.2.2.1.1 h.2.2.1.2 (ps:=w.pages) h.2.2.2.1.1 (w.now+n)
 have e4:=rq hok
 cases b3:pG (uA w n)<;>rw[b3]at e4
 all_goals
  simp only[uA,XWorld.v,wN]at e4⊢
  rcases eG 24 ((iJ w.storage.buckets w.pages (w.now+n)).map XBucket.e)with⟨q4,u4⟩|⟨q4,u4⟩<;>rcases eG 24 (w.storage.buckets.map XBucket.e)with⟨q3,u3⟩|⟨q3,u3⟩<;>(try rw[q4]at e4)<;>(try rw[q3]at e3)<;>rw[u3,u8,u9]at c0<;>rw[u4]at e3<;>(refine ae (fn:=fh) rfl ?_;simp(maxSteps:=9999999) [fh,c0,e1,e2,e3,e4,wn,u3,u4,u8,u9])
theorem xr {w:XWorld}(h:w.Ok 1048576)(n:Int):ag Ph aE 620 [w.v,aa .i64 n]=some (.tup [(true,wO (DY w n).1 (DY w n).1.storage.buckets),(false,[.own 1 ((DY w n).2.map nI)])]):=by
 have c0:=Br (Nat.le_refl 1048576) h
 have e1:=rB h
 have e2:=bq n 1 100
 unfold DY
 cases b1:pG w<;>rw[b1]at e1
 ·simp only
  rcases Bz 24 (w.storage.buckets.map XBucket.e)with⟨q3,u3,v3⟩|⟨q3,u3,v3⟩<;>rw[u3]at c0<;>(refine ae (fn:=fi) rfl ?_;simp(maxSteps:=9999999) [fi,c0,e1,v3])
 cases b2:rg n 1 100<;>rw[b2]at e2
 ·simp only
  rcases Bz 24 (w.storage.buckets.map XBucket.e)with⟨q3,u3,v3⟩|⟨q3,u3,v3⟩<;>rw[u3]at c0<;>(refine ae (fn:=fi) rfl ?_;simp(maxSteps:=9999999) [fi,c0,e1,e2,v3])
 obtain⟨wn,hok⟩:=G8 h b1 b2
 have e3:=zt (bs:=w.storage.buckets) h.2.2.1.1 h.2.2.1.2 (ps:=w.pages) h.2.2.2.1.1 (w.now+n)
 have e4:=rB hok
 cases b3:pG (uA w n)<;>rw[b3]at e4
 all_goals
  simp only[uA,XWorld.v,wO]at e4⊢
  rcases Bz 24 ((iJ w.storage.buckets w.pages (w.now+n)).map XBucket.e)with⟨q4,u4,v4⟩|⟨q4,u4,v4⟩<;>rcases Bz 24 (w.storage.buckets.map XBucket.e)with⟨q3,u3,v3⟩|⟨q3,u3,v3⟩<;>(try rw[q4]at e4)<;>rw[u3]at c0<;>rw[v4]at e3<;>(refine ae (fn:=fi) rfl ?_;simp(maxSteps:=9999999) [fi,c0,e1,e2,e3,e4,wn,v3,v4])
end Gi
namespace Gi
open Go Go.RowKit
set_option maxHeartbeats 8000000
set_option maxRecDepth 8000
attribute [local simp] bw fm aj ah aw aH bg bY Opd.ev put V.cells plain bo gr isInt isStr isBool bin bN un asList L.view ap V.view viewL done aU ar bz bP comp aK bu ai V.flat L.flat dJ dk bt putAt freezeVs freezeLs freezeL V.mut L.mut lent AObj.unz L.unsub oX rh jn ru jY ub PV.flat PV.bare jg AObj.zone pk thaw thawL thawT V.closed L.closed
theorem ML {c0 c2 c5 d0 d2 d5 l0:Int}{c1 d1:Bool}{c3 c4 c6 c7 c8 c9 d3 d4 d6 d7 d8 d9:List (List PV)}{n:Int}{g:List (List PV)}(hg:nE (.lst eW) (.lst g))(hgs:sz (.lst g)≤4194304)(h0:bf eE (WR c0 c1 c2 c3 c4 c5 c6 c7 c8 c9))(hs0:eV (WR c0 c1 c2 c3 c4 c5 c6 c7 c8 c9)≤1048576)(h1:bf eE (WR d0 d1 d2 d3 d4 d5 d6 d7 d8 d9))(hs1:eV (WR d0 d1 d2 d3 d4 d5 d6 d7 d8 d9)≤2097152)(m0:ag Ph aE 104 [.agg (WP c0 c1 c2 c3 c4 c5 c6 c7 c8 c9),aa .i64 1048576]=some (aa .i64 l0))(n0:¬l0<0)
 (e1:ag Ph aE 621 [.agg (WP c0 c1 c2 c3 c4 c5 c6 c7 c8 c9),aa .i64 n]=some (.tup [(true,[.pv (.int .i64 d0), .pv (.bool d1), .pv (.int .i64 d2),nd 24 d3, .down 11 d4, .pv (.int .i64 d5), .down 4 d6, .down 3 d7,nd 4 d8,nd 5 d9]),(false,[.down 1 g])]))
 (e2:ag Ph aE 620 [.agg (WP c0 c1 c2 c3 c4 c5 c6 c7 c8 c9),aa .i64 n]=some (.tup [(true,[.pv (.int .i64 d0), .pv (.bool d1), .pv (.int .i64 d2),A8 24 d3, .own 11 d4, .pv (.int .i64 d5), .own 4 d6, .own 3 d7, .own 4 d8, .own 5 d9]),(false,[.own 1 g])])):ag Ph aE 611 [.agg (WP c0 c1 c2 c3 c4 c5 c6 c7 c8 c9),aa .i64 n]=some (au true):=by
 have to0:ag Ph aE 106 [.agg (WP c0 c1 c2 c3 c4 c5 c6 c7 c8 c9)]=some (.agg (gM eE (WR c0 c1 c2 c3 c4 c5 c6 c7 c8 c9))):=KM (ext:=aE) _ h0 hs0
 have hset:(gM eE (WR c0 c1 c2 c3 c4 c5 c6 c7 c8 c9)).map dk=WP c0 c1 c2 c3 c4 c5 c6 c7 c8 c9:=PA h0
 have hcl:V.closed (.agg (gM eE (WR c0 c1 c2 c3 c4 c5 c6 c7 c8 c9)))=true:=sE h0
 have hth:∀hh,pk hh (.agg (gM eE (WR c0 c1 c2 c3 c4 c5 c6 c7 c8 c9)))=(.agg [.pv (.int .i64 c0), .pv (.bool c1), .pv (.int .i64 c2), .arr hh.length, .arr (hh.length+1), .pv (.int .i64 c5), .arr (hh.length+1+1), .arr (hh.length+1+1+1), .arr (hh.length+1+1+1+1), .arr (hh.length+1+1+1+1+1)],hh++[.zarr 24 c3, .zarr 11 c4, .zarr 4 c6, .zarr 3 c7, .zarr 4 c8, .zarr 5 c9]):=fun hh=>MV h0 hh
 have eq0:ag Ph aE 108 [.agg (WP c0 c1 c2 c3 c4 c5 c6 c7 c8 c9), .agg (WP c0 c1 c2 c3 c4 c5 c6 c7 c8 c9)]=some (au true):=B7 (ext:=aE) _ h0
 have eq1:ag Ph aE 108 [.agg (WP d0 d1 d2 d3 d4 d5 d6 d7 d8 d9), .agg (WP d0 d1 d2 d3 d4 d5 d6 d7 d8 d9)]=some (au true):=B7 (ext:=aE) _ h1
 generalize gM eE (WR c0 c1 c2 c3 c4 c5 c6 c7 c8 c9)=OW at to0 hset hcl hth
 have cw:=qZ ak _ eE 1 h0 (by decide)
 have cw1:=qZ ak _ eE 1 h1 (by decide)
 have mw:=GI (ext:=aE) _ h0 1 (by omega) (by unfold tn;omega)
 have hd:=GC (ext:=aE) _ h1 1 (by omega) (by unfold tn;omega)
 have cw0:=lZ ak (WR c0 c1 c2 c3 c4 c5 c6 c7 c8 c9) 1
 have cw2:=lZ ak (WR d0 d1 d2 d3 d4 d5 d6 d7 d8 d9) 1
 have hk1:(eI ak (WR d0 d1 d2 d3 d4 d5 d6 d7 d8 d9) 1).2≤tn:=by unfold tn;omega
 have cwg:=qZ ak [.lst g] [.lst eW] (eI ak (WR d0 d1 d2 d3 d4 d5 d6 d7 d8 d9) 1).2 ⟨hg,trivial⟩ (by decide)
 have hgs':eV [.lst g]≤4194304:=by simp only[eV];omega
 have hkg:(bR ak g (eI ak (WR d0 d1 d2 d3 d4 d5 d6 d7 d8 d9) 1).2).2≤tn:=by
  have:(eI ak [.lst g] (eI ak (WR d0 d1 d2 d3 d4 d5 d6 d7 d8 d9) 1).2).2=(bR ak g (eI ak (WR d0 d1 d2 d3 d4 d5 d6 d7 d8 d9) 1).2).2:=by simp only[eI]
  unfold tn;omega
 have eqg:ag Ph aE 208 [bm g,bm g]=some (au true):=vY (ext:=aE) g hg
 have mgg:=(sC (ext:=aE)).2 g hg (eI ak (WR d0 d1 d2 d3 d4 d5 d6 d7 d8 d9) 1).2 (by omega) hkg
 have hdg:=si (ext:=aE) g hg (eI ak (WR d0 d1 d2 d3 d4 d5 d6 d7 d8 d9) 1).2 (by omega) hkg
 have cw3:1≤(bR ak g (eI ak (WR d0 d1 d2 d3 d4 d5 d6 d7 d8 d9) 1).2).2:=Int.le_trans cw2 (mR ak g _)
 have mg:=R5 h1 (k:=1) (by omega) hk1
 simp only[WR,WP,eE,Hr,MU,eI,List.map_cons,List.map_nil]at m0 e1 e2 to0 hset hth eq0 eq1 mw hd cw0 cw2 mgg hdg cw3⊢
 have tl:fk.length=24∧jj.length=11∧iG.length=4∧iH.length=3∧jk.length=4∧fI.length=5:=⟨rfl,rfl,rfl,rfl,rfl,rfl⟩
 simp only[tl]at mw
 simp only[show eW.length=1 from rfl]at mgg
 clear cwg hgs hgs' hkg hg cw cw1 h0 h1 hs0 hs1 hk1 tl
 rcases Fv 24 d3 with⟨rfl,u3,v3,w3,o3⟩|⟨_,u3,v3,w3,o3⟩<;>rcases Fv 4 d8 with⟨rfl,u8,v8,w8,o8⟩|⟨_,u8,v8,w8,o8⟩<;>rcases Fv 5 d9 with⟨rfl,u9,v9,w9,o9⟩|⟨_,u9,v9,w9,o9⟩
 all_goals
  simp only[u3,u8,u9]at e1
  simp only[o3]at e2
  simp only[v3,v8,v9,w3,w8,w9]at mg
  (try simp only[Pt]at mg hd cw2 mgg hdg cw3)
  have hk:=Int.not_lt.2 (Int.le_trans (by decide:(0:Int)≤1) cw0)
  have hk2:=Int.not_lt.2 (Int.le_trans (by decide:(0:Int)≤1) cw2)
  have hk3:=Int.not_lt.2 (Int.le_trans (by decide:(0:Int)≤1) cw3)
  refine fS (fn:=eD) rfl ?_
  simp[eD,m0,n0,to0,hset, ↓hcl, ↓hth,eq0,eq1,e1,e2,mw,mg,hd,eqg,mgg,hdg,hk,hk2,hk3]
end Gi
namespace Gi
open Go Go.RowKit
set_option maxHeartbeats 8000000
set_option maxRecDepth 8000
attribute [local simp] bw fm aj ah aw aH bg bY Opd.ev put V.cells plain bo gr isInt isStr isBool bin bN un asList L.view ap V.view viewL done aU ar bz bP comp aK bu ai V.flat L.flat dJ dk bt putAt freezeVs freezeLs freezeL V.mut L.mut lent AObj.unz L.unsub oX rh jn ru jY ub PV.flat PV.bare jg AObj.zone
theorem ul {α:Type}(e:α→List PV)(p:α→Bool):∀xs:List α,cu ((xs.filter p).map e)≤cu (xs.map e)
 |[]=>Nat.le_refl _
 |x::xs=>by
  have ih:=ul e p xs
  cases h:p x<;>simp only[List.filter_cons,h,if_true,if_false,List.map_cons,cu,Bool.false_eq_true]<;>omega
theorem K6 :∀(bs:List XBucket)(p:XBucket→Bool),sz (.lst (((bs.filter p).map fun b=>b.site++[47]++b.top).map nI))≤2*sz (.lst (bs.map XBucket.e))
 |[],_=>by simp[sz,cu]
 |b::bs,p=>by
  have ih:=K6 bs p
  simp only[jZ,List.length_map]at ih⊢
  cases h:p b
  ·simp only[List.filter_cons,h,if_false,List.map_cons,cu,List.length_cons,Bool.false_eq_true]
   omega
  ·simp only[List.filter_cons,h,if_true,List.map_cons,cu,List.length_cons,nI,eV,sz,XBucket.e,List.length_append,List.length_nil]at ih⊢
   omega
theorem QT {n:Int}(h:nW n):nE (.int .i64) (.int .i64 n):=by
 unfold nW at h
 simp only[nE,Lit.wf,IntKind.min,IntKind.max,IntKind.signed,IntKind.bits]
 simp
 omega
theorem Qn {w:XWorld}{n:Int}(hk:w.Ok 1048576)(h:bf eE w.e):bf eE (DY w n).1.e∧eV (DY w n).1.e≤eV w.e∧nE (.lst eW) (.lst ((DY w n).2.map nI))∧sz (.lst ((DY w n).2.map nI))≤2*eV w.e:=by
 unfold DY
 split
 ·rename_i b1 b2 _
  have ho:=(G8 hk b1 b2).2
  simp only[XWorld.e,eE,bf]at h
  obtain⟨g0,g1,g2,g3,g4⟩:=h
  obtain⟨r1,r2⟩:=aL g3
  have hf:=ul XBucket.e (fun b=> !(A5 b w.pages (w.now+n))) w.storage.buckets
  have hl:((iJ w.storage.buckets w.pages (w.now+n)).map XBucket.e).length≤(w.storage.buckets.map XBucket.e).length:=by rw[List.length_map,List.length_map];exact(sw _ _ _).1
  have hz:=K6 w.storage.buckets (fun b=>A5 b w.pages (w.now+n))
  refine⟨?_,?_,⟨?_,?_⟩,?_⟩
  ·simp only[XWorld.e,uA,eE,bf]
   exact⟨QT ho.1,g1,g2,⟨Nat.le_trans hl r1,fun r m=>by
    obtain⟨b,hb,rfl⟩:=List.mem_map.1 m
    exact r2 _ (List.mem_map.2 ⟨b,(List.mem_filter.1 hb).1,rfl⟩)⟩,g4⟩
  ·simp only[XWorld.e,uA,eV,jZ,iJ]at hl hf⊢
   simp only[sz]at hl hf⊢
   omega
  ·rw[List.length_map]
   refine Nat.le_trans (sw _ _ _).2 ?_
   rw[List.length_map]at r1;exact r1
  ·intro r m
   obtain⟨s,hs,rfl⟩:=List.mem_map.1 m
   obtain⟨b,hb,rfl⟩:=List.mem_map.1 hs
   obtain⟨q1,q2,_⟩:=hk.2.2.1.2 b ((List.mem_filter.1 hb).1)
   simp only[nI,eW,bf,nE,List.length_append,List.length_cons,List.length_nil,and_true]
   unfold maxLen;omega
  ·refine Nat.le_trans hz ?_
   simp only[XWorld.e,eV]
   omega
 ·exact⟨h,Nat.le_refl _,⟨by simp,by simp⟩,by simp[sz,cu]⟩
theorem EQ {r0:List PV}{n:Int}(h0:bf eE r0)(h1:nE (.int .i64) (.int .i64 n)):ag Ph aE 611 [.agg (r0.map .pv),aa .i64 n]=some (au true):=by
 obtain⟨w,rfl,hok⟩:=XWorld.of (B:=eV r0) r0 h0 (Nat.le_refl _)
 have m0:ag Ph aE 104 [.agg (WP w.now w.online w.device (w.storage.buckets.map XBucket.e) (w.pages.map XPage.e) w.nextPage (w.locks.locks.map XLock.e) (w.channel.mails.map XMail.e) (w.sites.map XSite.e) (w.servers.map XServer.e)),aa .i64 1048576]=some (aa .i64 (less 1048576 (eV w.e))):=Kz (ext:=aE) _ h0 1048576 (by omega) (by omega)
 show ag Ph aE 611 [.agg (WP w.now w.online w.device (w.storage.buckets.map XBucket.e) (w.pages.map XPage.e) w.nextPage (w.locks.locks.map XLock.e) (w.channel.mails.map XMail.e) (w.sites.map XSite.e) (w.servers.map XServer.e)),aa .i64 n]=_
 generalize q0:less 1048576 (eV w.e)=l0 at m0
 by_cases n0:l0<0
 ·refine fS (fn:=eD) rfl ?_
  simp only[WP]at m0
  simp[WP,eD,m0,n0]
 obtain⟨le0,hz0⟩:=Oj (by omega) q0 n0
 have hs0:eV w.e≤1048576:=by omega
 have hk:=XWorld.Ok.mono hs0 hok
 have e1:=wT hk n
 have e2:=xr hk n
 obtain⟨t1,t2,t3,t4⟩:=Qn (n:=n) hk h0
 exact ML (d0:=(DY w n).1.now) (d1:=(DY w n).1.online) (d2:=(DY w n).1.device) (d3:=(DY w n).1.storage.buckets.map XBucket.e) (d4:=(DY w n).1.pages.map XPage.e) (d5:=(DY w n).1.nextPage) (d6:=(DY w n).1.locks.locks.map XLock.e) (d7:=(DY w n).1.channel.mails.map XMail.e) (d8:=(DY w n).1.sites.map XSite.e) (d9:=(DY w n).1.servers.map XServer.e) t3 (by omega) h0 hs0 t1 (Nat.le_trans t2 (by omega)) m0 n0 e1 e2
end Gi
