/- Of this proof. -/
import Derived.Test.YtpfadfkomcbecaaGreatGkq
import Derived.Test.YtpfadfkomcbecaaGreatGpB
set_option linter.unusedSimpArgs false
set_option linter.unusedVariables false
namespace Gi
open Go Go.RowKit
set_option maxHeartbeats 8000000
set_option maxRecDepth 8000
attribute [local simp] start ft aj ah az aH bf bU Opd.ev put V.cells plain bm gu isInt isStr isBool bin bM un asList L.view ap V.view viewL done aV au bE bN comp aK bq ai V.flat L.flat dG dk bt putAt freezeVs freezeLs freezeL V.mut L.mut lent AObj.unz L.unsub ql tM jW sL k8 xB PV.flat PV.bare jP AObj.zone pV thaw thawL thawT V.closed L.closed
theorem N7 {c0 c2 c5 d0 d2 d5 l0:Int}{c1 d1 b:Bool}{c3 c4 c6 c7 c8 c9 d3 d4 d6 d7 d8 d9:List (List PV)}{n:Int}(h0:aZ ew (WR c0 c1 c2 c3 c4 c5 c6 c7 c8 c9))(hs0:eK (WR c0 c1 c2 c3 c4 c5 c6 c7 c8 c9)≤1048576)(h1:aZ ew (WR d0 d1 d2 d3 d4 d5 d6 d7 d8 d9))(hs1:eK (WR d0 d1 d2 d3 d4 d5 d6 d7 d8 d9)≤2097152)(m0:ag Ph aF 104 [.agg (WP c0 c1 c2 c3 c4 c5 c6 c7 c8 c9),aa .i64 1048576]=some (aa .i64 l0))(n0:¬l0<0)
 (e1:ag Ph aF 623 [.agg (WP c0 c1 c2 c3 c4 c5 c6 c7 c8 c9),aa .i64 n]=some (.tup [(true,[.pv (.int .i64 d0), .pv (.bool d1), .pv (.int .i64 d2),nd 24 d3, .down 11 d4, .pv (.int .i64 d5), .down 4 d6, .down 3 d7,nd 4 d8,nd 5 d9]),(false,[.pv (.bool b)])]))
 (e2:ag Ph aF 622 [.agg (WP c0 c1 c2 c3 c4 c5 c6 c7 c8 c9),aa .i64 n]=some (.tup [(true,[.pv (.int .i64 d0), .pv (.bool d1), .pv (.int .i64 d2),FN 24 d3, .own 11 d4, .pv (.int .i64 d5), .own 4 d6, .own 3 d7, .own 4 d8, .own 5 d9]),(false,[.pv (.bool b)])])):ag Ph aF 612 [.agg (WP c0 c1 c2 c3 c4 c5 c6 c7 c8 c9),aa .i64 n]=some (ar true):=by
 have to0:ag Ph aF 106 [.agg (WP c0 c1 c2 c3 c4 c5 c6 c7 c8 c9)]=some (.agg (gQ ew (WR c0 c1 c2 c3 c4 c5 c6 c7 c8 c9))):=L5 (ext:=aF) _ h0 hs0
 have hset:(gQ ew (WR c0 c1 c2 c3 c4 c5 c6 c7 c8 c9)).map dk=WP c0 c1 c2 c3 c4 c5 c6 c7 c8 c9:=Q9 h0
 have hcl:V.closed (.agg (gQ ew (WR c0 c1 c2 c3 c4 c5 c6 c7 c8 c9)))=true:=sR h0
 have hth:∀hh,pV hh (.agg (gQ ew (WR c0 c1 c2 c3 c4 c5 c6 c7 c8 c9)))=(.agg [.pv (.int .i64 c0), .pv (.bool c1), .pv (.int .i64 c2), .arr hh.length, .arr (hh.length+1), .pv (.int .i64 c5), .arr (hh.length+1+1), .arr (hh.length+1+1+1), .arr (hh.length+1+1+1+1), .arr (hh.length+1+1+1+1+1)],hh++[.zarr 24 c3, .zarr 11 c4, .zarr 4 c6, .zarr 3 c7, .zarr 4 c8, .zarr 5 c9]):=fun hh=>Oh h0 hh
 have eq0:ag Ph aF 108 [.agg (WP c0 c1 c2 c3 c4 c5 c6 c7 c8 c9), .agg (WP c0 c1 c2 c3 c4 c5 c6 c7 c8 c9)]=some (ar true):=CN (ext:=aF) _ h0
 have eq1:ag Ph aF 108 [.agg (WP d0 d1 d2 d3 d4 d5 d6 d7 d8 d9), .agg (WP d0 d1 d2 d3 d4 d5 d6 d7 d8 d9)]=some (ar true):=CN (ext:=aF) _ h1
 generalize gQ ew (WR c0 c1 c2 c3 c4 c5 c6 c7 c8 c9)=OW at to0 hset hcl hth
 have cw:=tJ am _ ew 1 h0 (by decide)
 have cw1:=tJ am _ ew 1 h1 (by decide)
 have mw:=HG (ext:=aF) _ h0 1 (by omega) (by unfold uB;omega)
 have hd:=Hw (ext:=aF) _ h1 1 (by omega) (by unfold uB;omega)
 have cw0:=mn am (WR c0 c1 c2 c3 c4 c5 c6 c7 c8 c9) 1
 have cw2:=mn am (WR d0 d1 d2 d3 d4 d5 d6 d7 d8 d9) 1
 have hk1:(eX am (WR d0 d1 d2 d3 d4 d5 d6 d7 d8 d9) 1).2≤uB:=by unfold uB;omega
 have mg:=TR h1 (k:=1) (by omega) hk1
 simp only[WR,WP,ew,Ix,Og,eX,List.map_cons,List.map_nil]at m0 e1 e2 to0 hset hth eq0 eq1 mw hd cw0 cw2⊢
 have tl:ff.length=24∧gZ.length=11∧gL.length=4∧iL.length=3∧jo.length=4∧fD.length=5:=⟨rfl,rfl,rfl,rfl,rfl,rfl⟩
 simp only[tl]at mw
 clear cw cw1 h0 h1 hs0 hs1 hk1 tl
 rcases Gu 24 d3 with⟨rfl,u3,v3,w3,o3⟩|⟨_,u3,v3,w3,o3⟩<;>rcases Gu 4 d8 with⟨rfl,u8,v8,w8,o8⟩|⟨_,u8,v8,w8,o8⟩<;>rcases Gu 5 d9 with⟨rfl,u9,v9,w9,o9⟩|⟨_,u9,v9,w9,o9⟩
 all_goals
  simp only[u3,u8,u9]at e1
  simp only[o3]at e2
  simp only[v3,v8,v9,w3,w8,w9]at mg
  (try simp only[Q2]at mg hd cw2)
  have hk:=Int.not_lt.2 (Int.le_trans (by decide:(0:Int)≤1) cw0)
  have hk2:=Int.not_lt.2 (Int.le_trans (by decide:(0:Int)≤1) cw2)
  refine fQ (fn:=eD) rfl ?_
  simp[eD,m0,n0,to0,hset, ↓hcl, ↓hth,eq0,eq1,e1,e2,mw,mg,hd,hk,hk2]
end Gi
namespace Gi
open Go Go.RowKit
set_option maxHeartbeats 8000000
set_option maxRecDepth 8000
attribute [local simp] start ft aj ah az aH bf bU Opd.ev put V.cells plain bm gu isInt isStr isBool bin bM un asList L.view ap V.view viewL done aV au bE bN comp aK bq ai V.flat L.flat dG dk bt putAt freezeVs freezeLs freezeL V.mut L.mut lent AObj.unz L.unsub ql tM jW sL k8 xB PV.flat PV.bare jP AObj.zone
theorem uG {α:Type}(e:α→List PV)(p:α→Bool):∀xs:List α,bP ((xs.filter p).map e)≤bP (xs.map e)
 |[]=>Nat.le_refl _
 |x::xs=>by
  have ih:=uG e p xs
  cases h:p x<;>simp only[List.filter_cons,h,if_true,if_false,List.map_cons,bP,Bool.false_eq_true]<;>omega
theorem EA :∀{rows:List (List PV)}{j:Nat}{r:List PV}(hj:j<rows.length),eK r=eK rows[j]→bP (rows.set j r)=bP rows
 |x::rows,0,r,_,h=>by simp only[List.set_cons_zero,bP];simp only[List.getElem_cons_zero]at h;omega
 |x::rows,j+1,r,hj,h=>by
  have ih:=EA (rows:=rows) (j:=j) (r:=r) (by simpa using hj) (by simpa using h)
  simp only[List.set_cons_succ,bP,ih]
theorem Pm {p:XPage}(h:aZ tg p.e):aZ tg (ul p).e∧eK (ul p).e=eK p.e:=by
 refine⟨?_,by simp only[XPage.e,ul,eK,sz]⟩
 simp only[XPage.e,ul,tg,aZ,nv]at h⊢
 exact h
theorem Oi {ps:List XPage}{j:Nat}{p:XPage}(hp:ps[j]? =some p)(h:nv (.lst gZ) (.lst (ps.map XPage.e))):nv (.lst gZ) (.lst ((ps.set j (ul p)).map XPage.e))∧sz (.lst ((ps.set j (ul p)).map XPage.e))=sz (.lst (ps.map XPage.e)):=by
 obtain⟨hj,rfl⟩:=List.getElem?_eq_some_iff.1 hp
 obtain⟨h1,h2⟩:=aL h
 have hr:=Pm (h2 _ (List.mem_map.2 ⟨_,List.getElem_mem hj,rfl⟩))
 rw[List.map_set,jc,jc,List.length_set,EA (by simpa using hj) (by simpa using hr.2)]
 refine⟨⟨by simpa using h1,fun r hr'=> ?_⟩,rfl⟩
 rcases List.mem_or_eq_of_mem_set hr' with m|rfl
 ·exact h2 r m
 ·exact hr.1
theorem Ob {ls:List XLock}{page:Int}(h:nv (.lst gL) (.lst (ls.map XLock.e))):nv (.lst gL) (.lst ((FO page ls).map XLock.e))∧sz (.lst ((FO page ls).map XLock.e))≤sz (.lst (ls.map XLock.e)):=by
 obtain⟨h1,h2⟩:=aL h
 have hl:=zJ page ls
 have hgl:(FO page ls).length=(mF page ls).length:=pf _ _
 have hh:(FO page ls).map Lc=(mF page ls).map Lc:=Gp _ _
 have hz:bP ((FO page ls).map XLock.e)=bP ((mF page ls).map XLock.e):=by rw[Ai,hh,←Ai]
 have hf:bP ((mF page ls).map XLock.e)≤bP (ls.map XLock.e):=uG XLock.e _ ls
 rw[List.length_map]at h1
 refine⟨⟨by rw[List.length_map];omega,fun r m=> ?_⟩,by rw[jc,jc,List.length_map,List.length_map];omega⟩
 obtain⟨x,hx,rfl⟩:=List.mem_map.1 m
 have hm:Lc x∈(mF page ls).map Lc:=by rw[←hh];exact List.mem_map.2 ⟨x,hx,rfl⟩
 obtain⟨y,hy,hxy⟩:=List.mem_map.1 hm
 have:=h2 _ (List.mem_map.2 ⟨y,(List.mem_filter.1 hy).1,rfl⟩)
 exact(PC x).2 (hxy▸(PC y).1 this)
theorem RS {w:XWorld}{n:Int}(h:aZ ew w.e):aZ ew (ER w n).1.e∧eK (ER w n).1.e≤eK w.e:=by
 unfold ER
 split
 ·split
  ·rename_i p hp
   simp only[XWorld.e,ew,aZ]at h
   obtain⟨g0,g1,g2,g3,g4,g5,g6,g7⟩:=h
   have a:=Oi hp g4
   have b:=Ob (page:=n) g6
   refine⟨?_,?_⟩
   ·simp only[XWorld.e,ew,aZ]
    exact⟨g0,g1,g2,g3,a.1,g5,b.1,g7⟩
   ·simp only[XWorld.e,eK,a.2]
    have:=b.2
    omega
  ·exact⟨h,Nat.le_refl _⟩
 ·exact⟨h,Nat.le_refl _⟩
theorem Hz {r0:List PV}{n:Int}(h0:aZ ew r0)(h1:nv (.int .i64) (.int .i64 n)):ag Ph aF 612 [.agg (r0.map .pv),aa .i64 n]=some (ar true):=by
 obtain⟨w,rfl,hok⟩:=XWorld.of (B:=eK r0) r0 h0 (Nat.le_refl _)
 have m0:ag Ph aF 104 [.agg (WP w.now w.online w.device (w.storage.buckets.map XBucket.e) (w.pages.map XPage.e) w.nextPage (w.locks.locks.map XLock.e) (w.channel.mails.map XMail.e) (w.sites.map XSite.e) (w.servers.map XServer.e)),aa .i64 1048576]=some (aa .i64 (less 1048576 (eK w.e))):=LU (ext:=aF) _ h0 1048576 (by omega) (by omega)
 show ag Ph aF 612 [.agg (WP w.now w.online w.device (w.storage.buckets.map XBucket.e) (w.pages.map XPage.e) w.nextPage (w.locks.locks.map XLock.e) (w.channel.mails.map XMail.e) (w.sites.map XSite.e) (w.servers.map XServer.e)),aa .i64 n]=_
 generalize q0:less 1048576 (eK w.e)=l0 at m0
 by_cases n0:l0<0
 ·refine fQ (fn:=eD) rfl ?_
  simp only[WP]at m0
  simp[WP,eD,m0,n0]
 obtain⟨le0,hz0⟩:=PP (by omega) q0 n0
 have hs0:eK w.e≤1048576:=by omega
 have hk:=XWorld.Ok.mono hs0 hok
 have e1:=zB hk n
 have e2:=Ac hk n
 obtain⟨t1,t2⟩:=RS (n:=n) h0
 exact N7 (d0:=(ER w n).1.now) (d1:=(ER w n).1.online) (d2:=(ER w n).1.device) (d3:=(ER w n).1.storage.buckets.map XBucket.e) (d4:=(ER w n).1.pages.map XPage.e) (d5:=(ER w n).1.nextPage) (d6:=(ER w n).1.locks.locks.map XLock.e) (d7:=(ER w n).1.channel.mails.map XMail.e) (d8:=(ER w n).1.sites.map XSite.e) (d9:=(ER w n).1.servers.map XServer.e) (b:=(ER w n).2) h0 hs0 t1 (Nat.le_trans t2 (by omega)) m0 n0 e1 e2
end Gi
