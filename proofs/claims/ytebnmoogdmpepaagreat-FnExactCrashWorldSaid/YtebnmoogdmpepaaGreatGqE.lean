/- Of this proof. -/
import Derived.Test.YtebnmoogdmpepaaGreatGnA
import Derived.Test.YtebnmoogdmpepaaGreatGqC
set_option linter.unusedSimpArgs false
set_option linter.unusedVariables false
namespace Gi
open Go Go.RowKit
set_option maxHeartbeats 16000000
set_option maxRecDepth 8000
section
attribute [local simp] start fL aq ai az aK bj cf Opd.ev put V.cells plain bo gn isInt isStr isBool bin bV un asList L.view am V.view viewL aY ar bQ bM comp aJ bH al V.flat L.flat dO di bv putAt freezeVs freezeLs freezeL V.mut L.mut lent AObj.unz L.unsub qc tf jO tw kH wg PV.bare PV.flat jK dE thaw thawL AObj.zone ij ul ET gM qd P0 Up P1 MS.ts gT gS gF eU gE
theorem Hc (k:Int):ah Ph au (427+hZ) [ba [],aa .i64 k]=some (.tup [(false,[.pv (.int .i64 k)])]):=(tb (ext:=au)).1 k
theorem zc (k:Int):ah Ph au (428+hZ) [.agg [.pv (.lst [])],aa .i64 k]=some (.tup [(false,[.pv (.int .i64 k)])]):=by
 have c:=(zb (ext:=au)).1 k
 refine nZ (fn:=jS) rfl rfl rfl ?_
 simp[jS,c]
theorem Db (k:Int):ah Ph au (429+hZ) [.agg [.pv (.lst [])],aa .i64 k]=some (.tup [(false,[.pv (.int .i64 k)])]):=by
 have c:=(zd (ext:=au)).1 k
 refine nZ (fn:=lK) rfl rfl rfl ?_
 simp[lK,c]
theorem Vp {c0 c2 c5:Int}{on:Bool}{c3 c8 c9:List (List PV)}(h:bi dh [.int .i64 c0, .bool on, .int .i64 c2, .lst c3, .lst [], .int .i64 c5, .lst [], .lst [], .lst c8, .lst c9]){k:Int}(k0:0≤k)(hk:(bJ aj c9 (bJ aj c8 (bJ aj c3 k).2).2).2≤sE):
 ah Ph au (420+hZ) [.agg [.pv (.int .i64 c0), .pv (.bool on), .pv (.int .i64 c2),ln 24 c3, .pv (.lst []), .pv (.int .i64 c5), .pv (.lst []), .pv (.lst []),ln 4 c8,ln 5 c9],aa .i64 k]=some (.tup ((false,[.pv (.int .i64 (bJ aj c9 (bJ aj c8 (bJ aj c3 k).2).2).2)])::(oz 24 c3 (bJ aj c3 k).1++(oz 4 c8 (bJ aj c8 (bJ aj c3 k).2).1++oz 5 c9 (bJ aj c9 (bJ aj c8 (bJ aj c3 k).2).2).1)))):=by
 simp only[dh,bi]at h
 obtain⟨_,_,_,g3,_,_,_,_,g8,g9,_⟩:=h
 have l3:=jX (mT:=aj) c3 k
 have l8:=jX (mT:=aj) c8 (bJ aj c3 k).2
 have l9:=jX (mT:=aj) c9 (bJ aj c8 (bJ aj c3 k).2).2
 have s3:ah Ph au (426+hZ) [.agg [ln 24 c3],aa .i64 k]=some (.tup ((false,[.pv (.int .i64 (bJ aj c3 k).2)])::oz 24 c3 (bJ aj c3 k).1)):=by
  cases c3 with
  |nil=>exact tz k
  |cons r rs=>exact qe (ext:=au) [.lst (r::rs)] ⟨g3,trivial⟩ k k0 (by show(bJ aj (r::rs) k).2≤sE;omega)
 have s4:=Hc (bJ aj c3 k).2
 have s6:=zc (bJ aj c3 k).2
 have s7:=Db (bJ aj c3 k).2
 have s8:ah Ph au (430+hZ) [.one (ln 4 c8),aa .i64 (bJ aj c3 k).2]=some (.tup ((false,[.pv (.int .i64 (bJ aj c8 (bJ aj c3 k).2).2)])::oz 4 c8 (bJ aj c8 (bJ aj c3 k).2).1)):=by
  cases c8 with
  |nil=>exact(mR (ext:=au)).1 _
  |cons r rs=>exact(mR (ext:=au)).2 (r::rs) g8 _ (by omega) (by omega)
 have s9:ah Ph au (431+hZ) [.one (ln 5 c9),aa .i64 (bJ aj c8 (bJ aj c3 k).2).2]=some (.tup ((false,[.pv (.int .i64 (bJ aj c9 (bJ aj c8 (bJ aj c3 k).2).2).2)])::oz 5 c9 (bJ aj c9 (bJ aj c8 (bJ aj c3 k).2).2).1)):=by
  cases c9 with
  |nil=>exact(jW (ext:=au)).1 _
  |cons r rs=>exact(jW (ext:=au)).2 (r::rs) g9 _ (by omega) (by omega)
 clear hk k0 g3 g8 g9 l3 l8 l9
 generalize bJ aj c3 k=q3 at s3 s4 s6 s7 s8 s9⊢
 generalize bJ aj c8 q3.2=q8 at s8 s9⊢
 generalize bJ aj c9 q8.2=q9 at s9⊢
 rcases tx 24 c3 with⟨_,_,u3,v3,_⟩|⟨_,_,u3,v3,_⟩<;>rcases tx 4 c8 with⟨_,_,u8,v8,_⟩|⟨_,_,u8,v8,_⟩<;>rcases tx 5 c9 with⟨_,_,u9,v9,_⟩|⟨_,_,u9,v9,_⟩<;>simp only[u3,v3,u8,v8,u9,v9]at s3 s8 s9⊢ <;>(refine nZ (fn:=iG) rfl rfl rfl ?_;simp[iG,s3,s4,s6,s7,s8,s9])
end
attribute [local simp] start fL aq ai az aK bj cf Opd.ev put V.cells plain bo gn isInt isStr isBool bin bV un asList L.view am V.view viewL done aY ar bQ bM comp aJ bH al V.flat L.flat dO di bv putAt freezeVs freezeLs freezeL V.mut L.mut lent AObj.unz L.unsub qc tf jO tw kH wg PV.flat PV.bare jK AObj.zone m8 thaw thawL thawT V.closed L.closed
theorem MU {c0 c2 c5 d0 d2 d5 l0:Int}{c1 d1:Bool}{c3 c4 c6 c7 c8 c9 d3 d4 d6 d7 d8 d9:List (List PV)}{G:List (List PV)}(hG:nQ (.lst dg) (.lst G))(hsG:sz (.lst G)≤1048576)(h0:bi dh (WR c0 c1 c2 c3 c4 c5 c6 c7 c8 c9))(hs0:fA (WR c0 c1 c2 c3 c4 c5 c6 c7 c8 c9)≤1048576)(h1:bi dh (WR d0 d1 d2 d3 d4 d5 d6 d7 d8 d9))(hs1:fA (WR d0 d1 d2 d3 d4 d5 d6 d7 d8 d9)≤2097152)(m0:ah Ph au 104 [.agg (WP c0 c1 c2 c3 c4 c5 c6 c7 c8 c9),aa .i64 1048576]=some (aa .i64 l0))(n0:¬l0<0)
 (e1:ah Ph au 625 [.agg (WP c0 c1 c2 c3 c4 c5 c6 c7 c8 c9),ba G]=some (.agg [.pv (.int .i64 d0), .pv (.bool d1), .pv (.int .i64 d2),nd 24 d3, .down 11 d4, .pv (.int .i64 d5), .down 4 d6, .down 3 d7,nd 4 d8,nd 5 d9]))
 (e2:ah Ph au 624 [.agg (WP c0 c1 c2 c3 c4 c5 c6 c7 c8 c9),ba G]=some (.agg [.pv (.int .i64 d0), .pv (.bool d1), .pv (.int .i64 d2),xv 24 d3, .own 11 d4, .pv (.int .i64 d5), .own 4 d6, .own 3 d7, .own 4 d8, .own 5 d9])):ah Ph au 613 [.agg (WP c0 c1 c2 c3 c4 c5 c6 c7 c8 c9),ba G]=some (av true):=by
 have lg:¬(1048576:Int)<(G.length:Int):=by rw[ik]at hsG;omega
 have tG:ah Ph au 255 [ba G]=some (.one (mS (.lst dg) (.lst G))):=tk (ext:=au) G hG hsG
 have eG:ah Ph au 259 [ba G,ba G]=some (av true):=sK (ext:=au) G hG
 have hclG:V.closed (.one (mS (.lst dg) (.lst G)))=true:=by cases G<;>simp[mS,eS]
 have hthG:∀hh,m8 hh (.one (mS (.lst dg) (.lst G)))=(.one (.arr hh.length),hh++[.zarr 1 G]):=fun hh=>by cases G<;>simp[mS,dg]
 have hseG:di (mS (.lst dg) (.lst G))= .pv (.lst G):=by cases G<;>rfl
 generalize mS (.lst dg) (.lst G)=OB at tG hclG hthG hseG
 have to0:ah Ph au 106 [.agg (WP c0 c1 c2 c3 c4 c5 c6 c7 c8 c9)]=some (.agg (gD dh (WR c0 c1 c2 c3 c4 c5 c6 c7 c8 c9))):=Gj (ext:=au) _ h0 hs0
 have hset:(gD dh (WR c0 c1 c2 c3 c4 c5 c6 c7 c8 c9)).map di=WP c0 c1 c2 c3 c4 c5 c6 c7 c8 c9:=Ov h0
 have hcl:V.closed (.agg (gD dh (WR c0 c1 c2 c3 c4 c5 c6 c7 c8 c9)))=true:=qL h0
 have hth:∀hh,m8 hh (.agg (gD dh (WR c0 c1 c2 c3 c4 c5 c6 c7 c8 c9)))=(.agg [.pv (.int .i64 c0), .pv (.bool c1), .pv (.int .i64 c2), .arr hh.length, .arr (hh.length+1), .pv (.int .i64 c5), .arr (hh.length+1+1), .arr (hh.length+1+1+1), .arr (hh.length+1+1+1+1), .arr (hh.length+1+1+1+1+1)],hh++[.zarr 24 c3, .zarr 11 c4, .zarr 4 c6, .zarr 3 c7, .zarr 4 c8, .zarr 5 c9]):=fun hh=>HU h0 hh
 have eq0:ah Ph au 108 [.agg (WP c0 c1 c2 c3 c4 c5 c6 c7 c8 c9), .agg (WP c0 c1 c2 c3 c4 c5 c6 c7 c8 c9)]=some (av true):=sL (ext:=au) _ h0
 have eq1:ah Ph au 108 [.agg (WP d0 d1 d2 d3 d4 d5 d6 d7 d8 d9), .agg (WP d0 d1 d2 d3 d4 d5 d6 d7 d8 d9)]=some (av true):=sL (ext:=au) _ h1
 generalize gD dh (WR c0 c1 c2 c3 c4 c5 c6 c7 c8 c9)=OW at to0 hset hcl hth
 have cw:=qK aj _ dh 1 h0 (by decide)
 have cw1:=qK aj _ dh 1 h1 (by decide)
 have mw:=ze (ext:=au) _ h0 1 (by omega) (by unfold sE;omega)
 have hd:=yG (ext:=au) _ h1 1 (by omega) (by unfold sE;omega)
 have cw0:=kI aj (WR c0 c1 c2 c3 c4 c5 c6 c7 c8 c9) 1
 have cw2:=kI aj (WR d0 d1 d2 d3 d4 d5 d6 d7 d8 d9) 1
 have hk1:(ft aj (WR d0 d1 d2 d3 d4 d5 d6 d7 d8 d9) 1).2≤sE:=by unfold sE;omega
 have mg:=VU h1 (k:=1) (by omega) hk1
 obtain⟨K,hK⟩:∃K,K=(ft aj (WR c0 c1 c2 c3 c4 c5 c6 c7 c8 c9) 1).2:=⟨_,rfl⟩
 rw[←hK]at mw cw cw0
 have cG:=zg aj G dg K (aL hG).2 (by decide) (by decide)
 rw[ik]at hsG
 have mG:=(pd (ext:=au)).2 G hG K (by omega) (by unfold sE;omega)
 have cG2:=jX (mT:=aj) G K
 simp only[show dg.length=1 from rfl]at mG
 simp only[WR,WP,dh,IB,Ou,ft,Zv,Yb]at m0 e1 e2 to0 hset hth eq0 eq1 mw hd cw2⊢
 have tl:dB.length=24∧jl.length=11∧ix.length=4∧iy.length=3∧jm.length=4∧fK.length=5:=⟨rfl,rfl,rfl,rfl,rfl,rfl⟩
 simp only[tl]at mw
 have hk:=Int.not_lt.2 (Int.le_trans (by decide:(0:Int)≤1) (Int.le_trans cw0 cG2))
 have hk2:=Int.not_lt.2 (Int.le_trans (by decide:(0:Int)≤1) cw2)
 generalize (bJ aj G K).2=KG at mG hk
 generalize (bJ aj G K).1=G2 at mG
 clear cw cw1 h0 h1 hs0 hs1 hk1 tl cG cG2 hG hsG hK cw0 cw2
 rcases tx 24 d3 with⟨rfl,u3,v3,w3,o3⟩|⟨_,u3,v3,w3,o3⟩<;>rcases tx 4 d8 with⟨rfl,u8,v8,w8,o8⟩|⟨_,u8,v8,w8,o8⟩<;>rcases tx 5 d9 with⟨rfl,u9,v9,w9,o9⟩|⟨_,u9,v9,w9,o9⟩
 all_goals
  simp only[u3,u8,u9]at e1
  simp only[o3]at e2
  simp only[v3,v8,v9,w3,w8,w9]at mg
  (try simp only[Ja]at mg hd hk2)
  refine fC (fn:=bZ) rfl ?_
  simp[bZ,lg,tG, ↓hclG, ↓hthG, ↓hseG,eG,mG,m0,n0,to0,hset, ↓hcl, ↓hth,eq0,eq1,e1,e2,mw,mg,hd,hk,hk2]
theorem MV {c0 c2 c5 d0 d2 d5 l0:Int}{c1 d1:Bool}{c3 c4 c6 c7 c8 c9 d3 d8 d9:List (List PV)}{G:List (List PV)}(hG:nQ (.lst dg) (.lst G))(hsG:sz (.lst G)≤1048576)(h0:bi dh (WR c0 c1 c2 c3 c4 c5 c6 c7 c8 c9))(hs0:fA (WR c0 c1 c2 c3 c4 c5 c6 c7 c8 c9)≤1048576)(h1:bi dh (WR d0 d1 d2 d3 [] d5 [] [] d8 d9))(hs1:fA (WR d0 d1 d2 d3 [] d5 [] [] d8 d9)≤2097152)(m0:ah Ph au 104 [.agg (WP c0 c1 c2 c3 c4 c5 c6 c7 c8 c9),aa .i64 1048576]=some (aa .i64 l0))(n0:¬l0<0)
 (e1:ah Ph au 625 [.agg (WP c0 c1 c2 c3 c4 c5 c6 c7 c8 c9),ba G]=some (.agg [.pv (.int .i64 d0), .pv (.bool d1), .pv (.int .i64 d2),nd 24 d3, .nil, .pv (.int .i64 d5), .nil, .nil,nd 4 d8,nd 5 d9]))
 (e2:ah Ph au 624 [.agg (WP c0 c1 c2 c3 c4 c5 c6 c7 c8 c9),ba G]=some (.agg [.pv (.int .i64 d0), .pv (.bool d1), .pv (.int .i64 d2),xv 24 d3, .nil, .pv (.int .i64 d5), .nil, .nil, .own 4 d8, .own 5 d9])):ah Ph au 613 [.agg (WP c0 c1 c2 c3 c4 c5 c6 c7 c8 c9),ba G]=some (av true):=by
 have lg:¬(1048576:Int)<(G.length:Int):=by rw[ik]at hsG;omega
 have tG:ah Ph au 255 [ba G]=some (.one (mS (.lst dg) (.lst G))):=tk (ext:=au) G hG hsG
 have eG:ah Ph au 259 [ba G,ba G]=some (av true):=sK (ext:=au) G hG
 have hclG:V.closed (.one (mS (.lst dg) (.lst G)))=true:=by cases G<;>simp[mS,eS]
 have hthG:∀hh,m8 hh (.one (mS (.lst dg) (.lst G)))=(.one (.arr hh.length),hh++[.zarr 1 G]):=fun hh=>by cases G<;>simp[mS,dg]
 have hseG:di (mS (.lst dg) (.lst G))= .pv (.lst G):=by cases G<;>rfl
 generalize mS (.lst dg) (.lst G)=OB at tG hclG hthG hseG
 have to0:ah Ph au 106 [.agg (WP c0 c1 c2 c3 c4 c5 c6 c7 c8 c9)]=some (.agg (gD dh (WR c0 c1 c2 c3 c4 c5 c6 c7 c8 c9))):=Gj (ext:=au) _ h0 hs0
 have hset:(gD dh (WR c0 c1 c2 c3 c4 c5 c6 c7 c8 c9)).map di=WP c0 c1 c2 c3 c4 c5 c6 c7 c8 c9:=Ov h0
 have hcl:V.closed (.agg (gD dh (WR c0 c1 c2 c3 c4 c5 c6 c7 c8 c9)))=true:=qL h0
 have hth:∀hh,m8 hh (.agg (gD dh (WR c0 c1 c2 c3 c4 c5 c6 c7 c8 c9)))=(.agg [.pv (.int .i64 c0), .pv (.bool c1), .pv (.int .i64 c2), .arr hh.length, .arr (hh.length+1), .pv (.int .i64 c5), .arr (hh.length+1+1), .arr (hh.length+1+1+1), .arr (hh.length+1+1+1+1), .arr (hh.length+1+1+1+1+1)],hh++[.zarr 24 c3, .zarr 11 c4, .zarr 4 c6, .zarr 3 c7, .zarr 4 c8, .zarr 5 c9]):=fun hh=>HU h0 hh
 have eq0:ah Ph au 108 [.agg (WP c0 c1 c2 c3 c4 c5 c6 c7 c8 c9), .agg (WP c0 c1 c2 c3 c4 c5 c6 c7 c8 c9)]=some (av true):=sL (ext:=au) _ h0
 have eq1:ah Ph au 108 [.agg (WP d0 d1 d2 d3 [] d5 [] [] d8 d9), .agg (WP d0 d1 d2 d3 [] d5 [] [] d8 d9)]=some (av true):=sL (ext:=au) _ h1
 generalize gD dh (WR c0 c1 c2 c3 c4 c5 c6 c7 c8 c9)=OW at to0 hset hcl hth
 have cw:=qK aj _ dh 1 h0 (by decide)
 have cw1:=qK aj _ dh 1 h1 (by decide)
 have mw:=ze (ext:=au) _ h0 1 (by omega) (by unfold sE;omega)
 have hd:=yG (ext:=au) _ h1 1 (by omega) (by unfold sE;omega)
 have cw0:=kI aj (WR c0 c1 c2 c3 c4 c5 c6 c7 c8 c9) 1
 have cw2:=kI aj (WR d0 d1 d2 d3 [] d5 [] [] d8 d9) 1
 have hk1:(ft aj (WR d0 d1 d2 d3 [] d5 [] [] d8 d9) 1).2≤sE:=by unfold sE;omega
 have mg:=Vp h1 (k:=1) (by omega) hk1
 obtain⟨K,hK⟩:∃K,K=(ft aj (WR c0 c1 c2 c3 c4 c5 c6 c7 c8 c9) 1).2:=⟨_,rfl⟩
 rw[←hK]at mw cw cw0
 have cG:=zg aj G dg K (aL hG).2 (by decide) (by decide)
 rw[ik]at hsG
 have mG:=(pd (ext:=au)).2 G hG K (by omega) (by unfold sE;omega)
 have cG2:=jX (mT:=aj) G K
 simp only[show dg.length=1 from rfl]at mG
 simp only[WR,WP,dh,IB,Ou,ft,Ja,Zv,Yb]at m0 e1 e2 to0 hset hth eq0 eq1 mw hd cw2⊢
 have tl:dB.length=24∧jl.length=11∧ix.length=4∧iy.length=3∧jm.length=4∧fK.length=5:=⟨rfl,rfl,rfl,rfl,rfl,rfl⟩
 simp only[tl]at mw
 have hk:=Int.not_lt.2 (Int.le_trans (by decide:(0:Int)≤1) (Int.le_trans cw0 cG2))
 have hk2:=Int.not_lt.2 (Int.le_trans (by decide:(0:Int)≤1) cw2)
 generalize (bJ aj G K).2=KG at mG hk
 generalize (bJ aj G K).1=G2 at mG
 clear cw cw1 h0 h1 hs0 hs1 hk1 tl cG cG2 hG hsG hK cw0 cw2
 rcases tx 24 d3 with⟨rfl,u3,v3,w3,o3⟩|⟨_,u3,v3,w3,o3⟩<;>rcases tx 4 d8 with⟨rfl,u8,v8,w8,o8⟩|⟨_,u8,v8,w8,o8⟩<;>rcases tx 5 d9 with⟨rfl,u9,v9,w9,o9⟩|⟨_,u9,v9,w9,o9⟩
 all_goals
  simp only[u3,u8,u9]at e1
  simp only[o3]at e2
  simp only[v3,v8,v9,w3,w8,w9]at mg
  (try simp only[Ja]at mg hd hk2)
  refine fC (fn:=bZ) rfl ?_
  simp[bZ,lg,tG, ↓hclG, ↓hthG, ↓hseG,eG,mG,m0,n0,to0,hset, ↓hcl, ↓hth,eq0,eq1,e1,e2,mw,mg,hd,hk,hk2]
end Gi
namespace Gi
open Go Go.RowKit
set_option maxHeartbeats 16000000
set_option maxRecDepth 4000
attribute [local simp] start rB bj cf dG fp dF fo fx fw tJ tT tK tU tL tV tM tW tN tX tO tY tP tZ tQ t6 tR t7 V.cells plain bo gn isInt isStr isBool bin cC iT cD iU fq un asList L.view am V.view viewL aY ar cH bP bM comp aJ bH df bY bz bw bx bG bc ca aN bB aT aO bE cd bD bA bF V.flat L.flat dO di bv putAt thaw thawL thawT V.ow fv dK dL cE fu cF dJ freezeVs freezeLs freezeL V.mut L.mut aG ez ie aW bm aF dz bL bf bS L.ren aV dA ce dM bO bh wp_seq wp_block bt dP cI bR cJ wp_skip wp_exit wp_ret cA cy cP cB cW cX cV bX aM L.notArr aS aQ aR dN bp storeD aX fD br ct bd m9 L.mov L.closed V.closed PV.bare PV.flat
theorem uR {w:XWorld}(h:w.Ok 1048576){g:List UInt8}(hf:(!(og w)||cQ 8 (g.length:Int))=true):ah Ph au 624 [w.v,ba (ag g)]=some (.agg (wO w w.storage.buckets)):=by
 have c0:=tF (Zl 1048576) h
 have e1:=tC h
 have l1:=ak (s:=g)
 generalize ag g=G at*
 cases b1:og w<;>rw[b1]at e1 hf
 ·rcases mU 24 (w.storage.buckets.map XBucket.e)with⟨q3,u3,u4⟩|⟨q3,u3,u4⟩<;>rw[u3]at c0<;>(refine ae (fn:=dX) rfl ?_;simp(maxSteps:=9999999) [dX,c0,e1,l1,u4])
 ·have hg:cQ 8 (g.length:Int)=true:=by simpa using hf
  rcases mU 24 (w.storage.buckets.map XBucket.e)with⟨q3,u3,u4⟩|⟨q3,u3,u4⟩<;>rw[u3]at c0<;>(refine ae (fn:=dX) rfl ?_;simp(maxSteps:=9999999) [dX,c0,e1,l1,hg,u4])
def SP (w:XWorld)(b0:List L)(R:List (List PV)):List AObj:=[.box b0, .box [.pv (.int .i64 0), .pv (.bool false), .pv (.int .i64 0), .nil, .nil, .pv (.int .i64 0), .nil, .nil, .nil, .nil], .arr 24 R, .arr 11 (w.pages.map XPage.e), .arr 4 (w.locks.locks.map XLock.e), .arr 3 (w.channel.mails.map XMail.e), .arr 4 (w.sites.map XSite.e), .arr 5 (w.servers.map XServer.e), .box [.pv (.int .i64 w.now), .pv (.bool w.online), .pv (.int .i64 w.device), .arr 2, .nil, .pv (.int .i64 w.nextPage), .nil, .nil, .arr 6, .arr 7]]
theorem xC {w:XWorld}(h:w.Ok 1048576){g:List UInt8}(b1:og w=true)(hg:g.length≤8):ah Ph au 624 [w.v,ba (ag g)]=some (.agg [.pv (.int .i64 w.now), .pv (.bool w.online), .pv (.int .i64 w.device),xv 24 ((w.storage.buckets.map (zV g)).map XBucket.e), .nil, .pv (.int .i64 w.nextPage), .nil, .nil, .own 4 (w.sites.map XSite.e), .own 5 (w.servers.map XServer.e)]):=by
 have c0:=tF (Zl 1048576) h
 have e1:=tC h
 have hlg:=fun k hk=>Mw b1 (k:=k) hk
 rw[b1]at e1
 have l1:=ak (s:=g)
 have g8:cQ 8 (g.length:Int)=false:=kQ (by omega)
 have hm:w.storage.buckets.length≤maxLen:=Zc h.2.2.1.1 (by unfold maxLen;omega)
 have hB:=h.2.2.1.2
 have hcl:=fun y(hy:(XDisk.Ok 1048576 y)∧y.log.length≤2500)=>zw (Zl 1048576) (x:=y) hy.1 hg
 have hrs:=fun y(hy:(XDisk.Ok 1048576 y)∧y.log.length≤2500)=>vV (Zl 1048576) (x:=TV y g) (Q4 hy.1 hg hy.2)
 have BS:=fun(y:XCacheSet)(hy:y.Ok 1048576)v=>zx (Zl 1048576) hy v
 rcases mU 24 (w.storage.buckets.map XBucket.e)with⟨q3,u3,u4⟩|⟨q3,u3,u4⟩
 ·have h0:w.storage.buckets=[]:=List.map_eq_nil_iff.1 q3
  rw[u3]at c0
  simp only[XWorld.v,h0,Yb]at c0 e1⊢
  generalize ag g=G at*
  refine ae (fn:=dX) rfl ?_
  simp(maxSteps:=9999999) [dX,c0,e1,l1,g8,xv]
  rw[sD]
  simp(maxSteps:=9999999) [cU,show cQ 0 0=false from rfl]
 rw[u3]at c0
 have hne:(w.storage.buckets.map (zV g)).map XBucket.e≠[]:=by
  intro q;exact q3 (by simpa using q)
 rw[((mU 24 ((w.storage.buckets.map (zV g)).map XBucket.e)).resolve_left (fun q=>hne q.1)).2.2]
 refine ae (fn:=dX) rfl ?_
 simp(maxSteps:=9999999) [dX,c0,e1,l1,g8]
 refine cO aU Cl.fin w.storage.buckets.length [.f,.t,.f,.f,.t,.t,.t,.f,.f,.f,.f,.f,.f,.f,.f,.f,.f,.f,.f,.f,.f,.f,.f,.f,.f,.f,.f,.f,.f,.f,.f,.f,.f,.f,.f,.f,.f,.f,.f,.f,.f,.f,.f,.f,.f,.f,.f,.f,.f,.f,.f,.f,.f,.f,.f,.f,.f,.f,.f,.f,.f,.f,.f,.f,.f,.f,.f,.f,.f,.f,.f] (fun k=>[(6,aa .i64 k)]) (fun k=>SP w (w.v.cells) ((Kl g w.storage.buckets k).map XBucket.e)) rfl ?_ ?_ ?_
 ·simp[SP,Tu,XWorld.v]
 ·intro k hk
  have wk:=aE hm hk
  have lk:=aZ hk
  have hy:=hB _ (Zg hk)
  have hlg2:=hlg k hk
  obtain⟨L,hL⟩:∃L,L=Kl g w.storage.buckets k:=⟨_,rfl⟩
  have hl2:L.length=w.storage.buckets.length:=by rw[hL];exact NT g w.storage.buckets k
  have hk2:k<L.length:=by rw[hl2];exact hk
  have hat:L[k]=w.storage.buckets[k]:=by subst hL;exact Q7 hk hk2
  rw[Tw hk,←hat,←hL]
  rw[←hat]at hy hlg2
  clear hL
  have hx:=XBucket.e.eq_1 L[k]
  have he:(L.set k (zV g L[k])).map XBucket.e=(L.map XBucket.e).set k (zV g L[k]).e:=by rw[List.map_set]
  rw[NS]at he
  rw[he]
  have e4:=hcl L[k].disk ⟨hy.2.2.2.2.1,hlg2⟩
  have e5:=hrs L[k].disk ⟨hy.2.2.2.2.1,hlg2⟩
  have e3:=BS L[k].caches hy.2.2.2.1 L[k].reg.installing
  have hd:=Rb L[k].caches.caches L[k].reg.installing
  simp only[TV]at e5
  have w1:=f5 (L[k].disk.log++g)
  have w2:=f5 (iX (L[k].disk.log++g))
  have l2:=ak (s:=L[k].disk.log)
  simp only[Q6]
  clear c0 e1 hlg hcl hrs BS hB hlg2 hat hne u3 u4 h g8 hm he hy
  generalize ag (iX (L[k].disk.log++g))=S2 at*
  generalize ag (L[k].disk.log++g)=S1 at*
  generalize ag L[k].disk.log=S0 at*
  generalize ag g=G at*
  generalize (((kP (L[k].disk.log++g)).2.length:Nat):Int)=cn at*
  cases hi:(L[k].reg.installing !=0)
  ·have hz:L[k].reg.installing=0:=by simpa using hi
   simp only[cond_false]
   rcases mU 3 (L[k].disk.base.stores.map XStore.e)with⟨q,_,u⟩|⟨q,_,u⟩<;>rw[u]at e4 e5
   ·rw[q]at e4 e5 hx⊢
    simp(maxSteps:=9999999) [SP,cU,hk,hk2,hl2,hx,e4,e5,hi,hz,wk,lk,w1,w2,l2]
   ·simp(maxSteps:=9999999) [SP,cU,hk,hk2,hl2,hx,e4,e5,hi,hz,wk,lk,w1,w2,l2]
  ·have hz:¬L[k].reg.installing=0:=by simpa using hi
   simp only[cond_true]
   generalize (D1 L[k].caches.caches L[k].reg.installing).2=db at*
   rcases hd with⟨d1,d2⟩|d1<;>rw[d1]at e3
   ·rw[d2]
    rcases mU 3 (L[k].disk.base.stores.map XStore.e)with⟨q,_,u⟩|⟨q,_,u⟩<;>rw[u]at e4 e5
    ·rw[q]at e4 e5 hx⊢
     simp(maxSteps:=9999999) [SP,cU,hk,hk2,hl2,hx,e3,e4,e5,hi,hz,wk,lk,w1,w2,l2]
    ·simp(maxSteps:=9999999) [SP,cU,hk,hk2,hl2,hx,e3,e4,e5,hi,hz,wk,lk,w1,w2,l2]
   ·generalize (D1 L[k].caches.caches L[k].reg.installing).1.map XCache.e=DL at*
    rcases mU 3 (L[k].disk.base.stores.map XStore.e)with⟨q,_,u⟩|⟨q,_,u⟩<;>rw[u]at e4 e5
    ·rw[q]at e4 e5 hx⊢
     simp(maxSteps:=9999999) [SP,cU,hk,hk2,hl2,hx,e3,e4,e5,hi,hz,wk,lk,w1,w2,l2]
    ·simp(maxSteps:=9999999) [SP,cU,hk,hk2,hl2,hx,e3,e4,e5,hi,hz,wk,lk,w1,w2,l2]
 ·rw[Tv]
  simp(maxSteps:=9999999) [SP,cU]
end Gi
namespace Gi
open Go Go.RowKit
set_option maxHeartbeats 8000000
set_option maxRecDepth 8000
attribute [local simp] start fL aq ai az aK bj cf Opd.ev put V.cells plain bo gn isInt isStr isBool bin bV un asList L.view am V.view viewL done aY ar bQ bM comp aJ bH al V.flat L.flat dO di bv putAt freezeVs freezeLs freezeL V.mut L.mut lent AObj.unz L.unsub qc tf jO tw kH wg PV.flat PV.bare jK AObj.zone m8 thaw thawL thawT V.closed L.closed
theorem Tz {n:Int}(h:pb n):nQ (.int .i64) (.int .i64 n):=by
 unfold pb at h
 simp only[nQ,Lit.wf,IntKind.min,IntKind.max,IntKind.signed,IntKind.bits,true_and]
 simp
 omega
theorem F3 {α:Type}{e f:α→List PV}{c:Nat}:∀{l:List α},(∀x∈l,fA (f x)≤fA (e x)+c)→bI (l.map f)≤bI (l.map e)+c*l.length
 |[],_=>by simp[bI]
 |x::l,h=>by
  have ih:=F3 (e:=e) (f:=f) (c:=c) (l:=l) (fun y m=>h y (Y5 _ m))
  have h0:=h x (List.mem_cons_self ..)
  simp only[Zv,bI,Zn,Nat.mul_succ]
  omega
theorem F2 {α:Type}(e:α→List PV):∀(xs:List α)(k:Nat),bI ((xs.take k++xs.drop (k+1)).map e)≤bI (xs.map e)∧(xs.take k++xs.drop (k+1)).length≤xs.length
 |[],k=>by simp[bI]
 |x::xs,0=>by simp[bI]
 |x::xs,k+1=>by
  have ih:=F2 e xs k
  simp only[List.take_succ_cons,List.drop_succ_cons,Zf,Zv,bI,Zn]
  omega
theorem TW (y:XBucket):bI ((Q6 y).map XCache.e)≤bI (y.caches.caches.map XCache.e)∧(Q6 y).length≤y.caches.caches.length:=by
 unfold Q6 D1
 cases y.reg.installing !=0
 ·exact⟨Zl _,Zl _⟩
 ·simp only[cond_true]
  cases cQ (gu (JX y.reg.installing) y.caches.caches) 0
  ·exact F2 _ _ _
  ·exact⟨Zl _,Zl _⟩
theorem Sz {y:XBucket}{c:XCache}(h:c∈Q6 y):c∈y.caches.caches:=by
 unfold Q6 D1 at h
 revert h
 cases y.reg.installing !=0
 ·exact fun h=>h
 ·simp only[cond_true]
  cases cQ (gu (JX y.reg.installing) y.caches.caches) 0
  ·intro h
   rcases Yw.1 h with h|h
   ·exact Z9 h
   ·exact List.mem_of_mem_drop h
  ·exact fun h=>h
theorem HC (s:List UInt8)(h:s.length≤maxLen):nQ (.lst dg) (.lst (ag s)):=by
 refine⟨by rw[ak];exact h,fun r m=> ?_⟩
 obtain⟨b,_,rfl⟩:=Yo.1 m
 refine⟨?_,trivial⟩
 have:=b.toNat_lt
 simp only[nQ,Lit.wf,IntKind.min,IntKind.max,IntKind.signed,IntKind.bits,true_and]
 simp
 omega
theorem DS :∀(s:List UInt8),bI (ag s)=0
 |[]=>rfl
 |b::s=>by
  have:=DS s
  simp only[ag,Zv,bI,fA,sz]at this⊢
  omega
theorem RH (s:List UInt8):(kP s).2.length≤s.length:=Zc (Dx s).2.1 (Dx s).1
theorem TY {g:List UInt8}(hg:g.length≤8){y:XBucket}(hl:y.disk.log.length≤2500)(h:bi dB y.e):bi dB (zV g y).e∧fA (zV g y).e≤fA y.e+8:=by
 have hm:(iX (y.disk.log++g)).length≤y.disk.log.length+8:=by
  unfold iX
  rw[Zy,Zu]
  omega
 have hc:=RH (y.disk.log++g)
 rw[Zu]at hc
 obtain⟨c1,c2⟩:=TW y
 constructor
 ·clear c1
  rw[NS]
  simp only[XBucket.e,dB,bi]at h⊢
  obtain⟨a0,a1,a2,a3,a4,a5,a6,a7,a8,a9,a10,a11,a12,a13⟩:=h
  refine⟨a0,a1,a2,Tz (by unfold pb;omega),a4,a5,?_,a7,a8,a9,a10,HC _ (by unfold maxLen;omega),Tz (by unfold pb;omega),a13⟩
  obtain⟨q1,q2⟩:=aL a6
  rw[Zs]at q1
  refine⟨by rw[Zs];omega,fun r m=> ?_⟩
  obtain⟨c,hc,rfl⟩:=Yo.1 m
  exact q2 _ (Yo.2 ⟨c,Sz hc,rfl⟩)
 ·rw[NS,XBucket.e.eq_1]
  simp only[fA,sz,Zs,ak,DS]
  generalize bI ((Q6 y).map XCache.e)=z1 at*
  generalize bI (y.caches.caches.map XCache.e)=z2 at*
  generalize bI (y.disk.base.stores.map XStore.e)=z3
  generalize bI (y.disk.base.unique.map XIndexDef.e)=z4
  generalize bI (y.replica.base.items.map XItem.e)=z5
  generalize bI (y.replica.sync.outbox.writes.map XWrite.e)=z6
  clear hc h
  generalize (iX (y.disk.log++g)).length=n1 at*
  generalize (Q6 y).length=n2 at*
  generalize y.caches.caches.length=n3 at*
  generalize y.disk.log.length=n4 at*
  generalize y.disk.base.stores.length=n5
  generalize y.disk.base.unique.length=n6
  generalize y.replica.base.items.length=n7
  generalize y.replica.sync.outbox.writes.length=n8
  generalize y.site.length=n9
  generalize y.top.length=n10
  generalize y.reg.site.length=n11
  generalize y.disk.base.name.length=n12
  generalize y.replica.base.name.length=n13
  simp only[Yc,Y1]
  omega
theorem TX {w:XWorld}{g:List UInt8}(hw:og w=true)(hg:g.length≤8)(h:nQ (.lst dB) (.lst (w.storage.buckets.map XBucket.e))):nQ (.lst dB) (.lst ((w.storage.buckets.map (zV g)).map XBucket.e))∧sz (.lst ((w.storage.buckets.map (zV g)).map XBucket.e))≤sz (.lst (w.storage.buckets.map XBucket.e))+72:=by
 have hs:=HS hw
 simp only[we,Zm,Yk]at hs
 have h9:=of_decide_eq_false hs.2
 obtain⟨h1,h2⟩:=aL h
 have key:∀y∈w.storage.buckets,bi dB (zV g y).e∧fA (zV g y).e≤fA y.e+8:=fun y hy=>by
  obtain⟨k,hk,rfl⟩:=Xd.1 hy
  exact TY hg (Mw hw hk) (h2 _ (Yo.2 ⟨_,hy,rfl⟩))
 have hz:=F3 (e:=XBucket.e) (f:=fun y=>(zV g y).e) (c:=8) (l:=w.storage.buckets) (fun y hy=>(key y hy).2)
 rw[List.map_map,ik,ik]
 refine⟨⟨by simpa using h1,fun r m=> ?_⟩,?_⟩
 ·obtain⟨y,hy,rfl⟩:=Yo.1 m
  exact(key y hy).1
 ·rw[Zs,Zs]
  have hz2:bI (w.storage.buckets.map (XBucket.e∘zV g))≤bI (w.storage.buckets.map XBucket.e)+8*w.storage.buckets.length:=hz
  generalize bI (w.storage.buckets.map (XBucket.e∘zV g))=z1 at*
  generalize bI (w.storage.buckets.map XBucket.e)=z2 at*
  omega
theorem Fl {r0:List PV}{p:PV}(h0:bi dh r0)(hp:nQ (.lst [.int .u8]) p):ah Ph au 613 [.agg (r0.map .pv), .one (.pv p)]=some (av true):=by
 obtain⟨w,rfl,hok⟩:=XWorld.of (B:=fA r0) r0 h0 (Zl _)
 obtain⟨g,rfl⟩:∃g:List UInt8,p= .lst (ag g):=by
  cases p with
  |lst rows=>obtain⟨g,e⟩:=DO (aL hp).2;exact⟨g,by rw[e]⟩
  |_=>cases hp
 have m0:ah Ph au 104 [.agg (WP w.now w.online w.device (w.storage.buckets.map XBucket.e) (w.pages.map XPage.e) w.nextPage (w.locks.locks.map XLock.e) (w.channel.mails.map XMail.e) (w.sites.map XSite.e) (w.servers.map XServer.e)),aa .i64 1048576]=some (aa .i64 (less 1048576 (fA w.e))):=Nw (ext:=au) _ h0 1048576 (by omega) (by omega)
 show ah Ph au 613 [.agg (WP w.now w.online w.device (w.storage.buckets.map XBucket.e) (w.pages.map XPage.e) w.nextPage (w.locks.locks.map XLock.e) (w.channel.mails.map XMail.e) (w.sites.map XSite.e) (w.servers.map XServer.e)),ba (ag g)]=_
 by_cases lg:(1048576:Int)<((ag g).length:Int)
 ·generalize ag g=G at*
  refine fC (fn:=bZ) rfl ?_
  simp[WP,bZ,lg]
 generalize q0:less 1048576 (fA w.e)=l0 at m0
 by_cases n0:l0<0
 ·generalize ag g=G at*
  refine fC (fn:=bZ) rfl ?_
  simp only[WP]at m0
  simp[WP,bZ,lg,m0,n0]
 obtain⟨le0,hz0⟩:=Ry (by omega) q0 n0
 have hs0:fA w.e≤1048576:=by omega
 have hk:=XWorld.Ok.mono hs0 hok
 rw[ak]at lg
 have hG:nQ (.lst dg) (.lst (ag g)):=HC g (by unfold maxLen;omega)
 have hsG:sz (.lst (ag g))≤1048576:=by rw[ik,DS,ak];omega
 have h0':=h0
 simp only[XWorld.e,dh,bi]at h0'
 obtain⟨g0,g1,g2,g3,g4,g5,g6,g7,g8⟩:=h0'
 cases c: !(og w)||cQ 8 (g.length:Int)
 ·simp only[Xe,Bool.not_eq_false']at c
  have hg8:g.length≤8:=by have:=of_decide_eq_false c.2;omega
  have e1:=xd hk c.1 hg8
  have e2:=xC hk c.1 hg8
  have n8:=NJ c.1
  have u8:=((eu 4 (w.sites.map XSite.e)).resolve_left (fun q=>n8.1 q.1)).2
  have u9:=((eu 5 (w.servers.map XServer.e)).resolve_left (fun q=>n8.2 q.1)).2
  rw[←u8,←u9]at e1
  have ch:=TX c.1 hg8 g3
  refine MV (d0:=w.now) (d1:=w.online) (d2:=w.device) (d3:=(w.storage.buckets.map (zV g)).map XBucket.e) (d5:=w.nextPage) (d8:=w.sites.map XSite.e) (d9:=w.servers.map XServer.e) hG hsG h0 hs0 ?_ ?_ m0 n0 e1 e2
  ·simp only[WR,dh,bi]
   exact⟨g0,g1,g2,ch.1,⟨by simp,by simp⟩,g5,⟨by simp,by simp⟩,⟨by simp,by simp⟩,g8⟩
  ·have q:=ch.2
   simp only[XWorld.e,fA]at hs0
   simp only[WR,fA]
   rw[show sz (.lst [])=0 from by simp[sz,bI]]
   generalize sz (.lst ((w.storage.buckets.map (zV g)).map XBucket.e))=z1 at*
   generalize sz (.lst (w.storage.buckets.map XBucket.e))=z2 at*
   generalize sz (.lst (w.pages.map XPage.e))=z3 at*
   generalize sz (.lst (w.locks.locks.map XLock.e))=z4 at*
   generalize sz (.lst (w.channel.mails.map XMail.e))=z5 at*
   generalize sz (.lst (w.sites.map XSite.e))=z6 at*
   generalize sz (.lst (w.servers.map XServer.e))=z7 at*
   omega
 ·exact MU (d0:=w.now) (d1:=w.online) (d2:=w.device) (d3:=w.storage.buckets.map XBucket.e) (d4:=w.pages.map XPage.e) (d5:=w.nextPage) (d6:=w.locks.locks.map XLock.e) (d7:=w.channel.mails.map XMail.e) (d8:=w.sites.map XSite.e) (d9:=w.servers.map XServer.e) hG hsG h0 hs0 h0 (Zc hs0 (by omega)) m0 n0 (uA hk c) (uR hk c)
end Gi
