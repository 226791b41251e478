/- Of this proof. -/
import Derived.Test.YtpnolnkjijmfjaaGreatGuB
import Derived.Test.YtpnolnkjijmfjaaGreatGrX
import Derived.Test.YtpnolnkjijmfjaaGreatGkc
set_option linter.all false
namespace Gi
open Go Go.RowKit
set_option maxHeartbeats 8000000
set_option maxRecDepth 4000
attribute [local simp] start qt dY fa fh gj fg gi gr gq rB rY rE rZ rH r8 rI r9 rJ sa rS sd rU se rV sf rW sh V.cells plain dP ja isInt isStr isBool bin eu i7 ew i9 gl un asList L.view cy V.view viewL dd cu eC dN eh comp cU dS eV dW dD dA dC cF ct df co cE cO cA dx du cH dE dF V.flat L.flat fe fv dK putAt thaw thawL thawT V.ow gn fj fk ez gm eA fi freezeVs freezeLs freezeL V.mut L.mut cN fx iI dj dQ cZ fI ed dH eB L.bD cQ fy ej fE ep eH wp_seq wp_block dh fo eD dO eE wp_skip wp_exit wp_ret eG eM eP eN eT eU eS dV cM L.bB cX cV cW fm dI storeD dg gZ cq eK cJ nP L.bG L.closed V.closed PV.bare PV.flat
def DK {w:Q5}(h:w.Ok 1048576):cf Ph cK 424 [w.v,cL true]=some (.agg (SW (J7 w) w.a2.a0 w.a5)):=by have e1:=jN (Zi 1048576) h;have N0:=fF 24 (w.a2.a0.map Q1.e);have N1:=fF 4 (w.aK.map X3.e);have N2:=fF 5 (w.a5.map Q2.e);simp only[SW,J7,Q5.v];generalize nd 24 (w.a2.a0.map Q1.e)=n0 at*;generalize nd 4 (w.aK.map X3.e)=n1 at*;generalize nd 5 (w.a5.map Q2.e)=n2 at*;rcases N0 with⟨-,rfl⟩|⟨-,rfl⟩<;>rcases N1 with⟨-,rfl⟩|⟨-,rfl⟩<;>rcases N2 with⟨-,rfl⟩|⟨-,rfl⟩<;>(refine ca rfl ?_;simp(maxSteps:=9^9) [sD,e1,Q5.e])
def LE (w u:Q5):Prop:=u.a2.a0.length=w.a2.a0.length/\ u.a5.length=w.a5.length/\ u.aK.length=w.aK.length
def EI.le {w u:Q5}{a b:Nat}(d:EI w a b u):LE w u:=⟨d.lb,d.ls,congrArg List.length d.rest.2.2.2.2.2.2.2⟩
def A4 {w:Q5}(h:w.Ok 1048576)(hb:mY (.lst eR) (.lst (w.a2.a0.map Q1.e)))(hs:mY (.lst fL) (.lst (w.a5.map Q2.e)))(hz:sz (.lst (w.a5.map Q2.e))<=1048576):cf Ph cK 633 [w.v]=some (.agg (SW (xF w w.a2.a0.length) (xF w w.a2.a0.length).a2.a0 (xF w w.a2.a0.length).a5)):=by
 have ad:w.a2.a0.length<=maxLen:=Zc h.2.2.1.1 (by unfold maxLen;omega);have e1:=DK h;have al:∀k,(hk:k<w.a2.a0.length)->cf Ph cK 631 [(zT w k).v,fZ w.a2.a0[k].aP,fZ w.a2.a0[k].av]=some (.agg (SW (zT w (k+1)) (zT w (k+1)).a2.a0 (zT w (k+1)).a5))/\ LE w (zT w k)/\ LE w (zT w (k+1)):=fun k hk=>by
  obtain⟨a,b,d,d2⟩:=Om h hb hs hz k (Yy hk);obtain⟨_,_,d3,_⟩:=Om h hb hs hz (k+1) hk;have ax:=d2 hk;have zs:sz (.lst ((zT w k).a5.map Q2.e))<=1900000:=by have:=d.zs;generalize sz (.lst ((zT w k).a5.map Q2.e))=A at*;generalize sz (.lst (w.a5.map Q2.e))=B at*;omega
  exact⟨by rw[Vd hk];exact AZ d.ok (DI.all d.ok d.hb d.hs zs _ _) zs,d.le,d3.le⟩
 have an:∀k,(hk:k<w.a2.a0.length)->cf Ph cK 627 [(xF w k).v,fZ w.a2.a0[k].aP,fZ w.a2.a0[k].av]=some (.b8 [(true,SW (xF w (k+1)) (xF w (k+1)).a2.a0 (xF w (k+1)).a5),(false,[.pv (.int .i64 (K5 (xF w k) w.a2.a0[k].aP w.a2.a0[k].av).2)])])/\ LE w (xF w k)/\ LE w (xF w (k+1)):=fun k hk=>by obtain⟨a,b,d,_⟩:=Cr h hb hs hz k (Yy hk);obtain⟨_,_,d3,_⟩:=Cr h hb hs hz (k+1) hk;exact⟨by rw[U7 hk];exact vu d.ok _ _,d.le,d3.le⟩
 have pn:LE w (xF w w.a2.a0.length):=by obtain⟨_,_,d,_⟩:=Cr h hb hs hz _ (Zi _);exact d.le
 obtain⟨b3,F3,G3⟩:=FP Q1.e 24 w.a2.a0;obtain⟨b8,F8,G8⟩:=FP X3.e 4 w.aK;obtain⟨b9,F9,G9⟩:=FP Q2.e 5 w.a5;simp only[SW,J7,F3 _ rfl,F8 _ rfl,F9 _ rfl]at e1;have lE:dZ (w.a2.a0.length:Nat) (w.a2.a0.length:Nat)=false:=iG (Int.le_refl _);refine ca rfl ?_;cases h3:b3<;>cases h8:b8<;>cases h9:b9<;>simp only[h3,h8,h9,dB,cond_true,cond_false]at e1 F3 F8 F9<;>simp(maxSteps:=9^9) [pX,e1];all_goals
  refine eX dz Cl.fin w.a2.a0.length [.f,.t,.t,.t,.f,.f,.f,.f,.f,.f,.f,.f,.t,.t,.t,.f,.f,.f,.f,.f,.f,.f,.f,.f,.f,.f,.f,.f,.f,.f,.f,.f,.f,.f,.f,.f,.f,.f,.f,.f,.f,.f,.f,.f] (fun k=>[(14,ce .i64 k)]) (fun k=>hX w (zT w k) b3 b8 b9) rfl (by simp[h3,h8,h9,hX,oB,cB,zT,J7,Q5.e]) (fun k hk=> ?_) ?_
  ·obtain⟨e3,d1,d2⟩:=al k hk
   have f3:=F3 _ d2.1
   have f8:=F8 _ d2.2.2
   have f9:=F9 _ d2.2.1
   have g3:=F3 _ d1.1
   have g8:=F8 _ d1.2.2
   have g9:=F9 _ d1.2.1
   have k3:=G3 _ d1.1
   have k8:=G8 _ d1.2.2
   have k9:=G9 _ d1.2.1
   have hx:=Q1.e.eq_1 w.a2.a0[k]
   generalize zT w (k+1)=u2 at*
   generalize zT w k=u at*
   simp only[SW,wN,f3,f8,f9,g3,g8,g9,k3,k8,k9,h3,h8,h9,ndN,Q5.v]at e3⊢
   simp(maxSteps:=9^9) [jD,e3,hk,hx,cY ad hk,dw hk,h3,h8,h9,hX,oB,cB,Q5.e,-fx]
   first|(refine Kn.of [0,1,7,8,9,5] (by decide) ?_ ?_<;>simp[Q5.e];done)|(refine Kn.of [0,1,8,9,10,11,6] (by decide) ?_ ?_<;>simp[Q5.e];done)|(refine Kn.of [0,1,9,10,11,12,13,7] (by decide) ?_ ?_<;>simp[Q5.e];done)|(refine Kn.of [0,1,10,11,12,13,14,15,8] (by decide) ?_ ?_<;>simp[Q5.e];done)
  simp(maxSteps:=9^9) [jD,lE,Q5.e,h3,h8,h9,hX,oB,cB]
  refine eX dz Cl.fin w.a2.a0.length [.f,.f,.t,.t,.f,.f,.f,.f,.f,.f,.f,.f,.f,.f,.f,.f,.f,.f,.f,.f,.f,.f,.f,.f,.f,.f,.f,.t,.t,.t,.f,.f,.f,.f,.f,.f,.f,.f,.f,.f,.f,.f,.f,.f] (fun k=>[(29,ce .i64 k)]) (fun k=>hX w (xF w k) b3 b8 b9) rfl (by simp[h3,h8,h9,hX,oB,cB,xF,Q5.e]) (fun k hk=> ?_) ?_
  ·obtain⟨e3,d1,d2⟩:=an k hk
   have f3:=F3 _ d2.1
   have f8:=F8 _ d2.2.2
   have f9:=F9 _ d2.2.1
   have g3:=F3 _ d1.1
   have g8:=F8 _ d1.2.2
   have g9:=F9 _ d1.2.1
   have k3:=G3 _ d1.1
   have k8:=G8 _ d1.2.2
   have k9:=G9 _ d1.2.1
   have hx:=Q1.e.eq_1 w.a2.a0[k]
   generalize xF w (k+1)=u2 at*
   generalize xF w k=u at*
   simp only[SW,wN,f3,f8,f9,g3,g8,g9,k3,k8,k9,h3,h8,h9,ndN,Q5.v]at e3⊢
   simp(maxSteps:=9^9) [kW,e3,hk,hx,cY ad hk,dw hk,h3,h8,h9,hX,oB,cB,Q5.e,-fx]
   first|(refine Kn.of [0,1,7,8,9,5] (by decide) ?_ ?_<;>simp[Q5.e];done)|(refine Kn.of [0,1,8,9,10,11,6] (by decide) ?_ ?_<;>simp[Q5.e];done)|(refine Kn.of [0,1,9,10,11,12,13,7] (by decide) ?_ ?_<;>simp[Q5.e];done)|(refine Kn.of [0,1,10,11,12,13,14,15,8] (by decide) ?_ ?_<;>simp[Q5.e];done)
  have f3:=F3 _ pn.1
  have f8:=F8 _ pn.2.2
  have f9:=F9 _ pn.2.1
  generalize xF w w.a2.a0.length=u at*
  simp only[SW,f3,f8,f9]
  simp(maxSteps:=9^9) [kW,lE,Q5.e,h3,h8,h9,hX,oB,cB]
end Gi
namespace Gi
open Go Go.RowKit
set_option maxHeartbeats 8000000
set_option maxRecDepth 8000
attribute [local simp] start iN cD cj cT dG dY fa Opd.ev put V.cells plain dP ja isInt isStr isBool bin ft un asList L.view cy V.view viewL done dd cu fb eh comp cU dS cz V.flat L.flat fe fv dK putAt freezeVs freezeLs freezeL V.mut L.mut lent Q0.ba L.bL vB yy nV yI pd Bw PV.flat PV.bare nK Q0.zone wv thaw thawL thawT V.closed L.closed
def Wy {c0 c2 c5 d0 d2 d5 l0:Int}{c1 d1:Bool}{c3 c4 c6 c7 c8 c9 d3 d4 d6 d7 d8 d9:List (List PV)}(h0:dX jh (WR c0 c1 c2 c3 c4 c5 c6 c7 c8 c9))(a1:gV (WR c0 c1 c2 c3 c4 c5 c6 c7 c8 c9)<=1048576)(h1:dX jh (WR d0 d1 d2 d3 d4 d5 d6 d7 d8 d9))(ao:gV (WR d0 d1 d2 d3 d4 d5 d6 d7 d8 d9)<=2097152)(m0:cf Ph cK 104 [.agg (WP c0 c1 c2 c3 c4 c5 c6 c7 c8 c9),ce .i64 1048576]=some (ce .i64 l0))(n0:¬l0<0)
 (e1:cf Ph cK 633 [.agg (WP c0 c1 c2 c3 c4 c5 c6 c7 c8 c9)]=some (.agg [.pv (.int .i64 d0), .pv (.bool d1), .pv (.int .i64 d2),nd 24 d3, .down 11 d4, .pv (.int .i64 d5), .down 4 d6, .down 3 d7,nd 4 d8,nd 5 d9]))
 (e2:cf Ph cK 632 [.agg (WP c0 c1 c2 c3 c4 c5 c6 c7 c8 c9)]=some (.agg [.pv (.int .i64 d0), .pv (.bool d1), .pv (.int .i64 d2),nQ d3, .pv (.lst d4), .pv (.int .i64 d5), .pv (.lst d6), .pv (.lst d7), .pv (.lst d8), .pv (.lst d9)])):cf Ph cK 617 [.agg (WP c0 c1 c2 c3 c4 c5 c6 c7 c8 c9)]=some (cL true):=by
 have a7:cf Ph cK 106 [.agg (WP c0 c1 c2 c3 c4 c5 c6 c7 c8 c9)]=some (.agg (ly jh (WR c0 c1 c2 c3 c4 c5 c6 c7 c8 c9))):=Uk (ext:=cK) _ h0 a1;have a6:(ly jh (WR c0 c1 c2 c3 c4 c5 c6 c7 c8 c9)).map fv=WP c0 c1 c2 c3 c4 c5 c6 c7 c8 c9:=ac6 h0;have ae:V.closed (.agg (ly jh (WR c0 c1 c2 c3 c4 c5 c6 c7 c8 c9)))=true:=zP h0;have a8:∀hh,wv hh (.agg (ly jh (WR c0 c1 c2 c3 c4 c5 c6 c7 c8 c9)))=(.agg [.pv (.int .i64 c0), .pv (.bool c1), .pv (.int .i64 c2), .arr hh.length, .arr (hh.length+1), .pv (.int .i64 c5), .arr (hh.length+1+1), .arr (hh.length+1+1+1), .arr (hh.length+1+1+1+1), .arr (hh.length+1+1+1+1+1)],hh++[.bC 24 c3, .bC 11 c4, .bC 4 c6, .bC 3 c7, .bC 4 c8, .bC 5 c9]):=fun hh=>WL h0 hh;have af:cf Ph cK 108 [.agg (WP c0 c1 c2 c3 c4 c5 c6 c7 c8 c9), .agg (WP c0 c1 c2 c3 c4 c5 c6 c7 c8 c9)]=some (cL true):=IT (ext:=cK) _ h0;have ag:cf Ph cK 108 [.agg (WP d0 d1 d2 d3 d4 d5 d6 d7 d8 d9), .agg (WP d0 d1 d2 d3 d4 d5 d6 d7 d8 d9)]=some (cL true):=IT (ext:=cK) _ h1;generalize ly jh (WR c0 c1 c2 c3 c4 c5 c6 c7 c8 c9)=OW at a7 a6 ae a8;have cw:=AH cI _ jh 1 h0 (by decide);have aq:=AH cI _ jh 1 h1 (by decide);have mw:=Oa (ext:=cK) _ h0 1 (by omega) (by unfold Bz;omega);have hd:=NW (ext:=cK) _ h1 1 (by omega) (by unfold Bz;omega);have ah:=rj cI (WR c0 c1 c2 c3 c4 c5 c6 c7 c8 c9) 1;have aa:=rj cI (WR d0 d1 d2 d3 d4 d5 d6 d7 d8 d9) 1;have ai:(jn cI (WR d0 d1 d2 d3 d4 d5 d6 d7 d8 d9) 1).2<=Bz:=by unfold Bz;omega
 have mg:=mkW h1 (k:=1) (by omega) ai;simp only[WR,WP,jh,Pl,WJ,jn,Zt,Zy]at m0 e1 e2 a7 a6 a8 af ag mw hd ah aa⊢;have tl:eR.length=24/\ nN.length=11/\ mR.length=4/\ mS.length=3/\ nO.length=4/\ fL.length=5:=⟨rfl,rfl,rfl,rfl,rfl,rfl⟩;simp only[tl]at mw;clear cw aq h0 h1 a1 ao ai tl;have dt:nQ d3= .nil/\ d3=[] \/nQ d3= .pv (.lst d3)/\ d3≠[]:=by cases d3 with|nil=>exact .inl ⟨rfl,rfl⟩|cons x xs=>exact .inr ⟨rfl,by simp⟩
 rcases ME 24 d3 with⟨rfl,u3,v3,w3,o3⟩|⟨z3,u3,v3,w3,o3⟩<;>rcases ME 4 d8 with⟨rfl,u8,v8,w8,o8⟩|⟨_,u8,v8,w8,o8⟩<;>rcases ME 5 d9 with⟨rfl,u9,v9,w9,o9⟩|⟨_,u9,v9,w9,o9⟩;all_goals
  simp only[u3,u8,u9]at e1
  (first|(have dt:=(dt.resolve_right fun q=>q.2 rfl).1)|(have dt:=(dt.resolve_left fun q=>z3 q.2).1))
  simp only[dt]at e2
  simp only[v3,v8,v9,w3,w8,w9]at mg
  (try simp only[acX]at mg hd aa)
  have hk:=Int.not_lt.2 (Int.le_trans (by decide:(0:Int)<=1) ah)
  have ar:=Int.not_lt.2 (Int.le_trans (by decide:(0:Int)<=1) aa)
  refine j0 rfl ?_
  simp[il,m0,n0,a7,a6, ↓ae, ↓a8,af,ag,e1,e2,mw,mg,hd,hk,ar]
end Gi
namespace Gi
open Go Go.RowKit
set_option maxHeartbeats 1000000
set_option maxRecDepth 8000
attribute [local simp] start iN cD cj cT dG dY fa Opd.ev put V.cells plain dP ja isInt isStr isBool bin ft un asList L.view cy V.view viewL done dd cu fb eh comp cU dS cz V.flat L.flat fe fv dK putAt freezeVs freezeLs freezeL V.mut L.mut lent Q0.ba L.bL vB yy nV yI pd Bw PV.flat PV.bare nK Q0.zone
def HG {r0:List PV}(h0:dX jh r0):cf Ph cK 617 [.agg (r0.map .pv)]=some (cL true):=by
 obtain⟨w,rfl,au⟩:=Q5.of (B:=gV r0) r0 h0 (Zi _);have m0:cf Ph cK 104 [.agg (WP w.ak w.aN w.aQ (w.a2.a0.map Q1.e) (w.aL.map X6.e) w.aI (w.aJ.aJ.map X5.e) (w.aO.aX.map X9.e) (w.aK.map X3.e) (w.a5.map Q2.e)),ce .i64 1048576]=some (ce .i64 (less 1048576 (gV w.e))):=T9 (ext:=cK) _ h0 1048576 (by omega) (by omega);show cf Ph cK 617 [.agg (WP w.ak w.aN w.aQ (w.a2.a0.map Q1.e) (w.aL.map X6.e) w.aI (w.aJ.aJ.map X5.e) (w.aO.aX.map X9.e) (w.aK.map X3.e) (w.a5.map Q2.e))]=_;generalize q0:less 1048576 (gV w.e)=l0 at m0;by_cases n0:l0<0;refine j0 rfl ?_;simp only[WP]at m0;simp[WP,il,m0,n0];obtain⟨ay,az⟩:=abp (by omega) q0 n0;have a1:gV w.e<=1048576:=by omega
 have hk:=Q5.Ok.mono a1 au;have aj:=h0;simp only[Q5.e,jh,dX]at aj;obtain⟨g0,g1,g2,g3,g4,g5,g6,g7,g8,g9,aw⟩:=aj;have ab:sz (.lst (w.a5.map Q2.e))<=1048576:=by simp only[Q5.e,gV]at a1;generalize sz (.lst (w.a5.map Q2.e))=B0 at*;omega
 have e1:=A4 hk g3 g9 ab;have e2:=Bj hk g3 g9 ab;obtain⟨a,b,d,ha,hb⟩:=Cr hk g3 g9 ab _ (Zi _);generalize xF w w.a2.a0.length=u at*;obtain⟨r0,r1,r2,r3,r4,r5,r6,r7⟩:=d.rest;have zb:=d.zb;have zs:=d.zs;have db:=d.hb;have dv:=d.hs;refine Wy h0 a1 (d0:=u.ak) (d1:=u.aN) (d2:=u.aQ) (d3:=u.a2.a0.map Q1.e) (d4:=u.aL.map X6.e) (d5:=u.aI) (d6:=u.aJ.aJ.map X5.e) (d7:=u.aO.aX.map X9.e) (d8:=u.aK.map X3.e) (d9:=u.a5.map Q2.e) ?_ ?_ m0 n0 e1 e2;simp only[WR,jh,dX,r0,r1,r2,r3,r4,r5,r6,r7];exact⟨g0,trivial,g2,db,g4,g5,g6,g7,g8,dv,aw⟩;simp only[Q5.e,gV]at a1;simp only[WR,gV,r0,r1,r2,r3,r4,r5,r6,r7];generalize sz (.lst (u.a2.a0.map Q1.e))=A at*;generalize sz (.lst (u.a5.map Q2.e))=B at*;generalize sz (.lst (w.a2.a0.map Q1.e))=A0 at*;generalize sz (.lst (w.a5.map Q2.e))=B0 at*;simp only[sz]at*;omega
end Gi
