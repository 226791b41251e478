/- A part. -/
import Derived.Test.YtndiampmpmbfoaaGreatGrK
import Derived.Test.YtndiampmpmbfoaaGreatGrC
set_option linter.all false
namespace Gi
open Go Go.RowKit
set_option maxHeartbeats 8000000
set_option maxRecDepth 4000
attribute [local simp] start qh bG cz dk eR dj eQ eW eV se sx sf sy sh sA si sB sj sC sk sD so sE sp sF su sG V.cells plain bA gv isInt isStr isBool bin cu iq cy ir eS un asList L.view al V.view viewL aZ am cD bM bS comp aO bJ cT bW bw bu bv aS aE bT aw aR aW aK br bq ba bz bB V.flat L.flat da df bD putAt thaw thawL thawT V.ow eU dx dy cB eT cC dw freezeVs freezeLs freezeL V.mut L.mut aJ eF gQ be bC aN dC bQ bj bX L.bD aY dq ca dD bU cf wp_seq wp_block bm dA cE bN cF wp_skip wp_exit wp_ret co cH cL cK cP cQ cO bV aM L.bC aV aT aU dz bt storeD bf fm ai ct aA nq L.bG L.closed V.closed PV.bare PV.flat
attribute [local simp] nu
def Ca {B:Nat}(hB:B<=1048576){y:YP}(hy:y.Ok B){s:Y3}(h:s.Ok B)(now fate:Int)(hc:(kZ y.a7&&((uq y.a7).2&&(!(bO now y.ab)&&rg now 0 1000000000000)))=false):ag Ph aC 652 [y.v,s.v,aa .i64 now,aa .i64 fate]=some (UA (y,s,0)):=by
 have e1:=o7 hB hy
 have e2:=jR hB h
 have e3:=qU y.a7 (by have:=hy.1.2.2.1;unfold maxLen;omega)
 have e4:=lE (YD.Ok.mono (show B<=maxLen by unfold maxLen;omega) hy.1)
 have e5:=bp now 0 1000000000000
 have O:=fq 4 (s.aD.a0.map Y1.e)
 generalize uq y.a7=fw at*
 obtain⟨w,b⟩:=fw
 simp only[Xg,Y2.e.eq_1,Zv,Zz]at e3
 simp only[UA,Vl,CJ,PH,PI,PK]
 generalize nd 4 (s.aD.a0.map Y1.e)=n0 at*
 generalize kZ y.a7=b1 at*
 generalize c3:bO now y.ab=b3 at*
 generalize rg now 0 1000000000000=b4 at*
 cases b1
 ·clear hc
  rcases O with⟨-,rfl⟩|⟨-,rfl⟩<;>(refine ae rfl ?_;simp(maxSteps:=9^9) [aQ,e1,e2,e3,e4])
 cases b
 ·clear hc
  rcases O with⟨-,rfl⟩|⟨-,rfl⟩<;>(refine ae rfl ?_;simp(maxSteps:=9^9) [aQ,e1,e2,e3,e4])
 cases b3
 ·cases b4
  ·clear hc
   rcases O with⟨-,rfl⟩|⟨-,rfl⟩<;>(refine ae rfl ?_;simp(maxSteps:=9^9) [aQ,e1,e2,e3,e4,c3,e5])
  ·exact absurd hc Bool.noConfusion
 ·clear hc
  rcases O with⟨-,rfl⟩|⟨-,rfl⟩<;>(refine ae rfl ?_;simp(maxSteps:=9^9) [aQ,e1,e2,e3,e4,c3])
def Cb {B:Nat}(aq:100<=B)(hB:B<=1048576){y:YP}(hy:y.Ok B){s:Y3}(h:s.Ok B)(hc:s.aG.length+2<=B)(now fate:Int):ag Ph aC 652 [y.v,s.v,aa .i64 now,aa .i64 fate]=some (UA (xT y s now fate)):=by
 cases cc:kZ y.a7&&((uq y.a7).2&&(!(bO now y.ab)&&rg now 0 1000000000000))
 ·rw[Ca hB hy h now fate cc];unfold xT;rw[cc];rfl
 unfold xT
 rw[cc]
 simp only[Zh,ZJ]at cc
 obtain⟨c1,c2,c3,c4⟩:=cc
 have e1:=o7 hB hy
 have e2:=jR hB h
 have e3:=qU y.a7 (by have:=hy.1.2.2.1;unfold maxLen;omega)
 have e4:=lE (YD.Ok.mono (show B<=maxLen by unfold maxLen;omega) hy.1)
 have hw:=OF hy.1
 have e5:=bp now 0 1000000000000
 have e6:ag Ph aC 680 [.agg [.pv (.str s.aD.aE), .pv (.lst (s.aD.a0.map Y1.e)), .pv (.int .i64 s.aD.aT), .pv (.lst (s.a3.map Y6.e)), .pv (.lst (s.aG.map Y2.e))],_]=_:=pm (by omega) hB h hw
 have e7:ag Ph aC 680 [.agg [.pv (.str (sa s (uq y.a7).1).1.aD.aE), .pv (.lst ((sa s (uq y.a7).1).1.aD.a0.map Y1.e)), .pv (.int .i64 (sa s (uq y.a7).1).1.aD.aT), .pv (.lst ((sa s (uq y.a7).1).1.a3.map Y6.e)), .pv (.lst ((sa s (uq y.a7).1).1.aG.map Y2.e))],_]=_:=pm (by omega) hB (KN aq h hw (by omega)) hw
 have e8:=Aj hB hy.1 (uq y.a7).1.aj
 have e9:=Ak (LD y.aW)
 have ad:=N3 c4 (Of (LD y.aW))
 have af:= @Vr _ hy.2.1
 rw[c1]at e4
 rw[c4]at e5
 simp only[cond_true]
 have O:=fq 4 (s.aD.a0.map Y1.e)
 clear hw
 generalize uq y.a7=fw at*
 obtain⟨w,b⟩:=fw
 simp only at c2
 subst c2
 simp only[Xg,Y2.e.eq_1,Zv,Zz]at e3 e6 e7
 simp only at e8
 by_cases f0:fate=0
 ·subst f0
  rw[VJ]
  clear e7
  have O1:=fq 4 ((sa s w).1.aD.a0.map Y1.e)
  generalize sa s w=r at*
  obtain⟨r1,r2⟩:=r
  simp only[XH,CJ]at e6
  have g0:((0:Int)==0)=true:=rfl
  by_cases g1:r2=1 \/r2=2
  ·have g2:(r2==1||r2==2)=true:=by simpa using g1
   simp only[g0,g2,Zb7,Bool.or_true,ZU,cond_true,UA,Vl,CJ,PH,PI,PK]
   generalize Dx y.a7 w.aj=a at*
   obtain⟨a1,a2⟩:=a
   simp only[OT]at e8
   clear e9 ad af
   generalize nd 4 (s.aD.a0.map Y1.e)=n0 at*
   generalize nd 4 (r1.aD.a0.map Y1.e)=n1 at*
   rcases g1 with rfl|rfl<;>rcases O with⟨q0,rfl⟩|⟨q0,rfl⟩<;>(try rw[q0]at e6)<;>rcases O1 with⟨-,rfl⟩|⟨-,rfl⟩<;>(refine ae rfl ?_;simp(maxSteps:=9^9) [aQ,e1,e2,e3,e4,e5,e6,e8,c3,xZ])
  ·have g2:(r2==1||r2==2)=false:=by simpa using g1
   have k1:¬r2=1:=fun e=>g1 (.inl e)
   have k2:¬r2=2:=fun e=>g1 (.inr e)
   simp only[g2,G',cond_false,UA,Vl,CJ,PH,PI,PK]
   clear e8
   generalize nd 4 (s.aD.a0.map Y1.e)=n0 at*
   generalize nd 4 (r1.aD.a0.map Y1.e)=n1 at*
   cases c5:bO y.aW 60
   ·rw[QB c5]at e9 ad⊢
    rcases O with⟨q0,rfl⟩|⟨q0,rfl⟩<;>(try rw[q0]at e6)<;>rcases O1 with⟨-,rfl⟩|⟨-,rfl⟩<;>(refine ae rfl ?_;simp(maxSteps:=9^9) [aQ,e1,e2,e3,e4,e5,e6,c3,c5,k1,k2,g2,e9,ad])
   ·have af:=af c5
    rw[QC c5]at e9 ad⊢
    rcases O with⟨q0,rfl⟩|⟨q0,rfl⟩<;>(try rw[q0]at e6)<;>rcases O1 with⟨-,rfl⟩|⟨-,rfl⟩<;>(refine ae rfl ?_;simp(maxSteps:=9^9) [aQ,e1,e2,e3,e4,e5,e6,c3,c5,k1,k2,g2,e9,ad,af])
 by_cases f2:fate=2
 ·subst f2
  rw[VK]
  clear e7
  have O1:=fq 4 ((sa s w).1.aD.a0.map Y1.e)
  generalize sa s w=r at*
  obtain⟨r1,r2⟩:=r
  simp only[XH,CJ]at e6
  have g0:((2:Int)==0||(2:Int)==3)=false:=rfl
  simp only[g0,Za9,cond_false,UA,Vl,CJ,PH,PI,PK]
  clear e8
  generalize nd 4 (s.aD.a0.map Y1.e)=n0 at*
  generalize nd 4 (r1.aD.a0.map Y1.e)=n1 at*
  cases c5:bO y.aW 60
  ·rw[QB c5]at e9 ad⊢
   rcases O with⟨q0,rfl⟩|⟨q0,rfl⟩<;>(try rw[q0]at e6)<;>rcases O1 with⟨-,rfl⟩|⟨-,rfl⟩<;>(refine ae rfl ?_;simp(maxSteps:=9^9) [aQ,e1,e2,e3,e4,e5,e6,c3,c5,c4,e9,ad])
  ·have af:=af c5
   rw[QC c5]at e9 ad⊢
   rcases O with⟨q0,rfl⟩|⟨q0,rfl⟩<;>(try rw[q0]at e6)<;>rcases O1 with⟨-,rfl⟩|⟨-,rfl⟩<;>(refine ae rfl ?_;simp(maxSteps:=9^9) [aQ,e1,e2,e3,e4,e5,e6,c3,c5,c4,e9,ad,af])
 by_cases f3:fate=3
 ·subst f3
  rw[VL]
  have O1:=fq 4 ((sa s w).1.aD.a0.map Y1.e)
  have O2:=fq 4 ((sa (sa s w).1 w).1.aD.a0.map Y1.e)
  generalize sa (sa s w).1 w=r at*
  generalize sa s w=p at*
  obtain⟨r1,r2⟩:=r
  obtain⟨p1,p2⟩:=p
  simp only[XH,CJ]at e6 e7
  have g0:((3:Int)==3)=true:=rfl
  by_cases g1:r2=1 \/r2=2
  ·have g2:(r2==1||r2==2)=true:=by simpa using g1
   simp only[g0,g2,Zb7,Bool.or_true,ZU,cond_true,UA,Vl,CJ,PH,PI,PK]
   generalize Dx y.a7 w.aj=a at*
   obtain⟨a1,a2⟩:=a
   simp only[OT]at e8
   clear e9 ad af
   generalize nd 4 (s.aD.a0.map Y1.e)=n0 at*
   generalize nd 4 (r1.aD.a0.map Y1.e)=n1 at*
   generalize nd 4 (p1.aD.a0.map Y1.e)=n2 at*
   rcases g1 with rfl|rfl<;>rcases O with⟨q0,rfl⟩|⟨q0,rfl⟩<;>(try rw[q0]at e6)<;>rcases O1 with⟨q1,rfl⟩|⟨q1,rfl⟩<;>(try rw[q1]at e7)<;>rcases O2 with⟨-,rfl⟩|⟨-,rfl⟩<;>(refine ae rfl ?_;simp(maxSteps:=9^9) [aQ,e1,e2,e3,e4,e5,e6,e7,e8,c3,xZ])
  ·have g2:(r2==1||r2==2)=false:=by simpa using g1
   have k1:¬r2=1:=fun e=>g1 (.inl e)
   have k2:¬r2=2:=fun e=>g1 (.inr e)
   simp only[g2,G',cond_false,UA,Vl,CJ,PH,PI,PK]
   clear e8
   generalize nd 4 (s.aD.a0.map Y1.e)=n0 at*
   generalize nd 4 (r1.aD.a0.map Y1.e)=n1 at*
   generalize nd 4 (p1.aD.a0.map Y1.e)=n2 at*
   cases c5:bO y.aW 60
   ·rw[QB c5]at e9 ad⊢
    rcases O with⟨q0,rfl⟩|⟨q0,rfl⟩<;>(try rw[q0]at e6)<;>rcases O1 with⟨q1,rfl⟩|⟨q1,rfl⟩<;>(try rw[q1]at e7)<;>rcases O2 with⟨-,rfl⟩|⟨-,rfl⟩<;>(refine ae rfl ?_;simp(maxSteps:=9^9) [aQ,e1,e2,e3,e4,e5,e6,e7,c3,c5,k1,k2,g2,e9,ad])
   ·have af:=af c5
    rw[QC c5]at e9 ad⊢
    rcases O with⟨q0,rfl⟩|⟨q0,rfl⟩<;>(try rw[q0]at e6)<;>rcases O1 with⟨q1,rfl⟩|⟨q1,rfl⟩<;>(try rw[q1]at e7)<;>rcases O2 with⟨-,rfl⟩|⟨-,rfl⟩<;>(refine ae rfl ?_;simp(maxSteps:=9^9) [aQ,e1,e2,e3,e4,e5,e6,e7,c3,c5,k1,k2,g2,e9,ad,af])
 rw[VM s w f0 f2 f3]
 clear e6 e7 e8
 have g0:(fate==0)=false:=by simpa using f0
 have g3:(fate==3)=false:=by simpa using f3
 simp only[g0,g3,Bool.or_self,Za9,cond_false,UA,Vl,CJ,PH,PI,PK]
 generalize nd 4 (s.aD.a0.map Y1.e)=n0 at*
 cases c5:bO y.aW 60
 ·rw[QB c5]at e9 ad⊢
  rcases O with⟨-,rfl⟩|⟨-,rfl⟩<;>(refine ae rfl ?_;simp(maxSteps:=9^9) [aQ,e1,e2,e3,e4,e5,c4,c3,c5,f0,f2,f3,g0,g3,e9,ad])
 ·have af:=af c5
  rw[QC c5]at e9 ad⊢
  rcases O with⟨-,rfl⟩|⟨-,rfl⟩<;>(refine ae rfl ?_;simp(maxSteps:=9^9) [aQ,e1,e2,e3,e4,e5,c4,c3,c5,f0,f2,f3,g0,g3,e9,ad,af])
end Gi
namespace Gi
open Go Go.RowKit
set_option maxHeartbeats 8000000
set_option maxRecDepth 4000
attribute [local simp] start qh bG cz dk eR dj eQ eW eV se sx sf sy sh sA si sB sj sC sk sD so sE sp sF su sG V.cells plain bA gv isInt isStr isBool bin cu iq cy ir eS un asList L.view al V.view viewL aZ am cD bM bS comp aO bJ cT bW bw bu bv aS aE bT aw aR aW aK br bq ba bz bB V.flat L.flat da df bD putAt thaw thawL thawT V.ow eU dx dy cB eT cC dw freezeVs freezeLs freezeL V.mut L.mut aJ eF gQ be bC aN dC bQ bj bX L.bD aY dq ca dD bU cf wp_seq wp_block bm dA cE bN cF wp_skip wp_exit wp_ret co cH cL cK cP cQ cO bV aM L.bC aV aT aU dz bt storeD bf fm ai ct aA nq L.bG L.closed V.closed PV.bare PV.flat
def S8 {Φ:Nat->Option AFn}{ext:Nat->List V->Option V}{k:Nat}{fn:AFn}{xz:List V}{e0:List (List PV)}{h:List Y0}{Q:Ex->St->Prop}(hn:Φ (k+2*fH)=none)(b0:Φ (k+fH)=none)(hk:Φ k=some fn)(hz:fn.body.bY=true)(hE:zt h=some e0)(hw:wp (ag Φ ext) Q [] (ap (ag Φ ext) aF fn.body (la fn xz h)))(hQ:∀e Z,Q e Z->e= .ret/\ ∃ls e1 ps,am Z fn.results=some [.agg ls]/\ zt Z.h=some e1/\ vw ls=some ps):
 ∃Z ls e1 ps,Q .ret Z/\ am Z fn.results=some [.agg ls]/\ ag Φ ext (k+2*fH) (bY e0::xz)=some (.b9 [(false,[.pv (.lst e1)]),(false,[.pv (.lst [ps])])])/\ JU e1=some Z.h/\ CW ps=some ls:=by
 cases hx:ap (ag Φ ext) aF fn.body (la fn xz h)with
 |none=>rw[hx,lJ]at hw;exact hw.elim
 |some x=>
  obtain⟨e,Z⟩:=x
  rw[hx,co]at hw
  obtain⟨rfl,ls,e1,ps,r1,r2,r3⟩:=hQ e Z hw
  refine⟨Z,ls,e1,ps,hw,r1,S7 hn b0 hk hz (vu hE) ?_,vu r2,wK r3⟩
  unfold fB
  rw[hx]
  simp only[Fi,OD,r1,r2,r3]
abbrev SE :Y0:= .box [.pv (.int .i64 0), .pv (.bool false), .pv (.int .i64 0), .nil, .nil, .pv (.int .i64 0), .nil, .nil, .nil, .nil]
abbrev dL (l:List (List PV)):L:= .pv (.lst l)
abbrev wL (now dv np:Int)(on:Bool)(b p k m s v:L):List L:=[.pv (.int .i64 now), .pv (.bool on), .pv (.int .i64 dv),b,p, .pv (.int .i64 np),k,m,s,v]
abbrev yL (od ox:Int)(w:Nat)(tr wt:Int):List L:=[.pv (.int .i64 od), .pv (.int .i64 ox), .arr w, .pv (.int .i64 tr), .pv (.int .i64 wt)]
abbrev rLq (nm:List UInt8)(c:L)(au sn od ox:Int)(w:Nat)(tr wt:Int):List L:=[.pv (.str nm),c, .pv (.int .i64 au), .pv (.int .i64 sn), .pv (.int .i64 od), .pv (.int .i64 ox), .arr w, .pv (.int .i64 tr), .pv (.int .i64 wt)]
abbrev sL (vn:List UInt8)(c:L)(va:Int)(a:Nat):List L:=[.pv (.str vn),c, .pv (.int .i64 va), .arr a, .arr (a+1)]
abbrev SH (W Y S R:List L)(i0 i1:List Y0)(W0 A1 C1:List (List PV))(wo:Y0):List Y0:=[.box W, .box Y, .box S,SE]++i0++[.bA 7 W0, .box R,wo]++i1++[.bA 2 A1, .bA 7 C1]
abbrev wQ (h:List Y0)(l:Nat)(B P K M S V:List (List PV)):Prop:=h[3]? =some SE/\ h[l+4]? =some (.bA 24 B)/\ h[l+5]? =some (.bA 11 P)/\ h[l+6]? =some (.bA 4 K)/\ h[l+7]? =some (.bA 3 M)/\ h[l+8]? =some (.bA 4 S)/\ h[l+9]? =some (.bA 5 V)
def wG (H:List Y0)(xz:List V)(ls:List L)(Q:List Y0->Prop):Prop:=∃e0 h e1 ps,zt H=some e0/\ ag Ph aC (653+2*fH) (bY e0::xz)=some (.b9 [(false,[.pv (.lst e1)]),(false,[.pv (.lst [ps])])])/\ JU e1=some h/\ CW ps=some ls/\ Q h
def ES {H:List Y0}{xz:List V}{ls:List L}{Q:List Y0->Prop}(hH:∃e,zt H=some e)(hw:wp (ag Ph aC) (fun e X=>e= .ret/\ am X dS.results=some [.agg ls]/\ (∃e1,zt X.h=some e1)/\ (∃ps,vw ls=some ps)/\ Q X.h) [] (ap (ag Ph aC) aF dS.body (la dS xz H))):wG H xz ls Q:=by
 obtain⟨e0,hE⟩:=hH
 obtain⟨Z,ls',e2,ps,q,r1,r2,r3,r4⟩:=S8 (Φ:=Ph) (ext:=aC) (k:=653) (fn:=dS) rfl rfl rfl rfl hE hw (fun e X g=>⟨g.1,_,_,_,g.2.1,g.2.2.1.choose_spec,g.2.2.2.1.choose_spec⟩)
 obtain⟨_,q1,_,_,q2⟩:=q
 rw[q1]at r1
 cases r1
 exact⟨e0,Z.h,e2,ps,hE,r2,r3,r4,q2⟩
def Vs {now dv np au sn od ox tr wt va:Int}{on:Bool}{nm vn:List UInt8}{B Pg Lk Ml St Sv W0 W1 A1 C1:List (List PV)}{k i:Nat}{bs vs:List PV}(hb:B[k]? =some bs)(hv:Sv[i]? =some vs)(hB:bs.length=24)(hV:vs.length=5)(e1:ag Ph aC 434 [.agg (wL now dv np on (dL B) (dL Pg) (dL Lk) (dL Ml) (dL St) (dL Sv))]=some (.agg (wL now dv np on (.down 24 B) (.down 11 Pg) (.down 4 Lk) (.down 3 Ml) (.down 4 St) (.down 5 Sv))))
 {wo:Y0} (a6:wo= .arr 7 W1 \/wo= .bA 7 W1) (hW:fV W1=true):wG (SH (wL now dv np on (dL B) (dL Pg) (dL Lk) (dL Ml) (dL St) (dL Sv)) (yL od ox 6 tr wt) (sL vn .nil va 7) (rLq nm .nil au sn od ox 6 tr wt) [] [] W0 A1 C1 wo) [.agg (wL now dv np on (dL B) (dL Pg) (dL Lk) (dL Ml) (dL St) (dL Sv)),aa .i64 k, .agg (rLq nm .nil au sn od ox 6 tr wt),aa .i64 i, .agg (sL vn .nil va 7)] (wL now dv np on (.arr 13) (.arr 14) (.arr 15) (.arr 16) (.arr 17) (.arr 18)) fun h=>wQ h 9 (B.set k (bs.take 13++([.str nm, .lst [], .int .i64 au, .int .i64 sn, .int .i64 od, .int .i64 ox, .lst W1, .int .i64 tr, .int .i64 wt]++bs.drop 22))) Pg Lk Ml St (Sv.set i [.str vn, .lst [], .int .i64 va, .lst A1, .lst C1]):=by
 refine ES (by rcases a6 with rfl|rfl<;>exact⟨_,rfl⟩) ?_
 obtain⟨hk,ah⟩:=Zb.1 hb
 obtain⟨hi,ak⟩:=Zb.1 hv
 have hd:vs.drop 5=[]:=Za5 (by omega)
 simp only[wL,dL]at e1
 rcases a6 with rfl|rfl<;>simp(maxSteps:=9^9) [dS,la,wL,rLq,yL,sL,dL,SH,wQ,e1,hb,hv,hk,hi,ah,ak,hW,hB,hV,hd,zt,Wm,vw,Oq]
def Vt {now dv np au sn od ox tr wt va:Int}{on:Bool}{nm vn:List UInt8}{B Pg Lk Ml St Sv W0 W1 A1 C1 I1:List (List PV)}{k i:Nat}{bs vs:List PV}(hb:B[k]? =some bs)(hv:Sv[i]? =some vs)(hB:bs.length=24)(hV:vs.length=5)(e1:ag Ph aC 434 [.agg (wL now dv np on (dL B) (dL Pg) (dL Lk) (dL Ml) (dL St) (dL Sv))]=some (.agg (wL now dv np on (.down 24 B) (.down 11 Pg) (.down 4 Lk) (.down 3 Ml) (.down 4 St) (.down 5 Sv))))
 {wo:Y0} (a6:wo= .arr 7 W1 \/wo= .bA 7 W1) (hW:fV W1=true):wG (SH (wL now dv np on (dL B) (dL Pg) (dL Lk) (dL Ml) (dL St) (dL Sv)) (yL od ox 6 tr wt) (sL vn (.arr 7) va 8) (rLq nm .nil au sn od ox 6 tr wt) [] [.bA 4 I1] W0 A1 C1 wo) [.agg (wL now dv np on (dL B) (dL Pg) (dL Lk) (dL Ml) (dL St) (dL Sv)),aa .i64 k, .agg (rLq nm .nil au sn od ox 6 tr wt),aa .i64 i, .agg (sL vn (.arr 7) va 8)] (wL now dv np on (.arr 14) (.arr 15) (.arr 16) (.arr 17) (.arr 18) (.arr 19)) fun h=>wQ h 10 (B.set k (bs.take 13++([.str nm, .lst [], .int .i64 au, .int .i64 sn, .int .i64 od, .int .i64 ox, .lst W1, .int .i64 tr, .int .i64 wt]++bs.drop 22))) Pg Lk Ml St (Sv.set i [.str vn, .lst I1, .int .i64 va, .lst A1, .lst C1]):=by
 refine ES (by rcases a6 with rfl|rfl<;>exact⟨_,rfl⟩) ?_
 obtain⟨hk,ah⟩:=Zb.1 hb
 obtain⟨hi,ak⟩:=Zb.1 hv
 have hd:vs.drop 5=[]:=Za5 (by omega)
 simp only[wL,dL]at e1
 rcases a6 with rfl|rfl<;>simp(maxSteps:=9^9) [dS,la,wL,rLq,yL,sL,dL,SH,wQ,e1,hb,hv,hk,hi,ah,ak,hW,hB,hV,hd,zt,Wm,vw,Oq]
def Vu {now dv np au sn od ox tr wt va:Int}{on:Bool}{nm vn:List UInt8}{B Pg Lk Ml St Sv W0 W1 A1 C1 I0:List (List PV)}{k i:Nat}{bs vs:List PV}(hb:B[k]? =some bs)(hv:Sv[i]? =some vs)(hB:bs.length=24)(hV:vs.length=5)(e1:ag Ph aC 434 [.agg (wL now dv np on (dL B) (dL Pg) (dL Lk) (dL Ml) (dL St) (dL Sv))]=some (.agg (wL now dv np on (.down 24 B) (.down 11 Pg) (.down 4 Lk) (.down 3 Ml) (.down 4 St) (.down 5 Sv))))
 {wo:Y0} (a6:wo= .arr 7 W1 \/wo= .bA 7 W1) (hW:fV W1=true):wG (SH (wL now dv np on (dL B) (dL Pg) (dL Lk) (dL Ml) (dL St) (dL Sv)) (yL od ox 7 tr wt) (sL vn .nil va 8) (rLq nm (.arr 4) au sn od ox 7 tr wt) [.bA 4 I0] [] W0 A1 C1 wo) [.agg (wL now dv np on (dL B) (dL Pg) (dL Lk) (dL Ml) (dL St) (dL Sv)),aa .i64 k, .agg (rLq nm (.arr 4) au sn od ox 7 tr wt),aa .i64 i, .agg (sL vn .nil va 8)] (wL now dv np on (.arr 14) (.arr 15) (.arr 16) (.arr 17) (.arr 18) (.arr 19)) fun h=>wQ h 10 (B.set k (bs.take 13++([.str nm, .lst I0, .int .i64 au, .int .i64 sn, .int .i64 od, .int .i64 ox, .lst W1, .int .i64 tr, .int .i64 wt]++bs.drop 22))) Pg Lk Ml St (Sv.set i [.str vn, .lst [], .int .i64 va, .lst A1, .lst C1]):=by
 refine ES (by rcases a6 with rfl|rfl<;>exact⟨_,rfl⟩) ?_
 obtain⟨hk,ah⟩:=Zb.1 hb
 obtain⟨hi,ak⟩:=Zb.1 hv
 have hd:vs.drop 5=[]:=Za5 (by omega)
 simp only[wL,dL]at e1
 rcases a6 with rfl|rfl<;>simp(maxSteps:=9^9) [dS,la,wL,rLq,yL,sL,dL,SH,wQ,e1,hb,hv,hk,hi,ah,ak,hW,hB,hV,hd,zt,Wm,vw,Oq]
def Vv {now dv np au sn od ox tr wt va:Int}{on:Bool}{nm vn:List UInt8}{B Pg Lk Ml St Sv W0 W1 A1 C1 I0 I1:List (List PV)}{k i:Nat}{bs vs:List PV}(hb:B[k]? =some bs)(hv:Sv[i]? =some vs)(hB:bs.length=24)(hV:vs.length=5)(e1:ag Ph aC 434 [.agg (wL now dv np on (dL B) (dL Pg) (dL Lk) (dL Ml) (dL St) (dL Sv))]=some (.agg (wL now dv np on (.down 24 B) (.down 11 Pg) (.down 4 Lk) (.down 3 Ml) (.down 4 St) (.down 5 Sv))))
 {wo:Y0} (a6:wo= .arr 7 W1 \/wo= .bA 7 W1) (hW:fV W1=true):wG (SH (wL now dv np on (dL B) (dL Pg) (dL Lk) (dL Ml) (dL St) (dL Sv)) (yL od ox 7 tr wt) (sL vn (.arr 8) va 9) (rLq nm (.arr 4) au sn od ox 7 tr wt) [.bA 4 I0] [.bA 4 I1] W0 A1 C1 wo) [.agg (wL now dv np on (dL B) (dL Pg) (dL Lk) (dL Ml) (dL St) (dL Sv)),aa .i64 k, .agg (rLq nm (.arr 4) au sn od ox 7 tr wt),aa .i64 i, .agg (sL vn (.arr 8) va 9)] (wL now dv np on (.arr 15) (.arr 16) (.arr 17) (.arr 18) (.arr 19) (.arr 20)) fun h=>wQ h 11 (B.set k (bs.take 13++([.str nm, .lst I0, .int .i64 au, .int .i64 sn, .int .i64 od, .int .i64 ox, .lst W1, .int .i64 tr, .int .i64 wt]++bs.drop 22))) Pg Lk Ml St (Sv.set i [.str vn, .lst I1, .int .i64 va, .lst A1, .lst C1]):=by
 refine ES (by rcases a6 with rfl|rfl<;>exact⟨_,rfl⟩) ?_
 obtain⟨hk,ah⟩:=Zb.1 hb
 obtain⟨hi,ak⟩:=Zb.1 hv
 have hd:vs.drop 5=[]:=Za5 (by omega)
 simp only[wL,dL]at e1
 rcases a6 with rfl|rfl<;>simp(maxSteps:=9^9) [dS,la,wL,rLq,yL,sL,dL,SH,wQ,e1,hb,hv,hk,hi,ah,ak,hW,hB,hV,hd,zt,Wm,vw,Oq]
end Gi
namespace Gi
open Go Go.RowKit
set_option maxHeartbeats 8000000
set_option maxRecDepth 4000
attribute [local simp] start qh bG cz dk eR dj eQ eW eV se sx sf sy sh sA si sB sj sC sk sD so sE sp sF su sG V.cells plain bA gv isInt isStr isBool bin cu iq cy ir eS un asList L.view al V.view viewL aZ am cD bM bS comp aO bJ cT bW bw bu bv aS aE bT aw aR aW aK br bq ba bz bB V.flat L.flat da df bD putAt thaw thawL thawT V.ow eU dx dy cB eT cC dw freezeVs freezeLs freezeL V.mut L.mut aJ eF gQ be bC aN dC bQ bj bX L.bD aY dq ca dD bU cf wp_seq wp_block bm dA cE bN cF wp_skip wp_exit wp_ret co cH cL cK cP cQ cO bV aM L.bC aV aT aU dz bt storeD bf fm ai ct aA nq L.bG L.closed V.closed PV.bare PV.flat
attribute [local simp] nu
attribute [local simp] G2
def vH {w:YI}(h:w.Ok 1048576)(s t:List UInt8)(fate:Int)(hf:(!(ov w)||(bO (dQ (IB s t) w.a8.a2) 0||bO (jS s) 0))=true):ag Ph aC 629 [w.v,eE s,eE t,aa .i64 fate]=some (.b9 [(true,XK w w.a8.a2 w.a4),(false,[.pv (.int .i64 0)])]):=by
 have an:w.a8.a2.length<=maxLen:=Zc h.2.2.1.1 (by unfold maxLen;omega)
 have e1:=r8 (Zn 1048576) h
 have e2:=m7 an s t
 have e3:=m8 s
 have e4:=uQ h
 have N0:=fq 24 (w.a8.a2.map Y4.e)
 have N1:=fq 4 (w.aK.map Z7.e)
 have N2:=fq 5 (w.a4.map Y3.e)
 simp only[XK,YI.v]at e4⊢
 clear h an
 generalize dQ (IB s t) w.a8.a2=k at*
 generalize jS s=i at*
 generalize nd 24 (w.a8.a2.map Y4.e)=n0 at*
 generalize nd 4 (w.aK.map Z7.e)=n1 at*
 generalize nd 5 (w.a4.map Y3.e)=n2 at*
 generalize ov w=b1 at*
 generalize hk:bO k 0=b2 at*
 generalize hi:bO i 0=b3 at*
 cases b1
 ·clear hf hk hi
  rcases N0 with⟨-,rfl⟩|⟨-,rfl⟩<;>rcases N1 with⟨-,rfl⟩|⟨-,rfl⟩<;>rcases N2 with⟨-,rfl⟩|⟨-,rfl⟩<;>(refine ae rfl ?_;simp(maxSteps:=9^9) [ce,e1,e2,e3,e4])
 cases b2
 ·cases b3
  ·simp at hf
  ·clear hf
   rcases N0 with⟨-,rfl⟩|⟨-,rfl⟩<;>rcases N1 with⟨-,rfl⟩|⟨-,rfl⟩<;>rcases N2 with⟨-,rfl⟩|⟨-,rfl⟩<;>(refine ae rfl ?_;simp(maxSteps:=9^9) [ce,e1,e2,e3,e4,hk,hi])
 ·clear hf hi
  rcases N0 with⟨-,rfl⟩|⟨-,rfl⟩<;>rcases N1 with⟨-,rfl⟩|⟨-,rfl⟩<;>rcases N2 with⟨-,rfl⟩|⟨-,rfl⟩<;>(refine ae rfl ?_;simp(maxSteps:=9^9) [ce,e1,e2,e3,e4,hk])
def yF {w:YI}(h:w.Ok 1048576)(hc:ov w=true->∀v∈w.a4,v.aG.length+2<=1048576)(s t:List UInt8)(fate:Int):ag Ph aC 629 [w.v,eE s,eE t,aa .i64 fate]=some (.b9 [(true,XK w (LC w s t fate).1 (LC w s t fate).2.1),(false,[.pv (.int .i64 (LC w s t fate).2.2)])]):=by
 rcases G8 w s t fate with⟨hf,q⟩|⟨k,hk,i,hi,q1,q2,c1,q⟩
 ·rw[q];exact vH h s t fate hf
 have an:w.a8.a2.length<=maxLen:=Zc h.2.2.1.1 (by unfold maxLen;omega)
 have e1:=r8 (Zn 1048576) h
 have e2:=m7 an s t
 have e3:=m8 s
 have e4:=uQ h
 rw[q]
 clear q
 have lk:bO (k:Int) 0=false:=ii (by omega)
 have li:bO (i:Int) 0=false:=ii (by omega)
 have hx:=Y4.e.eq_1 w.a8.a2[k]
 have hv:=Y3.e.eq_1 w.a4[i]
 have av:=h.2.2.1.2 _ (Zf hk)
 have ay:=h.2.2.2.2.2.2.2.2.2 _ (Zf hi)
 have az:=av.2.2.2.2.2.1.2.2
 have aB:=hc c1 _ (Zf hi)
 have e5:=Cb (by omega) (Zn 1048576) az ay aB w.al (C8 w fate)
 have e6:=pZ (Zn 1048576) av.2.2.2.2.2.1
 rw[q1]at e2
 rw[q2]at e3
 rw[c1]at e4
 have ne:∀(z:Nat)(l:List (List PV)),0<l.length->nd z l= .down z l:=fun z l hl=>by
  cases l with
  |nil=>simp at hl
  |cons x xs=>rfl
 have n8:=ne 4 (w.aK.map Z7.e) (by have:=(Cj c1).2.1;simp;omega)
 have n3:=ne 24 (w.a8.a2.map Y4.e) (by simp;omega)
 have n9:=ne 5 (w.a4.map Y3.e) (by simp;omega)
 have d1:=Ua hk (xT w.a8.a2[k].a5.aL w.a4[i] w.al (C8 w fate)).1
 have d2:=T7 (l:=w.a4) (i:=i) (xT w.a8.a2[k].a5.aL w.a4[i] w.al (C8 w fate)).2.1
 have m3:=ne 24 ((w.a8.a2.set k (xV w.a8.a2[k] (xT w.a8.a2[k].a5.aL w.a4[i] w.al (C8 w fate)).1)).map Y4.e) (by simp;omega)
 have m9:=ne 5 ((w.a4.set i (xT w.a8.a2[k].a5.aL w.a4[i] w.al (C8 w fate)).2.1).map Y3.e) (by simp;omega)
 have W0:=WL (xT w.a8.a2[k].a5.aL w.a4[i] w.al (C8 w fate)).2.2 ((xT w.a8.a2[k].a5.aL w.a4[i] w.al (C8 w fate)).1.a7.a9.map Y2.e)
 have M0:=fq 4 (w.a8.a2[k].a5.aF.a0.map Y1.e)
 have M1:=fq 4 ((xT w.a8.a2[k].a5.aL w.a4[i] w.al (C8 w fate)).2.1.aD.a0.map Y1.e)
 simp only[YI.v]at e4
 simp only[UA,Vl,CJ]at e5
 rw[n3,n8,n9]at e1
 simp only[XK]
 rw[m3,m9,n8,d1,d2]
 clear ne m3 m9 d1 d2 n3 n8 n9 an av ay az aB
 generalize xT w.a8.a2[k].a5.aL w.a4[i] w.al (C8 w fate)=p at*
 obtain⟨y,v,n⟩:=p
 simp only at M1 W0 e5⊢
 unfold C8 at e5
 have hb:(w.a8.a2.map Y4.e)[k]? =some (w.a8.a2[k]).e:=by rw[Zp,Zm hk];rfl
 have hs:(w.a4.map Y3.e)[i]? =some (w.a4[i]).e:=by rw[Zp,Zm hi];rfl
 rw[hx]at hb
 rw[hv]at hs
 have hW:=xZ y.a7.a9
 have aH:=fun wo a6=>Vs hb hs rfl rfl e1 (wo:=wo) a6 hW (nm:=w.a8.a2[k].a5.aF.aE) (au:=w.a8.a2[k].a5.aF.aT) (sn:=w.a8.a2[k].a5.ar) (od:=y.a7.aY) (ox:=y.a7.ae) (tr:=y.aW) (wt:=y.ab) (vn:=v.aD.aE) (va:=v.aD.aT) (W0:=w.a8.a2[k].a5.aL.a7.a9.map Y2.e) (A1:=v.a3.map Y6.e) (C1:=v.aG.map Y2.e)
 have aI:=fun wo a6=>Vt hb hs rfl rfl e1 (wo:=wo) a6 hW (nm:=w.a8.a2[k].a5.aF.aE) (au:=w.a8.a2[k].a5.aF.aT) (sn:=w.a8.a2[k].a5.ar) (od:=y.a7.aY) (ox:=y.a7.ae) (tr:=y.aW) (wt:=y.ab) (vn:=v.aD.aE) (va:=v.aD.aT) (W0:=w.a8.a2[k].a5.aL.a7.a9.map Y2.e) (A1:=v.a3.map Y6.e) (C1:=v.aG.map Y2.e) (I1:=v.aD.a0.map Y1.e)
 have aP:=fun wo a6=>Vu hb hs rfl rfl e1 (wo:=wo) a6 hW (nm:=w.a8.a2[k].a5.aF.aE) (au:=w.a8.a2[k].a5.aF.aT) (sn:=w.a8.a2[k].a5.ar) (od:=y.a7.aY) (ox:=y.a7.ae) (tr:=y.aW) (wt:=y.ab) (vn:=v.aD.aE) (va:=v.aD.aT) (W0:=w.a8.a2[k].a5.aL.a7.a9.map Y2.e) (A1:=v.a3.map Y6.e) (C1:=v.aG.map Y2.e) (I0:=w.a8.a2[k].a5.aF.a0.map Y1.e)
 have aX:=fun wo a6=>Vv hb hs rfl rfl e1 (wo:=wo) a6 hW (nm:=w.a8.a2[k].a5.aF.aE) (au:=w.a8.a2[k].a5.aF.aT) (sn:=w.a8.a2[k].a5.ar) (od:=y.a7.aY) (ox:=y.a7.ae) (tr:=y.aW) (wt:=y.ab) (vn:=v.aD.aE) (va:=v.aD.aT) (W0:=w.a8.a2[k].a5.aL.a7.a9.map Y2.e) (A1:=v.a3.map Y6.e) (C1:=v.aG.map Y2.e) (I0:=w.a8.a2[k].a5.aF.a0.map Y1.e) (I1:=v.aD.a0.map Y1.e)
 generalize nd 4 (w.a8.a2[k].a5.aF.a0.map Y1.e)=n0 at*
 generalize nd 4 (v.aD.a0.map Y1.e)=n1 at*
 generalize VU n (y.a7.a9.map Y2.e)=n2 at*
 rcases M0 with⟨z0,rfl⟩|⟨z0,rfl⟩
 ·rcases M1 with⟨z1,rfl⟩|⟨z1,rfl⟩
  ·rcases W0.imp (fun h=>And.intro h (aH _ (.inl rfl))) (fun h=>And.intro h (aH _ (.inr rfl)))with⟨rfl,e0,hh,f1,f2,hE,hC,hD,hL,g3,ga,gb,gc,gd,ge,gf⟩|⟨rfl,e0,hh,f1,f2,hE,hC,hD,hL,g3,ga,gb,gc,gd,ge,gf⟩<;>(simp only[SH,wL,yL,rLq,sL,dL,SE,Zg,Zi,Zw,Nat.reduceAdd]at hE hC hL g3 ga gb gc gd ge gf;obtain⟨hn,g4⟩:=Zb.1 g3;simp only[z0,z1];cases c2:w.aO<;>rw[c2]at e1 e4 e5 hE hC hL<;>simp only[cond_true,cond_false]at e5<;>(refine ae rfl ?_;simp(maxSteps:=9^9) [ce,e1,e2,e3,e4,c2,e5,e6,lk,li,hk,hi,hx,hv,xZ,hE,hC,hD,hL,g3,g4,ga,gb,gc,gd,ge,gf,hn,List.getElem?_set]))
  ·rcases W0.imp (fun h=>And.intro h (aI _ (.inl rfl))) (fun h=>And.intro h (aI _ (.inr rfl)))with⟨rfl,e0,hh,f1,f2,hE,hC,hD,hL,g3,ga,gb,gc,gd,ge,gf⟩|⟨rfl,e0,hh,f1,f2,hE,hC,hD,hL,g3,ga,gb,gc,gd,ge,gf⟩<;>(simp only[SH,wL,yL,rLq,sL,dL,SE,Zg,Zi,Zw,Nat.reduceAdd]at hE hC hL g3 ga gb gc gd ge gf;obtain⟨hn,g4⟩:=Zb.1 g3;simp only[z0];cases c2:w.aO<;>rw[c2]at e1 e4 e5 hE hC hL<;>simp only[cond_true,cond_false]at e5<;>(refine ae rfl ?_;simp(maxSteps:=9^9) [ce,e1,e2,e3,e4,c2,e5,e6,lk,li,hk,hi,hx,hv,xZ,hE,hC,hD,hL,g3,g4,ga,gb,gc,gd,ge,gf,hn,List.getElem?_set]))
 ·rcases M1 with⟨z1,rfl⟩|⟨z1,rfl⟩
  ·rcases W0.imp (fun h=>And.intro h (aP _ (.inl rfl))) (fun h=>And.intro h (aP _ (.inr rfl)))with⟨rfl,e0,hh,f1,f2,hE,hC,hD,hL,g3,ga,gb,gc,gd,ge,gf⟩|⟨rfl,e0,hh,f1,f2,hE,hC,hD,hL,g3,ga,gb,gc,gd,ge,gf⟩<;>(simp only[SH,wL,yL,rLq,sL,dL,SE,Zg,Zi,Zw,Nat.reduceAdd]at hE hC hL g3 ga gb gc gd ge gf;obtain⟨hn,g4⟩:=Zb.1 g3;simp only[z1];cases c2:w.aO<;>rw[c2]at e1 e4 e5 hE hC hL<;>simp only[cond_true,cond_false]at e5<;>(refine ae rfl ?_;simp(maxSteps:=9^9) [ce,e1,e2,e3,e4,c2,e5,e6,lk,li,hk,hi,hx,hv,xZ,hE,hC,hD,hL,g3,g4,ga,gb,gc,gd,ge,gf,hn,List.getElem?_set]))
  ·rcases W0.imp (fun h=>And.intro h (aX _ (.inl rfl))) (fun h=>And.intro h (aX _ (.inr rfl)))with⟨rfl,e0,hh,f1,f2,hE,hC,hD,hL,g3,ga,gb,gc,gd,ge,gf⟩|⟨rfl,e0,hh,f1,f2,hE,hC,hD,hL,g3,ga,gb,gc,gd,ge,gf⟩<;>(simp only[SH,wL,yL,rLq,sL,dL,SE,Zg,Zi,Zw,Nat.reduceAdd]at hE hC hL g3 ga gb gc gd ge gf;obtain⟨hn,g4⟩:=Zb.1 g3;cases c2:w.aO<;>rw[c2]at e1 e4 e5 hE hC hL<;>simp only[cond_true,cond_false]at e5<;>(refine ae rfl ?_;simp(maxSteps:=9^9) [ce,e1,e2,e3,e4,c2,e5,e6,lk,li,hk,hi,hx,hv,xZ,hE,hC,hD,hL,g3,g4,ga,gb,gc,gd,ge,gf,hn,List.getElem?_set]))
end Gi
namespace Gi
open Go Go.RowKit
set_option maxHeartbeats 8000000
set_option maxRecDepth 4000
attribute [local simp] start qh bG cz dk eR dj eQ eW eV se sx sf sy sh sA si sB sj sC sk sD so sE sp sF su sG V.cells plain bA gv isInt isStr isBool bin cu iq cy ir eS un asList L.view al V.view viewL aZ am cD bM bS comp aO bJ cT bW bw bu bv aS aE bT aw aR aW aK br bq ba bz bB V.flat L.flat da df bD putAt thaw thawL thawT V.ow eU dx dy cB eT cC dw freezeVs freezeLs freezeL V.mut L.mut aJ eF gQ be bC aN dC bQ bj bX L.bD aY dq ca dD bU cf wp_seq wp_block bm dA cE bN cF wp_skip wp_exit wp_ret co cH cL cK cP cQ cO bV aM L.bC aV aT aU dz bt storeD bf fm ai ct aA nq L.bG L.closed V.closed PV.bare PV.flat
abbrev EA (s:Y3):List L:=[.pv (.str s.aD.aE),pB (s.aD.a0.map Y1.e), .pv (.int .i64 s.aD.aT), .pv (.lst (s.a3.map Y6.e)), .pv (.lst (s.aG.map Y2.e))]
abbrev XG (x:Y3×Int):V:= .b9 [(true,EA x.1),(false,[.pv (.int .i64 x.2)])]
def pn {B:Nat}(aq:17<=B)(hB:B<=1048576){s:Y3}(h:s.Ok B){w:Y2}(hw:w.Ok B):∃r,ag Ph aC 676 [s.v, .agg (w.e.map .pv)]=some r/\ da r=XG (sa s w):=by
 have hM:B+1<=maxLen:=by unfold maxLen;omega
 have hl:s.a3.length<=1048576:=Zc h.2.1.1 hB
 have hc:s.aG.length<=1048576:=Zc h.2.2.1 hB
 have e1:=pX hB h
 have e2:=Es (l:=s.a3) hl w.aY w.aj
 have e3:=Ei (s:=s) (by unfold maxLen;omega) w.aY
 have e4:=tR (Y3.Ok.mono (by omega) h)
 have e5:=kj (Y2.Ok.mono (by omega) hw)
 have e6:=wa aq hB h.1 hw
 simp only[Y2.e.eq_1,Zv,Zz]at e6
 have O:=V6 4 (s.aD.a0.map Y1.e)
 have m1:=ez (m:=s.aG.length) (z:=72) (by omega) (by omega)
 have m2:=ez (m:=s.aG.length+1) (z:=72) (by omega) (by omega)
 unfold sa
 refine LW rfl ?_
 cases c1:k6 s<;>rw[c1]at e4
 ·rcases O with⟨_,q2,q1⟩|⟨_,q2,q1⟩<;>rw[q2]at e1<;>simp(maxSteps:=9^9) [dI,Y2.e.eq_1,e1,e4,q2,gn,kM,q1]
 cases c2:yJ w<;>rw[c2]at e5
 ·rcases O with⟨_,q2,q1⟩|⟨_,q2,q1⟩<;>rw[q2]at e1<;>simp(maxSteps:=9^9) [dI,Y2.e.eq_1,e1,e4,e5,q2,gn,kM,q1]
 have b5:=No c1 w.aY
 have ax:IntKind.i64.wrap (jD s w.aY+1)=jD s w.aY+1:=by rw[IntKind.wrap_i64];omega
 have b6:=KU c1
 simp only[C',cond_true]
 have ao:s.aG.map Y2.e++[w.e]=(s.aG++[w]).map Y2.e:=by simp
 rw[Y2.e.eq_1 w]at ao
 have hlen:(bO (dQ (Cg w.aY) s.a3) 0&& !(bO (s.a3.length:Int) 60))=bO 60 ((tM s.a3 w.aY w.aj).length:Int):=by
  rcases wg c1 w.aY w.aj with⟨j,hj,hf,hd,hm,hq⟩|⟨hf,hm,hq⟩
  ·rw[hf,hm,ZK,uB,Za9,ii (by omega)]
  ·have hp:=wV w.aY s.a3
   rw[hf,hm]
   have hL:(s.a3.take (lX w.aY s.a3)++(⟨w.aY,w.aj⟩:Y6)::s.a3.drop (lX w.aY s.a3)).length=s.a3.length+1:=by simp;omega
   rw[hL]
   by_cases q:s.a3.length<60
   ·rw[gB (a:=(s.a3.length:Int)) (by omega),ii (a:=60) (by omega)];rfl
   ·rw[ii (a:=(s.a3.length:Int)) (by omega),gB (a:=60) (by omega)];rfl
 rw[hlen]
 clear b5 hlen
 generalize jD s w.aY=q at*
 generalize tM s.a3 w.aY w.aj=M at*
 cases c3:bO 60 (M.length:Int)
 ·simp only[cond_false]
  cases c4:bO q w.aj
  ·rcases O with⟨_,q2,q1⟩|⟨_,q2,q1⟩<;>rw[q2]at e1<;>simp(maxSteps:=9^9) [dI,Y2.e.eq_1,e1,e2,e3,e4,e5,q2,c3,c4,gn,kM,q1]
  cases c5:bO (q+1) w.aj
  ·have hf:=Wv (s:=s.aD) (w:=w)
   generalize vj s.aD w=pp at e6 hf⊢
   obtain⟨p1,p2⟩:=pp
   generalize s.aG++[w]=C at ao⊢
   simp only[WA]at e6
   cases p2
   ·have hf:=hf rfl
    simp only at hf
    subst hf
    rcases O with⟨_,q2,q1⟩|⟨_,q2,q1⟩<;>rw[q2]at e1<;>simp(maxSteps:=9^9) [dI,Y2.e.eq_1,e1,e2,e3,e4,e5,e6,q2,c3,c4,c5,ax,ao,m1,m2,gn,kM,q1]
   ·rcases O with⟨_,q2,q1⟩|⟨_,q2,q1⟩<;>rw[q2]at e1<;>simp(maxSteps:=9^9) [dI,Y2.e.eq_1,e1,e2,e3,e4,e5,e6,q2,c3,c4,c5,ax,ao,m1,m2,gn,kM, ↓aR, ↓aE, ↓aS, ↓aw, ↓ba]
  ·rcases O with⟨_,q2,q1⟩|⟨_,q2,q1⟩<;>rw[q2]at e1<;>simp(maxSteps:=9^9) [dI,Y2.e.eq_1,e1,e2,e3,e4,e5,q2,c3,c4,c5,ax,gn,kM,q1]
 ·simp only[cond_true]
  rcases O with⟨_,q2,q1⟩|⟨_,q2,q1⟩<;>rw[q2]at e1<;>simp(maxSteps:=9^9) [dI,Y2.e.eq_1,e1,e2,e3,e4,e5,q2,c3,gn,kM,q1]
end Gi
