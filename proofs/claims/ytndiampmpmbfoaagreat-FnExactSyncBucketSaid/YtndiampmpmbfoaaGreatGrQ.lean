/- A part. -/
import Derived.Test.YtndiampmpmbfoaaGreatGrK
import Derived.Test.YtndiampmpmbfoaaGreatGrG
import Derived.Test.YtndiampmpmbfoaaGreatGkc
set_option linter.all false
namespace Gi
open Go Go.RowKit
set_option maxHeartbeats 8000000
set_option maxRecDepth 4000
attribute [local simp] start qh bG cz dk eR dj eQ eW eV se sx sf sy sh sA si sB sj sC sk sD so sE sp sF su sG V.cells plain bA gv isInt isStr isBool bin cu iq cy ir eS un asList L.view al V.view viewL aZ am cD bM bS comp aO bJ cT bW bw bu bv aS aE bT aw aR aW aK br bq ba bz bB V.flat L.flat da df bD putAt thaw thawL thawT V.ow eU dx dy cB eT cC dw freezeVs freezeLs freezeL V.mut L.mut aJ eF gQ be bC aN dC bQ bj bX L.bD aY dq ca dD bU cf wp_seq wp_block bm dA cE bN cF wp_skip wp_exit wp_ret co cH cL cK cP cQ cO bV aM L.bC aV aT aU dz bt storeD bf fm ai ct aA nq L.bG L.closed V.closed PV.bare PV.flat
attribute [local simp] nu
abbrev VS (y:YP):List L:=[.pv (.int .i64 y.a7.aY), .pv (.int .i64 y.a7.ae), .pv (.lst (y.a7.a9.map Y2.e)), .pv (.int .i64 y.aW), .pv (.int .i64 y.ab)]
abbrev VQ (x:YP×Y3×Int):V:= .b9 [(true,VS x.1),(true,EA x.2.1),(false,[.pv (.int .i64 x.2.2)])]
def Dn (a b:Int):ag Ph aC 677 [aa .i64 a,aa .i64 b]=some (aa .i64 (bif bO b a then b else a)):=by
 refine ae rfl ?_
 simp +contextual (maxSteps:=9^9) [yy]
def Wl {t:Int}(h:me t):IntKind.i64.wrap ((bif bO t 59 then t else 59)+1)=(bif bO t 59 then t else 59)+1/\ (bif bO ((bif bO t 59 then t else 59)+1) 60 then(bif bO t 59 then t else 59)+1 else 60)=LD t:=by
 unfold me at h
 unfold LD
 by_cases q:t<59
 ·rw[gB q,cond_true,gB (show t<60 by omega),gB (show t+1<60 by omega),IntKind.wrap_i64]
  exact⟨by omega,rfl⟩
 ·rw[ii (Int.not_lt.1 q),cond_false]
  refine⟨by decide,?_⟩
  by_cases q2:t<60
  ·obtain rfl:t=59:=by omega
   rfl
  ·rw[ii (Int.not_lt.1 q2)];rfl
def CG {B:Nat}(bL:100<=B)(hB:B<=1048576){y:YP}(hy:y.Ok B){s:Y3}(h:s.Ok B)(hc:s.aG.length+2<=B)(now fate:Int):∃r,ag Ph aC 651 [y.v,s.v,aa .i64 now,aa .i64 fate]=some r/\ da r=VQ (xT y s now fate):=by
 have e1:=uX hB hy
 have e2:=pX hB h
 have e3:=yR y.a7 (by have:=hy.1.2.2.1;unfold maxLen;omega)
 have e4:=pd (YD.Ok.mono (show B<=maxLen by unfold maxLen;omega) hy.1)
 have hw:=OF hy.1
 have e5:=bR now 0 1000000000000
 obtain⟨v6,e6,s6⟩:∃r,ag Ph aC 676 [.agg [.pv (.str s.aD.aE), .pv (.lst (s.aD.a0.map Y1.e)), .pv (.int .i64 s.aD.aT), .pv (.lst (s.a3.map Y6.e)), .pv (.lst (s.aG.map Y2.e))],_]=some r/\ _:=pn (by omega) hB h hw
 obtain⟨v7,e7,s7⟩:∃r,ag Ph aC 676 [.agg [.pv (.str (sa s (uq y.a7).1).1.aD.aE), .pv (.lst ((sa s (uq y.a7).1).1.aD.a0.map Y1.e)), .pv (.int .i64 (sa s (uq y.a7).1).1.aD.aT), .pv (.lst ((sa s (uq y.a7).1).1.a3.map Y6.e)), .pv (.lst ((sa s (uq y.a7).1).1.aG.map Y2.e))],_]=some r/\ _:=pn (by omega) hB (KN bL h hw (by omega)) hw
 have e8:=AM hB hy.1 (uq y.a7).1.aj
 have e9:=AN (LD y.aW)
 obtain⟨au,bg⟩:=Wl hy.2.1
 have ax:=Dn 59 y.aW
 have an:=Dn 60 ((bif bO y.aW 59 then y.aW else 59)+1)
 rw[bg]at an
 have af:=fun c4=>N3 c4 (Of (LD y.aW)) (n:=now)
 refine LW rfl ?_
 unfold xT
 clear bg
 generalize (bif bO y.aW 59 then y.aW else 59)=m at*
 generalize Uy (LD y.aW)=bo at*
 generalize LD y.aW=tr at*
 generalize uq y.a7=fw at*
 obtain⟨w,b⟩:=fw
 simp only[Xg,Y2.e.eq_1,Zv,Zz]at e3 e6 e7
 simp only at e8 s6 s7⊢
 cases b
 ·simp only[Za9,G',cond_false]
  simp(maxSteps:=9^9) [dJ,e1,e2,e3,gn, ↓bq, ↓ba, ↓aR, ↓aE, ↓aS, ↓aw]
 cases c1:kZ y.a7<;>rw[c1]at e4
 ·simp only[Za9,cond_false]
  simp(maxSteps:=9^9) [dJ,e1,e2,e3,e4,gn, ↓bq, ↓ba, ↓aR, ↓aE, ↓aS, ↓aw]
 cases c3:bO now y.ab
 rotate_left
 ·simp only[Zb8,Za9,G',cond_false]
  simp(maxSteps:=9^9) [dJ,e1,e2,e3,e4,c3,gn, ↓bq, ↓ba, ↓aR, ↓aE, ↓aS, ↓aw]
 cases c4:rg now 0 1000000000000<;>rw[c4]at e5
 ·simp only[G',cond_false]
  simp(maxSteps:=9^9) [dJ,e1,e2,e3,e4,c3,e5,gn, ↓bq, ↓ba, ↓aR, ↓aE, ↓aS, ↓aw]
 have af:=af c4
 simp only[Bool.not_false,ZU,cond_true]
 by_cases f0:fate=0
 ·subst f0
  rw[VJ]
  clear e7 s7
  generalize sa s w=r at*
  obtain⟨r1,r2⟩:=r
  simp only[XG,EA]at s6
  have g0:((0:Int)==0)=true:=rfl
  by_cases g1:r2=1 \/r2=2
  ·have g2:(r2==1||r2==2)=true:=by simpa using g1
   simp only[g0,g2,Zb7,Bool.or_true,ZU,cond_true,VQ,VS,EA]
   generalize Dx y.a7 w.aj=a at*
   obtain⟨a1,a2⟩:=a
   simp only[OT]at e8
   rcases g1 with rfl|rfl<;>simp(maxSteps:=9^9) [dJ,e1,e2,e3,e4,e5,c3,e6, ↓s6,e8,gn, ↓bq, ↓ba, ↓aR, ↓aE, ↓aS, ↓aw]
  ·have g2:(r2==1||r2==2)=false:=by simpa using g1
   have k1:¬r2=1:=fun e=>g1 (.inl e)
   have k2:¬r2=2:=fun e=>g1 (.inr e)
   simp only[g2,G',cond_false,VQ,VS,EA]
   simp(maxSteps:=9^9) [dJ,e1,e2,e3,e4,e5,c3,e6, ↓s6,k1,k2,ax,au,an,e9,af,gn, ↓bq, ↓ba, ↓aR, ↓aE, ↓aS, ↓aw]
 by_cases f2:fate=2
 ·subst f2
  rw[VK]
  clear e7 s7
  generalize sa s w=r at*
  obtain⟨r1,r2⟩:=r
  simp only[XG,EA]at s6
  have g0:((2:Int)==0||(2:Int)==3)=false:=rfl
  simp only[g0,Za9,cond_false,VQ,VS,EA]
  simp(maxSteps:=9^9) [dJ,e1,e2,e3,e4,e5,c3,e6, ↓s6,ax,au,an,e9,af,gn, ↓bq, ↓ba, ↓aR, ↓aE, ↓aS, ↓aw]
 by_cases f3:fate=3
 ·subst f3
  rw[VL]
  generalize sa (sa s w).1 w=r at*
  generalize sa s w=p at*
  obtain⟨r1,r2⟩:=r
  obtain⟨p1,p2⟩:=p
  simp only[XG,EA]at s6 s7
  have g0:((3:Int)==3)=true:=rfl
  by_cases g1:r2=1 \/r2=2
  ·have g2:(r2==1||r2==2)=true:=by simpa using g1
   simp only[g0,g2,Zb7,Bool.or_true,ZU,cond_true,VQ,VS,EA]
   generalize Dx y.a7 w.aj=a at*
   obtain⟨a1,a2⟩:=a
   simp only[OT]at e8
   rcases g1 with rfl|rfl<;>simp(maxSteps:=9^9) [dJ,e1,e2,e3,e4,e5,c3,e6, ↓s6,e7, ↓s7,e8,gn, ↓bq, ↓ba, ↓aR, ↓aE, ↓aS, ↓aw]
  ·have g2:(r2==1||r2==2)=false:=by simpa using g1
   have k1:¬r2=1:=fun e=>g1 (.inl e)
   have k2:¬r2=2:=fun e=>g1 (.inr e)
   simp only[g2,G',cond_false,VQ,VS,EA]
   simp(maxSteps:=9^9) [dJ,e1,e2,e3,e4,e5,c3,e6, ↓s6,e7, ↓s7,k1,k2,ax,au,an,e9,af,gn, ↓bq, ↓ba, ↓aR, ↓aE, ↓aS, ↓aw]
 ·rw[VM s w f0 f2 f3]
  clear e6 s6 e7 s7 e8
  have g0:(fate==0)=false:=by simpa using f0
  have g3:(fate==3)=false:=by simpa using f3
  simp only[g0,g3,Bool.or_self,Za9,cond_false,VQ,VS,EA]
  simp(maxSteps:=9^9) [dJ,e1,e2,e3,e4,e5,c3,f0,f2,f3,g0,g3,ax,au,an,e9,af,gn, ↓bq, ↓ba, ↓aR, ↓aE, ↓aS, ↓aw]
end Gi
namespace Gi
open Go Go.RowKit
set_option maxHeartbeats 8000000
set_option maxRecDepth 4000
attribute [local simp] start qh bG cz dk eR dj eQ eW eV se sx sf sy sh sA si sB sj sC sk sD so sE sp sF su sG V.cells plain bA gv isInt isStr isBool bin cu iq cy ir eS un asList L.view al V.view viewL aZ am cD bM bS comp aO bJ cT bW bw bu bv aS aE bT aw aR aW aK br bq ba bz bB V.flat L.flat da df bD putAt thaw thawL thawT V.ow eU dx dy cB eT cC dw freezeVs freezeLs freezeL V.mut L.mut aJ eF gQ be bC aN dC bQ bj bX L.bD aY dq ca dD bU cf wp_seq wp_block bm dA cE bN cF wp_skip wp_exit wp_ret co cH cL cK cP cQ cO bV aM L.bC aV aT aU dz bt storeD bf fm ai ct aA nq L.bG L.closed V.closed PV.bare PV.flat
def rl (s:List UInt8):ag Ph aC 153 [eE s]=some (aa .i64 (jS s)):=by
 have hl:A7.length<=maxLen:=by simp[A7,maxLen]
 unfold jS
 refine ae rfl ?_
 simp +contextual (maxSteps:=9^9) [nU,tT]
 refine aB bh Cl.fin [.t,.f,.f,.t,.t,.f,.f,.f,.f,.f,.f,.f,.f,.f,.f,.f,.f,.f,.f] (fun k=>[(4,aa .i64 k)]) A7.length (iE (fun u=>s==u) A7) rfl (by simp) (fun k hk hj=> ?_) (fun hj _=> ?_)
 ·have hf:=tb hk hj
  have hs:(A7.map vW)[k]'(by simpa using hk)=[.str A7[k]]:=by simp[vW]
  have hc:(A7[k]==s)=(s==A7[k]):=Bool.beq_comm
  cases hg:(s==A7[k])
  ·rw[hg]at hc
   simp(maxSteps:=9^9) [gL,iE,hk,hg,hc,aL hl hk,bd hk,vW]
  ·have bk:=hf hg
   have ha:iE (fun u=>s==u) A7 k=true:=by simp only[iE,hk,Zm,hg]
   rw[hg]at hc
   generalize dQ (fun u=>s==u) A7=F at bk⊢
   generalize iE (fun u=>s==u) A7=A at ha⊢
   simp(maxSteps:=9^9) [gL,ha,hk,hg,hc,bk,aL hl hk,bd hk,vW]
 ·simp +contextual (maxSteps:=9^9) [gL,ta hj]
def wc {w:YI}(h:w.Ok 1048576)(s t:List UInt8)(fate:Int)(hf:(!(ov w)||(bO (dQ (IB s t) w.a8.a2) 0||bO (jS s) 0))=true):ag Ph aC 628 [w.v,eE s,eE t,aa .i64 fate]=some (.b9 [(true,XL w w.a8.a2 w.a4),(false,[.pv (.int .i64 0)])]):=by
 have ao:w.a8.a2.length<=maxLen:=Zc h.2.2.1.1 (by unfold maxLen;omega)
 have e1:=uY (Zn 1048576) h
 have e2:=ng ao s t
 have e3:=rl s
 have e4:=uV h
 have N0:=kF 24 (w.a8.a2.map Y4.e)
 simp only[XL,YI.v]at e4⊢
 clear h ao
 generalize dQ (IB s t) w.a8.a2=k at*
 generalize jS s=i at*
 generalize nd 24 (w.a8.a2.map Y4.e)=n0 at*
 generalize Ct 24 (w.a8.a2.map Y4.e)=o0 at*
 generalize ov w=b1 at*
 generalize hk:bO k 0=b2 at*
 generalize hi:bO i 0=b3 at*
 generalize w.aO=b4 at*
 cases b1
 ·clear hf hk hi
  rcases N0 with⟨-,rfl,rfl⟩|⟨-,rfl,rfl⟩<;>(refine ae rfl ?_;simp(maxSteps:=9^9) [eB,G2,e1,e2,e3,e4])
 cases b2
 ·cases b3
  ·simp at hf
  ·clear hf
   rcases N0 with⟨-,rfl,rfl⟩|⟨-,rfl,rfl⟩<;>(refine ae rfl ?_;simp(maxSteps:=9^9) [eB,G2,e1,e2,e3,e4,hk,hi])
 ·clear hf hi
  rcases N0 with⟨-,rfl,rfl⟩|⟨-,rfl,rfl⟩<;>(refine ae rfl ?_;simp(maxSteps:=9^9) [eB,G2,e1,e2,e3,e4,hk])
def yY {w:YI}(h:w.Ok 1048576)(hc:ov w=true->∀v∈w.a4,v.aG.length+2<=1048576)(s t:List UInt8)(fate:Int):ag Ph aC 628 [w.v,eE s,eE t,aa .i64 fate]=some (.b9 [(true,XL w (LC w s t fate).1 (LC w s t fate).2.1),(false,[.pv (.int .i64 (LC w s t fate).2.2)])]):=by
 rcases G8 w s t fate with⟨hf,q⟩|⟨k,hk,i,hi,q1,q2,c1,q⟩
 ·rw[q];exact wc h s t fate hf
 have ao:w.a8.a2.length<=maxLen:=Zc h.2.2.1.1 (by unfold maxLen;omega)
 have e1:=uY (Zn 1048576) h
 have e2:=ng ao s t
 have e3:=rl s
 have e4:=uV h
 rw[q]
 clear q
 have lk:bO (k:Int) 0=false:=ii (by omega)
 have li:bO (i:Int) 0=false:=ii (by omega)
 have hx:=Y4.e.eq_1 w.a8.a2[k]
 have hv:=Y3.e.eq_1 w.a4[i]
 have ay:=h.2.2.1.2 _ (Zf hk)
 have aF:=h.2.2.2.2.2.2.2.2.2 _ (Zf hi)
 have bP:=ay.2.2.2.2.2.1.2.2
 have bY:=hc c1 _ (Zf hi)
 have ne:∀(l:List Y4),0<l.length->nd 24 (l.map Y4.e)= .down 24 (l.map Y4.e)/\ Ct 24 (l.map Y4.e)= .own 24 (l.map Y4.e):=fun l hl=>by
  cases l with
  |nil=>simp at hl
  |cons x xs=>exact⟨rfl,rfl⟩
 obtain⟨r,e5,s5⟩:=CG (by omega) (Zn 1048576) bP aF bY w.al (C8 w fate)
 rw[q1]at e2
 rw[q2]at e3
 rw[c1]at e4
 have d1:=Ua hk (xT w.a8.a2[k].a5.aL w.a4[i] w.al (C8 w fate)).1
 have d2:=T7 (l:=w.a4) (i:=i) (xT w.a8.a2[k].a5.aL w.a4[i] w.al (C8 w fate)).2.1
 simp only[XL,(ne w.a8.a2 (by omega)).1,(ne (w.a8.a2.set k (xV w.a8.a2[k] (xT w.a8.a2[k].a5.aL w.a4[i] w.al (C8 w fate)).1)) (by simp;omega)).2]at e1⊢
 rw[d1,d2]
 clear ne d1 d2 ao
 simp only[YI.v]at e4
 simp only[VQ,VS,EA]at s5
 generalize xT w.a8.a2[k].a5.aL w.a4[i] w.al (C8 w fate)=p at*
 obtain⟨y,v,n⟩:=p
 unfold C8 at e5
 cases c2:w.aO<;>rw[c2]at e1 e4 e5<;>simp only[cond_true,cond_false]at e5<;>(refine ae rfl ?_;simp(maxSteps:=9^9) [eB,G2,e1,e2,e3,e4,c2,e5, ↓s5,lk,li,hk,hi,hx,hv, ↓bq, ↓ba, ↓aR, ↓aE, ↓aS, ↓aw, ↓bT, ↓aK, ↓Sz])
end Gi
namespace Gi
open Go Go.RowKit
set_option maxHeartbeats 8000000
set_option maxRecDepth 8000
attribute [local simp] start fB ap ah aG bc bG cz Opd.ev put V.cells plain bA gv isInt isStr isBool bin cG un asList L.view al V.view viewL done aZ am cj bS comp aO bJ aj V.flat L.flat da df bD putAt freezeVs freezeLs freezeL V.mut L.mut lent Y0.bX L.bK qZ uK kP uT lW xK PV.flat PV.bare kG Y0.zone sw thaw thawL thawT V.closed L.closed
def RN {c0 c2 c5 d0 d2 d5 l0:Int}{c1 d1:Bool}{c3 c4 c6 c7 c8 c9 d3 d4 d6 d7 d8 d9:List (List PV)}{n ft:Int}{s t:List UInt8}(h0:bF fS (WR c0 c1 c2 c3 c4 c5 c6 c7 c8 c9))(ak:eN (WR c0 c1 c2 c3 c4 c5 c6 c7 c8 c9)<=1048576)(h1:bF fS (WR d0 d1 d2 d3 d4 d5 d6 d7 d8 d9))(bZ:eN (WR d0 d1 d2 d3 d4 d5 d6 d7 d8 d9)<=2097152)(m0:ag Ph aC 104 [.agg (WP c0 c1 c2 c3 c4 c5 c6 c7 c8 c9),aa .i64 1048576]=some (aa .i64 l0))(n0:¬l0<0)(ls:¬(1048576:Int)<s.length)(lt:¬(1048576:Int)<t.length)
 (e1:ag Ph aC 629 [.agg (WP c0 c1 c2 c3 c4 c5 c6 c7 c8 c9),eE s,eE t,aa .i64 ft]=some (.b9 [(true,[.pv (.int .i64 d0), .pv (.bool d1), .pv (.int .i64 d2),nd 24 d3, .down 11 d4, .pv (.int .i64 d5), .down 4 d6, .down 3 d7,nd 4 d8,nd 5 d9]),(false,[.pv (.int .i64 n)])]))
 (e2:ag Ph aC 628 [.agg (WP c0 c1 c2 c3 c4 c5 c6 c7 c8 c9),eE s,eE t,aa .i64 ft]=some (.b9 [(true,[.pv (.int .i64 d0), .pv (.bool d1), .pv (.int .i64 d2),Ct 24 d3, .own 11 d4, .pv (.int .i64 d5), .own 4 d6, .own 3 d7, .own 4 d8, .own 5 d9]),(false,[.pv (.int .i64 n)])])):ag Ph aC 615 [.agg (WP c0 c1 c2 c3 c4 c5 c6 c7 c8 c9),eE s,eE t,aa .i64 ft]=some (az true):=by
 have b0:ag Ph aC 106 [.agg (WP c0 c1 c2 c3 c4 c5 c6 c7 c8 c9)]=some (.agg (iT fS (WR c0 c1 c2 c3 c4 c5 c6 c7 c8 c9))):=Pz (ext:=aC) _ h0 ak
 have ad:(iT fS (WR c0 c1 c2 c3 c4 c5 c6 c7 c8 c9)).map df=WP c0 c1 c2 c3 c4 c5 c6 c7 c8 c9:=Vf h0
 have bl:V.closed (.agg (iT fS (WR c0 c1 c2 c3 c4 c5 c6 c7 c8 c9)))=true:=vT h0
 have b5:∀hh,sw hh (.agg (iT fS (WR c0 c1 c2 c3 c4 c5 c6 c7 c8 c9)))=(.agg [.pv (.int .i64 c0), .pv (.bool c1), .pv (.int .i64 c2), .arr hh.length, .arr (hh.length+1), .pv (.int .i64 c5), .arr (hh.length+1+1), .arr (hh.length+1+1+1), .arr (hh.length+1+1+1+1), .arr (hh.length+1+1+1+1+1)],hh++[.bB 24 c3, .bB 11 c4, .bB 4 c6, .bB 3 c7, .bB 4 c8, .bB 5 c9]):=fun hh=>RZ h0 hh
 have bn:ag Ph aC 108 [.agg (WP c0 c1 c2 c3 c4 c5 c6 c7 c8 c9), .agg (WP c0 c1 c2 c3 c4 c5 c6 c7 c8 c9)]=some (az true):=FB (ext:=aC) _ h0
 have bp:ag Ph aC 108 [.agg (WP d0 d1 d2 d3 d4 d5 d6 d7 d8 d9), .agg (WP d0 d1 d2 d3 d4 d5 d6 d7 d8 d9)]=some (az true):=FB (ext:=aC) _ h1
 generalize iT fS (WR c0 c1 c2 c3 c4 c5 c6 c7 c8 c9)=OW at b0 ad bl b5
 have cw:=wU av _ fS 1 h0 (by decide)
 have cb:=wU av _ fS 1 h1 (by decide)
 have mw:=KA (ext:=aC) _ h0 1 (by omega) (by unfold xN;omega)
 have hd:=Kq (ext:=aC) _ h1 1 (by omega) (by unfold xN;omega)
 have bs:=oe av (WR c0 c1 c2 c3 c4 c5 c6 c7 c8 c9) 1
 have b6:=oe av (WR d0 d1 d2 d3 d4 d5 d6 d7 d8 d9) 1
 have bx:(fY av (WR d0 d1 d2 d3 d4 d5 d6 d7 d8 d9) 1).2<=xN:=by unfold xN;omega
 have mg:=Yy h1 (k:=1) (by omega) bx
 simp only[WR,WP,fS,LA,RY,fY,Zv,Zz]at m0 e1 e2 b0 ad b5 bn bp mw hd bs b6⊢
 have tl:ej.length=24/\ kJ.length=11/\ jU.length=4/\ jV.length=3/\ kK.length=4/\ fo.length=5:=⟨rfl,rfl,rfl,rfl,rfl,rfl⟩
 simp only[tl]at mw
 clear cw cb h0 h1 ak bZ bx tl
 rcases Ji 24 d3 with⟨rfl,u3,v3,w3,o3⟩|⟨_,u3,v3,w3,o3⟩<;>rcases Ji 4 d8 with⟨rfl,u8,v8,w8,o8⟩|⟨_,u8,v8,w8,o8⟩<;>rcases Ji 5 d9 with⟨rfl,u9,v9,w9,o9⟩|⟨_,u9,v9,w9,o9⟩
 all_goals
  simp only[u3,u8,u9]at e1
  simp only[o3]at e2
  simp only[v3,v8,v9,w3,w8,w9]at mg
  (try simp only[U6]at mg hd b6)
  have hk:=Int.not_lt.2 (Int.le_trans (by decide:(0:Int)<=1) bs)
  have cc:=Int.not_lt.2 (Int.le_trans (by decide:(0:Int)<=1) b6)
  refine fW rfl ?_
  simp[cJ,m0,n0,ls,lt,b0,ad, ↓bl, ↓b5,bn,bp,e1,e2,mw,mg,hd,hk,cc]
end Gi
namespace Gi
open Go Go.RowKit
set_option maxHeartbeats 8000000
set_option maxRecDepth 8000
attribute [local simp] start fB ap ah aG bc bG cz Opd.ev put V.cells plain bA gv isInt isStr isBool bin cG un asList L.view al V.view viewL done aZ am cj bS comp aO bJ aj V.flat L.flat da df bD putAt freezeVs freezeLs freezeL V.mut L.mut lent Y0.bX L.bK qZ uK kP uT lW xK PV.flat PV.bare kG Y0.zone
def qT {n:Int}(h:me n):oq (.int .i64) (.int .i64 n):=by
 unfold me at h
 simp only[oq,Lit.wf,IntKind.min,IntKind.max,IntKind.signed,IntKind.bits,true_and]
 simp
 omega
def ME {s:List UInt8}(h:s.length<=1048576):oq .str (.str s):=by
 show s.length<=maxLen
 unfold maxLen;omega
def RA {x:Y1}(h:x.Ok 1048576):bF CN x.e:=by
 obtain⟨⟨h1,h2,h3⟩,h4,h5⟩:=h
 refine⟨qT h1,qT h2,ME h3,⟨by rw[Zr];unfold maxLen;omega,fun r m=> ?_⟩,trivial⟩
 obtain⟨f,hf,rfl⟩:=V'.1 m
 obtain⟨g1,g2⟩:=h5 f hf
 exact⟨ME g1,qT g2,trivial⟩
def Gt {x:Y2}(h:x.Ok 1048576):bF xb x.e:=by
 obtain⟨h1,h2,⟨h3,h4,h5⟩,h6,h7⟩:=h
 exact⟨qT h1,qT h2,qT h3,qT h4,ME h5,ME h6,qT h7,trivial⟩
def EQ {α:Type}{e:α->List PV}{B:Nat}:∀{l:List α},(∀x∈l,eN (e x)<=B)->bI (l.map e)<=B*l.length
 |[],_=>by simp[bI]
 |x::l,h=>by
  have:=EQ (e:=e) (B:=B) (l:=l) (fun y m=>h y (Za1 _ m))
  have h0:=h x (Zb2 ..)
  simp only[Zv,bI,Zo,Nat.mul_succ]
  omega
def Pp {s:Y7}(h:dW s=true):eN [.str s.aE, .lst (s.a0.map Y1.e), .int .i64 s.aT]<=4096:=by
 simp only[dW,Zh,ZJ]at h
 obtain⟨h1,h2,h3,_⟩:=h
 have hn:=yI h2
 have hl:=of_decide_eq_false h3
 have hi:∀x∈s.a0,eN x.e<=128:=by
  intro x m
  obtain⟨j,hj,rfl⟩:=I'.1 m
  have:=uc h1 hj
  simp only[HS,hj,show j-1<s.a0.length by omega,Zm,K',Za2]at this
  obtain⟨k1,k2,_⟩:=this
  have q1:=tG k1
  obtain⟨q2,q3⟩:=wY k2
  have:=EQ (e:=Y8.e) (B:=8) (l:=s.a0[j].aq.fs) (fun f m=>by have:=(q3 f m).1;simp only[Y8.e,eN,sz];omega)
  rw[Y1.e.eq_1]
  simp only[eN,sz,Zr]
  omega
 have:=EQ hi
 simp only[eN,sz,Zr]
 omega
def xU {α:Type}(e:α->List PV)(p:α->Bool):∀xs:List α,bI ((xs.filter p).map e)<=bI (xs.map e)
 |[]=>Zn _
 |x::xs=>by
  have ih:=xU e p xs
  cases h:p x<;>simp only[Zd0,h,if_true,if_false,Zv,bI,Zy]<;>omega
def Dr {c:Nat}:∀{rows:List (List PV)}{j:Nat}{r:List PV}(hj:j<rows.length),eN r<=eN rows[j]+c->bI (rows.set j r)<=bI rows+c
 |x::rows,0,r,_,h=>by simp only[ZT,bI];simp only[Za8]at h;omega
 |x::rows,j+1,r,hj,h=>by
  have ih:=Dr (rows:=rows) (j:=j) (r:=r) (by simpa using hj) (by simpa using h)
  simp only[U',bI]
  omega
def Ad {α:Type}{e:α->List PV}{t:List PTy}{l:List α}(hl:l.length<=1048576)(h:∀x∈l,bF t (e x)):oq (.lst t) (.lst (l.map e)):=by
 refine⟨by rw[Zr];unfold maxLen;omega,fun r m=> ?_⟩
 obtain⟨f,hf,rfl⟩:=V'.1 m
 exact h f hf
def MD {x:Y3}(h:x.Ok 1048576):bF fo x.e:=by
 obtain⟨⟨h1,⟨h2,h3⟩,h4⟩,⟨h5,h6⟩,h7,h8⟩:=h
 refine⟨ME h1,Ad h2 (fun x m=>RA (h3 x m)),qT h4,Ad h5 (fun x m=> ?_),Ad h7 (fun x m=>Gt (h8 x m)),trivial⟩
 exact⟨qT (h6 x m).1,qT (h6 x m).2,trivial⟩
def SC {b:Y4}{y:YP}(h:bF ej b.e)(hy:y.Ok 1048576):bF ej (xV b y).e:=by
 obtain⟨⟨h6,h7,h8,h9⟩,cd,cg⟩:=hy
 simp only[Y4.e,xV,ej,bF]at h⊢
 obtain⟨a0,a1,a2,a3,a4,a5,a6,a7,a8,a9,ch,cl,cm,cn,cp,cq,cv,_,_,_,_,_,a22,cx,_⟩:=h
 exact⟨a0,a1,a2,a3,a4,a5,a6,a7,a8,a9,ch,cl,cm,cn,cp,cq,cv,qT h6,qT h7,Ad h8 (fun x m=>Gt (h9 x m)),qT cd,qT cg,a22,cx,trivial⟩
def Xs (b:Y4):List PV:=b.e.take 17
def VI (b:Y4):List PV:=b.e.drop 22
def Uq {b:Y4}{y:YP}(h:bI (y.a7.a9.map Y2.e)<=bI (b.a5.aL.a7.a9.map Y2.e)/\ y.a7.a9.length<=b.a5.aL.a7.a9.length):eN (xV b y).e<=eN b.e:=by
 have e1:(xV b y).e=Xs b++([.int .i64 y.a7.aY, .int .i64 y.a7.ae, .lst (y.a7.a9.map Y2.e), .int .i64 y.aW, .int .i64 y.ab]++VI b):=rfl
 have e2:b.e=Xs b++([.int .i64 b.a5.aL.a7.aY, .int .i64 b.a5.aL.a7.ae, .lst (b.a5.aL.a7.a9.map Y2.e), .int .i64 b.a5.aL.aW, .int .i64 b.a5.aL.ab]++VI b):=rfl
 rw[e1,e2,AU,AU,AU,AU]
 simp only[eN,sz,Zr]
 omega
def Wz (y:YP)(s:Y3)(now fate:Int):bI ((xT y s now fate).1.a7.a9.map Y2.e)<=bI (y.a7.a9.map Y2.e)/\ (xT y s now fate).1.a7.a9.length<=y.a7.a9.length:=by
 unfold xT
 cases kZ y.a7&&((uq y.a7).2&&(!(bO now y.ab)&&rg now 0 1000000000000))
 ·exact⟨Zn _,Zn _⟩
 simp only[cond_true]
 cases(fate==0||fate==3)&&((KK s (uq y.a7).1 fate).2==1||(KK s (uq y.a7).1 fate).2==2)
 ·exact⟨Zn _,Zn _⟩
 simp only[cond_true]
 unfold Dx
 cases kZ y.a7
 ·exact⟨Zn _,Zn _⟩
 ·exact⟨xU Y2.e _ _,List.length_filter_le _ _⟩
def Wo {s:Y7}(h:dW s=true)(k:YL)(r:Z4):dW (xt s k r).1=true:=by
 unfold xt
 cases c:dW s&&(kD k&&dX r.fs)
 ·exact h
 simp only[Zh]at c
 obtain⟨_,ck,cr⟩:=c
 simp only[cond_true]
 rcases wO (Ci k) s.a0 with hf|⟨j,hj,hf,hq⟩
 ·rw[if_neg (by omega)]
  split
  ·exact h
  ·rw[Db h ck hf,cr]
   simp only[Za6,decide_eq_true_eq]
   omega
 ·rw[if_pos (by omega),hf]
  simp only[Int.toNat_natCast]
  rw[Dc h hj (Ku.1 hq)]
  exact cr
def Ww {s:Y7}(h:dW s=true)(w:Y2):dW (vj s w).1=true:=by
 unfold vj
 cases(setR (it s w.aX).fs w.aP w.n).2
 ·exact h
 ·exact Wo h _ _
def Hq :∀(a b:List (List PV)),bI (a++b)=bI a+bI b
 |[],b=>by simp[bI]
 |x::a,b=>by rw[Zg,bI,bI,Hq a b];omega
def VO (s:Y3)(w:Y2):eN (sa s w).1.e<=eN s.e+5000:=by
 unfold sa
 cases c1:k6 s
 ·simp only[Za9,cond_false];exact B' _ _
 cases c2:yJ w
 ·simp only[G',cond_false];exact B' _ _
 simp only[ZU,cond_true]
 cases bO (dQ (Cg w.aY) s.a3) 0&& !(bO s.a3.length 60)
 rotate_left
 ·simp only[cond_true];exact B' _ _
 simp only[cond_false]
 cases !(bO (jD s w.aY) w.aj)
 rotate_left
 ·simp only[cond_true];exact B' _ _
 simp only[cond_false]
 cases bO (jD s w.aY+1) w.aj
 rotate_left
 ·simp only[cond_true];exact B' _ _
 simp only[cond_false]
 have cA:dW s.aD=true:=by
  simp only[k6,Zh]at c1
  exact c1.2.2.1
 have h1:=Pp (Ww cA w)
 have h2:(tM s.a3 w.aY w.aj).length<=s.a3.length+1:=by
  have hp:=wV w.aY s.a3
  rcases wg c1 w.aY w.aj with⟨j,hj,_,_,q,_⟩|⟨_,q,_⟩
  ·rw[q];simp only[ZK];omega
  ·rw[q];simp only[Zu,Zo,ZM,Zc9];omega
 have h3:bI ((tM s.a3 w.aY w.aj).map Y6.e)<=0*(tM s.a3 w.aY w.aj).length:=EQ (e:=Y6.e) (B:=0) (fun x _=>by simp only[Y6.e,eN,sz];omega)
 have h4:eN w.e<=100:=by
  simp only[yJ,Zh]at c2
  obtain⟨_,_,k1,k2,_⟩:=c2
  have q1:=tG k1
  have q2:=yI k2
  simp only[Y2.e,eN,sz]
  omega
 simp only[Y3.e,eN,sz,Zr,List.map_append,Zv,Zz,Hq,bI,Zu,Zo,Zx]at h1⊢
 generalize eN w.e=A at*
 generalize bI ((tM s.a3 w.aY w.aj).map Y6.e)=C at*
 generalize bI ((vj s.aD w).1.a0.map Y1.e)=D at*
 generalize bI (s.aG.map Y2.e)=E at*
 generalize bI (s.a3.map Y6.e)=F at*
 generalize bI (s.aD.a0.map Y1.e)=G at*
 omega
def Xt (s:Y3)(w:Y2)(fate:Int):eN (KK s w fate).1.e<=eN s.e+10000:=by
 have h1:=VO s w
 have h2:=VO (sa s w).1 w
 unfold KK
 split
 ·omega
 ·split
  ·omega
  ·split
   ·omega
   ·exact B' _ _
def Xw (y:YP)(s:Y3)(now fate:Int):eN (xT y s now fate).2.1.e<=eN s.e+10000:=by
 have h:=Xt s (uq y.a7).1 fate
 unfold xT
 cases kZ y.a7&&((uq y.a7).2&&(!(bO now y.ab)&&rg now 0 1000000000000))
 ·exact B' _ _
 simp only[cond_true]
 cases(fate==0||fate==3)&&((KK s (uq y.a7).1 fate).2==1||(KK s (uq y.a7).1 fate).2==2)
 ·exact h
 ·exact h
def Qr {α:Type}{e:α->List PV}{t:List PTy}{l:List α}{k:Nat}(hk:k<l.length){x:α}{c:Nat}(h:oq (.lst t) (.lst (l.map e)))(hx:bF t (e x))(hs:eN (e x)<=eN (e (l[k]'hk))+c):oq (.lst t) (.lst ((l.set k x).map e))/\ sz (.lst ((l.set k x).map e))<=sz (.lst (l.map e))+c:=by
 obtain⟨h1,h2⟩:=bi h
 have cI:k<(l.map e).length:=by rw[Zr];exact hk
 have hg:(l.map e)[k]'cI=e (l[k]'hk):=List.getElem_map ..
 have bE:=Dr (c:=c) (rows:=l.map e) (r:=e x) cI (by rw[hg];exact hs)
 rw[Zd4,lY,lY,ZK]
 refine⟨⟨by rw[ZK];exact h1,fun r' cM=> ?_⟩,?_⟩
 ·rcases Q' cM with m|rfl
  ·exact h2 r' m
  ·exact hx
 ·generalize bI ((l.map e).set k (e x))=A at bE⊢
  generalize bI (l.map e)=B at bE⊢
  omega
set_option maxHeartbeats 1000000
def Wu {w:YI}{s t:List UInt8}{fate:Int}(hk:w.Ok 1048576)(hc:ov w=true->∀v∈w.a4,v.aG.length+2<=1048576)(h:oq (.lst ej) (.lst (w.a8.a2.map Y4.e)))(hv:oq (.lst fo) (.lst (w.a4.map Y3.e))):
 oq (.lst ej) (.lst ((LC w s t fate).1.map Y4.e))/\ sz (.lst ((LC w s t fate).1.map Y4.e))<=sz (.lst (w.a8.a2.map Y4.e))/\
 oq (.lst fo) (.lst ((LC w s t fate).2.1.map Y3.e))/\ sz (.lst ((LC w s t fate).2.1.map Y3.e))<=sz (.lst (w.a4.map Y3.e))+10000:=by
 rcases G8 w s t fate with⟨_,e⟩|⟨k,b7,i,hi,_,_,c1,e⟩
 ·rw[e];exact⟨h,Zn _,hv,B' _ _⟩
 rw[e]
 have ay:=hk.2.2.1.2 _ (Zf b7)
 have aF:=hk.2.2.2.2.2.2.2.2.2 _ (Zf hi)
 have cN:=hc c1 _ (Zf hi)
 have b8:100<=1048576:=by omega
 have ar:=Wy b8 ay.2.2.2.2.2.1.2.2 aF cN w.al (C8 w fate)
 have z1:=Wz w.a8.a2[k].a5.aL w.a4[i] w.al (C8 w fate)
 have z2:=Xw w.a8.a2[k].a5.aL w.a4[i] w.al (C8 w fate)
 generalize xT w.a8.a2[k].a5.aL w.a4[i] w.al (C8 w fate)=p at*
 obtain⟨p1,p2,p3⟩:=p
 simp only at ar z1 z2⊢
 have b2:bF ej (w.a8.a2[k]).e:=(bi h).2 _ (V'.2 ⟨_,Zf b7,rfl⟩)
 have r1:=SC b2 ar.1
 have z3:eN (xV w.a8.a2[k] p1).e<=eN (w.a8.a2[k]).e+0:=Zc (Uq z1) (B' _ _)
 have y1:=Qr (c:=0) b7 h r1 z3
 have y2:=Qr (c:=10000) hi hv (MD ar.2) z2
 exact⟨y1.1,y1.2,y2.1,y2.2⟩
def GK {r0:List PV}{s1 s2:List UInt8}{ft:Int}(h0:bF fS r0)(h1:oq .str (.str s1))(h2:oq .str (.str s2))(h3:oq (.int .i64) (.int .i64 ft)):ag Ph aC 615 [.agg (r0.map .pv),eE s1,eE s2,aa .i64 ft]=some (az true):=by
 obtain⟨w,rfl,ar⟩:=YI.of (B:=eN r0) r0 h0 (Zn _)
 have m0:ag Ph aC 104 [.agg (WP w.al w.aO w.aQ (w.a8.a2.map Y4.e) (w.aJ.map Z8.e) w.aH (w.aI.aI.map Z6.e) (w.aN.aU.map Z9.e) (w.aK.map Z7.e) (w.a4.map Y3.e)),aa .i64 1048576]=some (aa .i64 (less 1048576 (eN w.e))):=Pn (ext:=aC) _ h0 1048576 (by omega) (by omega)
 show ag Ph aC 615 [.agg (WP w.al w.aO w.aQ (w.a8.a2.map Y4.e) (w.aJ.map Z8.e) w.aH (w.aI.aI.map Z6.e) (w.aN.aU.map Z9.e) (w.aK.map Z7.e) (w.a4.map Y3.e)),eE s1,eE s2,aa .i64 ft]=_
 by_cases b1:(1048576:Int)<s1.length
 ·refine fW rfl ?_
  simp[WP,cJ,b1]
 by_cases b2:(1048576:Int)<s2.length
 ·refine fW rfl ?_
  simp[WP,cJ,b1,b2]
 generalize q0:less 1048576 (eN w.e)=l0 at m0
 by_cases n0:l0<0
 ·refine fW rfl ?_
  simp only[WP]at m0
  simp[WP,cJ,b1,b2,m0,n0]
 obtain⟨cX,cY⟩:=TK (by omega) q0 n0
 have ak:eN w.e<=1048576:=by omega
 have hk:=YI.Ok.mono ak ar
 have bb:ov w=true->∀v∈w.a4,v.aG.length+2<=1048576:=fun c v m=>by
  have h3:=(Cj c).1
  have h4:=zb (V'.2 ⟨v,m,rfl⟩:v.e∈w.a4.map Y3.e)
  have h5:v.aG.length<=eN v.e:=by simp only[Y3.e,eN,sz,Zr];omega
  have h6:w.a4.length+bI (w.a4.map Y3.e)<=eN w.e:=by simp only[YI.e,eN,sz,Zr];omega
  generalize bI (w.a4.map Y3.e)=A at*
  generalize eN v.e=B at*
  generalize eN w.e=C at*
  omega
 have e1:=yF hk bb s1 s2 ft
 have e2:=yY hk bb s1 s2 ft
 have bH:=h0
 simp only[YI.e,fS,bF]at bH
 obtain⟨g0,g1,g2,g3,g4,g5,g6,g7,g8,g9,cR⟩:=bH
 obtain⟨cS,cU,cV,cW⟩:=Wu (s:=s1) (t:=s2) (fate:=ft) hk bb g3 g9
 refine RN (d3:=(LC w s1 s2 ft).1.map Y4.e) (n:=(LC w s1 s2 ft).2.2) h0 ak (d0:=w.al) (d1:=w.aO) (d2:=w.aQ) (d4:=w.aJ.map Z8.e) (d5:=w.aH) (d6:=w.aI.aI.map Z6.e) (d7:=w.aN.aU.map Z9.e) (d8:=w.aK.map Z7.e) (d9:=(LC w s1 s2 ft).2.1.map Y3.e) ?_ ?_ m0 n0 b1 b2 e1 e2
 ·simp only[WR,fS,bF]
  exact⟨g0,g1,g2,cS,g4,g5,g6,g7,g8,cV,cR⟩
 ·simp only[YI.e,eN]at ak
  simp only[WR,eN]
  generalize sz (.lst ((LC w s1 s2 ft).1.map Y4.e))=A at cU⊢
  generalize sz (.lst ((LC w s1 s2 ft).2.1.map Y3.e))=B at cW⊢
  generalize sz (.lst (w.a8.a2.map Y4.e))=A0 at*
  generalize sz (.lst (w.a4.map Y3.e))=B0 at*
  omega
end Gi
