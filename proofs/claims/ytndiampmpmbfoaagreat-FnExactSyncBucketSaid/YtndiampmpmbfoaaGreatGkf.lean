/- A part. -/
import Derived.Test.YtndiampmpmbfoaaGreatGkz
import Derived.Test.YtndiampmpmbfoaaGreatGkr
set_option linter.all false
namespace Gi
open Go Go.RowKit
set_option maxHeartbeats 8000000
set_option maxRecDepth 4000
attribute [local simp] start qh bG cz dk eR dj eQ eW eV se sx sf sy sh sA si sB sj sC sk sD so sE sp sF su sG V.cells plain bA gv isInt isStr isBool bin cu iq cy ir eS un asList L.view al V.view viewL aZ am cD bM bS comp aO bJ cT bW bw bu bv aS aE bT aw aR aW aK br bq ba bz bB V.flat L.flat da df bD putAt thaw thawL thawT V.ow eU dx dy cB eT cC dw freezeVs freezeLs freezeL V.mut L.mut aJ eF gQ be bC aN dC bQ bj bX L.bD aY dq ca dD bU cf wp_seq wp_block bm dA cE bN cF wp_skip wp_exit wp_ret co cH cL cK cP cQ cO bV aM L.bC aV aT aU dz bt storeD bf fm ai ct aA nq L.bG L.closed V.closed PV.bare PV.flat
def Dm (b:Bool)(x:YJ):Nat:=cond b 76 (16+x.ap.length)
def tP (e:Z3):Nat:=Dm (e.ak.b2==3) e.ak
def vX {e:Z3}(h:e.Ok 1048576):tP e<=1048592:=by
 have:=h.2.2.2.2.2
 unfold tP Dm
 cases(e.ak.b2==3)<;>simp only[cond_true,cond_false]<;>omega
def xS (c:Z5):Nat:=jy tP c.a6
def Hb {c:Z5}(h:c.Ok 1048576):xS c<=1048592*1048576:=Zc (ph fun e he=>vX (h.2.2 e he)) (Nat.mul_le_mul_left _ h.2.1)
def Dl (s:YK):Nat:=jy xS s.a1
def yE {x:YJ}(h:x.ap.length<=1048576)(b:Bool):ag Ph aC 223 [x.v,az b]=some (aa .i64 (Dm b x:Nat)):=by
 have w1:IntKind.i64.wrap (16+(x.ap.length:Int))=16+(x.ap.length:Int):=by rw[IntKind.wrap_i64];omega
 refine ae rfl ?_
 cases b<;>simp(maxSteps:=9^9) [nK,Dm,w1,bZ]
def yD {s:YK}(h:s.Ok 1048576):ag Ph aC 195 [s.v]=some (aa .i64 (Dl s:Nat)):=by
 refine ae rfl ?_
 simp +contextual (maxSteps:=9^9) [nJ]
 refine aB bh Cl.fin [.f,.f,.f,.t,.f,.f,.f,.f,.f,.t,.t,.t,.f,.f,.f,.f,.f,.f,.f,.f,.f,.f,.f,.f,.f,.f,.f,.f,.f,.f,.f,.f,.f,.f] (fun k=>[(3,aa .i64 (jy xS (s.a1.take k):Nat)),(11,aa .i64 k)]) s.a1.length (fun _=>false) rfl (by simp[jy]) (fun k hk _=> ?_) (fun _ _=> ?_)
 ·have hx:=Z5.e.eq_1 s.a1[k]
  have hc:=h.2 _ (Zf hk)
  have wk:=aL (n:=s.a1.length) (by have:=h.1;unfold maxLen;omega) hk
  have l4:=ph (f:=xS) (c:=1048592*1048576) (xs:=s.a1.take k) (fun c hm=>Hb (h.2 c (ZI hm)))
  have l5:(s.a1.take k).length<=1048576:=by rw[ZM];have:=h.1;omega
  rw[pt hk]
  generalize jy xS (s.a1.take k)=A at l4⊢
  simp(maxSteps:=9^9) [iU,hk,hx,bd hk]
  refine aB bh Cl.kn [.f,.f,.f,.t,.f,.f,.f,.f,.f,.t,.t,.t,.f,.f,.f,.f,.t,.t,.t,.f,.f,.f,.f,.f,.f,.f,.f,.f,.f,.f,.f,.f,.f,.f] (fun j=>[(3,aa .i64 (A+jy tP (s.a1[k].a6.take j):Nat)),(18,aa .i64 j)]) s.a1[k].a6.length (fun _=>false) rfl (by simp[jy]) (fun j hj _=> ?_) (fun _ _=> ?_)
  ·have hy:=Z3.e.eq_1 s.a1[k].a6[j]
   have he:=hc.2.2 _ (Zf hj)
   have e1:=fun b=>yE (x:=s.a1[k].a6[j].ak) he.2.2.2.2.2 b
   have wj:=aL (n:=s.a1[k].a6.length) (by have:=hc.2.1;unfold maxLen;omega) hj
   have l1:=vX he
   have l2:=ph (f:=tP) (c:=1048592) (xs:=s.a1[k].a6.take j) (fun c hm=>vX (hc.2.2 c (ZI hm)))
   have l3:(s.a1[k].a6.take j).length<=1048576:=by rw[ZM];have:=hc.2.1;omega
   have hs:Dm (s.a1[k].a6[j].ak.b2==3) s.a1[k].a6[j].ak=tP s.a1[k].a6[j]:=rfl
   have e2:=e1 (s.a1[k].a6[j].ak.b2==3)
   rw[hs]at e2
   rw[pt hj]
   generalize jy tP (s.a1[k].a6.take j)=D at l2⊢
   generalize tP s.a1[k].a6[j]=a at l1 e2⊢
   have w1:IntKind.i64.wrap ((A:Int)+(D:Int)+(a:Int))=(A:Int)+((D:Int)+(a:Int)):=by rw[IntKind.wrap_i64];omega
   simp(maxSteps:=9^9) [gK,hk,hj,hx,hy,e2,w1,wj,bd hj]
  ·rw[F']
   simp(maxSteps:=9^9) [gK,hk,hx,wk,xS]
 ·rw[F']
  simp(maxSteps:=9^9) [iU,Dl]
def yX {x:YJ}(h:x.ap.length<=1048576)(b:Bool):ag Ph aC 219 [x.v,az b]=some (aa .i64 (Dm b x:Nat)):=by
 have w1:IntKind.i64.wrap (16+(x.ap.length:Int))=16+(x.ap.length:Int):=by rw[IntKind.wrap_i64];omega
 refine ae rfl ?_
 cases b<;>simp(maxSteps:=9^9) [nW,Dm,w1,bZ]
def yW {s:YK}(h:s.Ok 1048576):ag Ph aC 192 [s.v]=some (aa .i64 (Dl s:Nat)):=by
 refine ae rfl ?_
 simp +contextual (maxSteps:=9^9) [nV]
 refine aB bh Cl.fin [.f,.t,.f,.t,.t,.f,.f,.f,.f,.f,.f,.f,.f,.f,.f,.f,.f,.f,.f,.f,.f,.f,.f,.f,.f,.f,.f,.f,.f,.f,.f,.f,.f,.f,.f,.f,.f,.f,.f,.f,.f,.f,.f] (fun k=>[(3,aa .i64 (jy xS (s.a1.take k):Nat)),(4,aa .i64 k)]) s.a1.length (fun _=>false) rfl (by simp[jy]) (fun k hk _=> ?_) (fun _ _=> ?_)
 ·have hx:=Z5.e.eq_1 s.a1[k]
  have hc:=h.2 _ (Zf hk)
  have wk:=aL (n:=s.a1.length) (by have:=h.1;unfold maxLen;omega) hk
  have l4:=ph (f:=xS) (c:=1048592*1048576) (xs:=s.a1.take k) (fun c hm=>Hb (h.2 c (ZI hm)))
  have l5:(s.a1.take k).length<=1048576:=by rw[ZM];have:=h.1;omega
  rw[pt hk]
  generalize jy xS (s.a1.take k)=A at l4⊢
  simp(maxSteps:=9^9) [iY,hk,hx,bd hk]
  refine aB bh Cl.kn [.f,.t,.f,.t,.t,.t,.f,.f,.f,.f,.f,.f,.f,.f,.f,.f,.f,.f,.f,.f,.f,.f,.f,.f,.f,.f,.f,.f,.f,.f,.f,.f,.f,.f,.f,.f,.f,.f,.f,.f,.f,.f,.f] (fun j=>[(3,aa .i64 (A+jy tP (s.a1[k].a6.take j):Nat)),(5,aa .i64 j)]) s.a1[k].a6.length (fun _=>false) rfl (by simp[jy]) (fun j hj _=> ?_) (fun _ _=> ?_)
  ·have hy:=Z3.e.eq_1 s.a1[k].a6[j]
   have he:=hc.2.2 _ (Zf hj)
   have e1:=fun b=>yX (x:=s.a1[k].a6[j].ak) he.2.2.2.2.2 b
   have wj:=aL (n:=s.a1[k].a6.length) (by have:=hc.2.1;unfold maxLen;omega) hj
   have l1:=vX he
   have l2:=ph (f:=tP) (c:=1048592) (xs:=s.a1[k].a6.take j) (fun c hm=>vX (hc.2.2 c (ZI hm)))
   have l3:(s.a1[k].a6.take j).length<=1048576:=by rw[ZM];have:=hc.2.1;omega
   have hs:Dm (s.a1[k].a6[j].ak.b2==3) s.a1[k].a6[j].ak=tP s.a1[k].a6[j]:=rfl
   have e2:=e1 (s.a1[k].a6[j].ak.b2==3)
   rw[hs]at e2
   rw[pt hj]
   generalize jy tP (s.a1[k].a6.take j)=D at l2⊢
   generalize tP s.a1[k].a6[j]=a at l1 e2⊢
   have w1:IntKind.i64.wrap ((A:Int)+(D:Int)+(a:Int))=(A:Int)+((D:Int)+(a:Int)):=by rw[IntKind.wrap_i64];omega
   simp(maxSteps:=9^9) [gM,hk,hj,hx,hy,e2,w1,wj,bd hj]
  ·rw[F']
   simp(maxSteps:=9^9) [gM,hk,hx,wk,xS]
 ·rw[F']
  simp(maxSteps:=9^9) [iY,Dl]
def Nn {s:YK}(h:s.Ok 1048576):Dl s<=1048592*1048576*1048576:=Zc (ph fun c hm=>Hb (h.2 c hm)) (Nat.mul_le_mul_left _ h.1)
def NW (x:Y4):Nat:=Dl x.a1+(uU x.aV.aF+x.aV.az.length)+nn x.a5.aF+40*x.a5.aL.a7.a9.length
def Ed {x:Y4}(h:x.Ok 1048576):ag Ph aC 162 [x.v]=some (aa .i64 (NW x:Nat)):=by
 obtain⟨_,_,_,hc,hd,hr,_⟩:=h
 have e1:=yD hc
 have e2:=B9 hd
 have e3:=r7 hr.1
 have l1:=Nn hc
 have l2:=AL hd.1
 have l3:nn x.a5.aF<=115343360:=Zc (tf og _) (by have:=hr.1.2.1.1;omega)
 have l4:=hd.2.1
 have l5:x.a5.aL.a7.a9.length<=1048576:=hr.2.2.1.2.2.1
 unfold NW
 generalize Dl x.a1=A at e1 l1⊢
 generalize uU x.aV.aF=B at e2 l2⊢
 generalize nn x.a5.aF=C at e3 l3⊢
 have w1:IntKind.i64.wrap ((A:Int)+((B:Int)+(x.aV.az.length:Int)))=(A:Int)+((B:Int)+(x.aV.az.length:Int)):=by rw[IntKind.wrap_i64];omega
 have w2:IntKind.i64.wrap ((A:Int)+((B:Int)+(x.aV.az.length:Int))+(C:Int))=(A:Int)+((B:Int)+(x.aV.az.length:Int))+(C:Int):=by rw[IntKind.wrap_i64];omega
 have w3:IntKind.i64.wrap (40*(x.a5.aL.a7.a9.length:Int))=40*(x.a5.aL.a7.a9.length:Int):=by rw[IntKind.wrap_i64];omega
 have w4:IntKind.i64.wrap ((A:Int)+((B:Int)+(x.aV.az.length:Int))+(C:Int)+40*(x.a5.aL.a7.a9.length:Int))=(A:Int)+((B:Int)+(x.aV.az.length:Int))+(C:Int)+40*(x.a5.aL.a7.a9.length:Int):=by rw[IntKind.wrap_i64];omega
 refine ae rfl ?_
 simp +contextual (maxSteps:=9^9) [qt,e1,e2,e3,w1,w2,w3,w4]
def Ek {x:Y4}(h:x.Ok 1048576):ag Ph aC 161 [x.v]=some (aa .i64 (NW x:Nat)):=by
 obtain⟨_,_,_,hc,hd,hr,_⟩:=h
 have e1:=yW hc
 have e2:=CE hd
 have e3:=sd hr.1
 have l1:=Nn hc
 have l2:=AL hd.1
 have l3:nn x.a5.aF<=115343360:=Zc (tf og _) (by have:=hr.1.2.1.1;omega)
 have l4:=hd.2.1
 have l5:x.a5.aL.a7.a9.length<=1048576:=hr.2.2.1.2.2.1
 unfold NW
 generalize Dl x.a1=A at e1 l1⊢
 generalize uU x.aV.aF=B at e2 l2⊢
 generalize nn x.a5.aF=C at e3 l3⊢
 have w1:IntKind.i64.wrap ((A:Int)+((B:Int)+(x.aV.az.length:Int)))=(A:Int)+((B:Int)+(x.aV.az.length:Int)):=by rw[IntKind.wrap_i64];omega
 have w2:IntKind.i64.wrap ((A:Int)+((B:Int)+(x.aV.az.length:Int))+(C:Int))=(A:Int)+((B:Int)+(x.aV.az.length:Int))+(C:Int):=by rw[IntKind.wrap_i64];omega
 have w3:IntKind.i64.wrap (40*(x.a5.aL.a7.a9.length:Int))=40*(x.a5.aL.a7.a9.length:Int):=by rw[IntKind.wrap_i64];omega
 have w4:IntKind.i64.wrap ((A:Int)+((B:Int)+(x.aV.az.length:Int))+(C:Int)+40*(x.a5.aL.a7.a9.length:Int))=(A:Int)+((B:Int)+(x.aV.az.length:Int))+(C:Int)+40*(x.a5.aL.a7.a9.length:Int):=by rw[IntKind.wrap_i64];omega
 refine ae rfl ?_
 simp +contextual (maxSteps:=9^9) [qz,e1,e2,e3,w1,w2,w3,w4]
abbrev uw (s:List UInt8):Bool:=qX s 30 true
def yC {s:List UInt8}(h:s.length<=maxLen):ag Ph aC 389 [eE s]=some (az (uw s)):=by
 refine ae rfl ?_
 simp(maxSteps:=9^9) [nG,vM h]
def yU {s:List UInt8}(h:s.length<=maxLen):ag Ph aC 386 [eE s]=some (az (uw s)):=by
 refine ae rfl ?_
 simp +contextual (maxSteps:=9^9) [nS]
 refine aB bh Cl.fin [.t,.f,.f,.t,.f,.f,.f,.f,.f,.f,.f,.f,.f,.f,.f,.f,.f,.f,.f,.f,.f,.f,.f,.f,.f,.f,.f,.f,.f] (fun k=>[(3,aa .i64 k)]) s.length (Oe true s) rfl (by simp) (fun k hk _=> ?_) (fun _ hp=> ?_)
 ·simp +contextual (maxSteps:=9^9) [iX,Oe,uw,qX,hk,aL h hk,bd hk]
 ·simp +contextual (maxSteps:=9^9) [iX,uw,qX,hp,bR]
def qW (x:YJ):Bool:=rg x.b2 1 4&&(rg x.ax 0 999&&(rg x.aB 0 1000000000000&& !(bO 60 x.ap.length)))
def jQ (x:YJ):ag Ph aC 403 [x.v]=some (az (qW x)):=by
 refine ae rfl ?_
 simp +contextual (maxSteps:=9^9) [nH,bp,qW,bZ]
def yV (x:YJ):ag Ph aC 408 [x.v]=some (az (qW x)):=by
 refine ae rfl ?_
 simp +contextual (maxSteps:=9^9) [nT,bR,qW,bZ]
def yJ (x:Y2):Bool:=rg x.aY 1 1000000&&(rg x.aj 1 1000000&&(kD x.aX&&(dg x.aP&&rg x.n 0 1000000000)))
def kh {x:Y2}(h:x.Ok maxLen):ag Ph aC 390 [x.v]=some (az (yJ x)):=by
 refine ae rfl ?_
 simp +contextual (maxSteps:=9^9) [kS,bp,mc h.2.2.1,bP h.2.2.2.1,yJ]
def kj {x:Y2}(h:x.Ok maxLen):ag Ph aC 383 [x.v]=some (az (yJ x)):=by
 refine ae rfl ?_
 simp +contextual (maxSteps:=9^9) [kW,bR,mi h.2.2.1,db h.2.2.2.1,yJ]
def zo (a b:Y4):Bool:=Op.bytesLess a.aR b.aR||(a.aR==b.aR&&Op.bytesLess a.b4 b.b4)
def vI (a b:Y4):ag Ph aC 388 [a.v,b.v]=some (az (zo a b)):=by
 refine ae rfl ?_
 simp +contextual (maxSteps:=9^9) [lQ,zo]
def Ez (a b:Y4):ag Ph aC 385 [a.v,eE b.aR,eE b.b4]=some (az (zo a b)):=by
 refine ae rfl ?_
 simp +contextual (maxSteps:=9^9) [qP,zo]
def A7 :List (List UInt8):=[[98,97,110,107],[110,101,119,115],[115,104,111,112]]
def tT :ag Ph aC 181 []=some (.one (.own 1 (A7.map vW))):=by
 refine ae rfl ?_
 simp(maxSteps:=9^9) [pV,A7,vW]
def GB {us:List (List UInt8)}(hl:us.length<=maxLen)(x:List UInt8):ag Ph aC 182 [bY (us.map vW),eE x]=some (aa .i64 (dQ (fun u=>x==u) us)):=by
 refine ae rfl ?_
 simp +contextual (maxSteps:=9^9) [gE]
 refine aB bh Cl.fin [.t,.t,.f,.f,.f,.f,.f,.t,.t,.f,.f,.f,.f,.f,.f,.f,.f,.f,.f] (fun k=>[(8,aa .i64 k)]) us.length (iE (fun u=>x==u) us) rfl (by simp) (fun k hk hj=> ?_) (fun hj _=> ?_)
 ·have hf:=tb hk hj
  have hs:(us.map vW)[k]'(by simpa using hk)=[.str us[k]]:=by simp[vW]
  cases hg:(x==us[k])
  ·simp(maxSteps:=9^9) [dM,iE,hk,hg,aL hl hk,bd hk,vW]
  ·have ah:=hf hg
   have ha:iE (fun u=>x==u) us k=true:=by simp only[iE,hk,Zm,hg]
   generalize dQ (fun u=>x==u) us=F at ah⊢
   generalize iE (fun u=>x==u) us=A at ha⊢
   simp(maxSteps:=9^9) [dM,ha,hk,hg,ah,aL hl hk,bd hk,vW]
 ·simp +contextual (maxSteps:=9^9) [dM,ta hj]
def jS (s:List UInt8):Int:=dQ (fun u=>s==u) A7
def m8 (s:List UInt8):ag Ph aC 154 [eE s]=some (aa .i64 (jS s)):=by
 have e1:=GB (us:=A7) (by decide) s
 simp only[A7,Zv,Zz,vW]at e1
 refine ae rfl ?_
 simp(maxSteps:=9^9) [nI,e1,jS,A7]
def JK (l v:Int):Bool:= !(rg v 0 1000000000000)||(!(v==0)&& !(bO l v))
def Va (l v:Int):Int:=if v=0 then l else v
def RS (V:List Int)(k:Nat):Int:=(V.take k).foldl Va 0
def JL (V:List Int)(k:Nat):Bool:=match V[k]? with
 |some v=>JK (RS V k) v
 |none=>false
def GH (r:YE):Bool:= !(gH [r.am,r.ag,r.aZ].length (JL [r.am,r.ag,r.aZ]))&&dg r.aR
def VC {l v:Int}(h:JK l v=true):(rg v 0 1000000000000=true->(v==0)=false)/\ (rg v 0 1000000000000=true->bO l v=false):=by
 refine⟨fun g=> ?_,fun g=> ?_⟩<;>rw[JK,g]at h<;>simp at h
 ·simpa using h.1
 ·exact h.2
def S4 {l v:Int}(h:JK l v=false)(hl:0<=l):rg v 0 1000000000000=true/\ ((v==0)=false->bO l v=true)/\ (if l<v then v else l)=Va l v/\ 0<=Va l v:=by
 simp only[JK,K',Za2,Bool.and_eq_false_iff,beq_iff_eq]at h
 obtain⟨h1,h2⟩:=h
 unfold Va
 by_cases z:v=0
 ·rw[if_pos z];subst z;exact⟨h1,fun q=>by simp at q,by rw[if_neg (by omega)],hl⟩
 ·rw[if_neg z]
  have h3:=h2.resolve_left z
  have:=of_decide_eq_true h3
  exact⟨h1,fun _=>h3,by rw[if_pos this],by omega⟩
def TN {V:List Int}{k:Nat}(hk:k<V.length):RS V (k+1)=Va (RS V k) V[k]:=by
 unfold RS;rw[ZX hk,List.foldl_append];rfl
def Kx {V:List Int}:∀{k:Nat},k<=V.length->(∀j,j<k->JL V j=false)->0<=RS V k
 |0,_,_=>Int.le_refl 0
 |k+1,hk,hj=>by
  have ih:=Kx (V:=V) (k:=k) (by omega) (fun j h=>hj j (by omega))
  have hb:=hj k (by omega)
  have an:k<V.length:=hk
  simp only[JL,an,Zm]at hb
  rw[TN an]
  exact(S4 hb ih).2.2.2
def ut {r:YE}(h:r.Ok maxLen):ag Ph aC 395 [r.v]=some (az (GH r)):=by
 have e1:=bP h.1
 unfold GH
 obtain⟨V,hV⟩:∃V,V=[r.am,r.ag,r.aZ]:=⟨_,rfl⟩
 have hR:[[PV.int .i64 r.am],[PV.int .i64 r.ag],[PV.int .i64 r.aZ]]=V.map xh:=by rw[hV];rfl
 have hl:V.length=3:=by rw[hV];rfl
 rw[<-hV]
 refine ae rfl ?_
 simp(maxSteps:=9^9) [j5]
 rw[hR]
 clear hR hV
 refine aB bh Cl.fin [.f,.t,.f,.t,.f,.f,.f,.f,.f,.f,.f,.f,.t,.t,.t,.f,.f,.f,.f,.f,.f,.f,.f,.f,.f,.f,.f,.f,.f,.f,.f,.f,.f,.f,.f,.f,.f] (fun k=>[(3,aa .i64 (RS V k)),(14,aa .i64 k)]) V.length (JL V) rfl (by simp[RS,hl]) (fun k hk hj=> ?_) (fun _ hp=> ?_)
 ·have ab:=Kx (Zd2 hk) hj
  have hs:=TN hk
  have hb:JL V k=JK (RS V k) V[k]:=by simp[JL,hk]
  have e3:=bp V[k] 0 1000000000000
  have w:=aL (n:=V.length) (by rw[hl];decide) hk
  have lk:bO (k:Int) 3=true:=gB (by omega)
  have ad:k<3:=by omega
  rw[hb,hs]
  generalize RS V k=l at ab⊢
  generalize hv:V[k]=v at e3⊢
  cases b:JK l v
  ·obtain⟨g,z,mx,_⟩:=S4 b ab
   rw[g]at e3
   cases z0:(v==0)
   ·have z1:=z z0
    have nx:Va l v=v:=if_neg (by simpa using z0)
    simp(maxSteps:=9^9) [dK,hk,ad,hl,hv,xh,e3,z0,z1,mx,nx,w,lk]
   ·have nx:Va l v=l:=if_pos (by simpa using z0)
    simp(maxSteps:=9^9) [dK,hk,ad,hl,hv,xh,e3,z0,mx,nx,w,lk]
  ·obtain⟨q1,q2⟩:=VC b
   cases g:rg v 0 1000000000000<;>rw[g]at e3
   ·simp +contextual (maxSteps:=9^9) [dK,hk,ad,hl,hv,xh,e3,w,lk]
   ·have q3:=q1 g
    have q4:=q2 g
    simp +contextual (maxSteps:=9^9) [dK,hk,ad,hl,hv,xh,e3,q3,q4,w,lk]
 ·rw[hl]at hp
  simp(maxSteps:=9^9) [dK,hp,hl,e1,show bO 3 3=false from rfl]
def uJ {r:YE}(h:r.Ok maxLen):ag Ph aC 391 [r.v]=some (az (GH r)):=by
 have e1:=db h.1
 unfold GH
 obtain⟨V,hV⟩:∃V,V=[r.am,r.ag,r.aZ]:=⟨_,rfl⟩
 have hR:[[PV.int .i64 r.am],[PV.int .i64 r.ag],[PV.int .i64 r.aZ]]=V.map xh:=by rw[hV];rfl
 have hl:V.length=3:=by rw[hV];rfl
 rw[<-hV]
 refine ae rfl ?_
 simp(maxSteps:=9^9) [j8]
 rw[hR]
 clear hR hV
 refine aB bh Cl.fin [.f,.t,.f,.t,.t,.t,.f,.f,.f,.f,.f,.f,.f,.f,.f,.f,.f,.f,.f,.f,.f,.f,.f,.f,.f,.f,.f,.f,.f,.f,.f,.f,.f,.f,.f,.f,.f,.f,.f,.f,.f,.f,.f,.f,.f,.f,.f,.f,.f,.f,.f,.f] (fun k=>[(3,aa .i64 (RS V k)),(5,aa .i64 k)]) V.length (JL V) rfl (by simp[RS,hl]) (fun k hk hj=> ?_) (fun _ hp=> ?_)
 ·have ab:=Kx (Zd2 hk) hj
  have hs:=TN hk
  have hb:JL V k=JK (RS V k) V[k]:=by simp[JL,hk]
  have e3:=bR V[k] 0 1000000000000
  have w:=aL (n:=V.length) (by rw[hl];decide) hk
  have lk:bO (k:Int) 3=true:=gB (by omega)
  have ad:k<3:=by omega
  rw[hb,hs]
  generalize RS V k=l at ab⊢
  generalize hv:V[k]=v at e3⊢
  cases b:JK l v
  ·obtain⟨g,z,mx,_⟩:=S4 b ab
   rw[g]at e3
   cases z0:(v==0)
   ·have z1:=z z0
    have nx:Va l v=v:=if_neg (by simpa using z0)
    simp(maxSteps:=9^9) [dN,hk,ad,hl,hv,xh,e3,z0,z1,mx,nx,w,lk]
   ·have nx:Va l v=l:=if_pos (by simpa using z0)
    simp(maxSteps:=9^9) [dN,hk,ad,hl,hv,xh,e3,z0,mx,nx,w,lk]
  ·obtain⟨q1,q2⟩:=VC b
   cases g:rg v 0 1000000000000<;>rw[g]at e3
   ·simp +contextual (maxSteps:=9^9) [dN,hk,ad,hl,hv,xh,e3,w,lk]
   ·have q3:=q1 g
    have q4:=q2 g
    simp +contextual (maxSteps:=9^9) [dN,hk,ad,hl,hv,xh,e3,q3,q4,w,lk]
 ·rw[hl]at hp
  simp(maxSteps:=9^9) [dN,hp,hl,e1,show bO 3 3=false from rfl]
def vU (fs:List Y8)(nm:List UInt8):Nat:=fs.findIdx fun f=> !(Op.bytesLess f.aE nm)
def KH (fs:List Y8)(nm:List UInt8):vU fs nm<=fs.length:=List.findIdx_le_length
def OZ {fs:List Y8}{nm:List UInt8}{k:Nat}(h:k<vU fs nm)(hk:k<fs.length):Op.bytesLess fs[k].aE nm=true:=by
 have:=List.not_of_lt_findIdx h
 simpa using this
def OY {fs:List Y8}{nm:List UInt8}(h:vU fs nm<fs.length):Op.bytesLess fs[vU fs nm].aE nm=false:=by
 have:=List.findIdx_getElem (w:=h)
 unfold vU
 simpa using this
def uI (fs:List Y8)(nm:List UInt8)(n:Int):List Y8:=match fs[vU fs nm]? with
 |some f=>if f.aE=nm then fs.set (vU fs nm) ⟨nm,n⟩else fs.take (vU fs nm)++(⟨nm,n⟩::fs.drop (vU fs nm))
 |none=>fs.take (vU fs nm)++(⟨nm,n⟩::fs.drop (vU fs nm))
def T5 (fs:List Y8)(nm:List UInt8)(n:Int):(uI fs nm n).length<=fs.length+1:=by
 have:=KH fs nm
 unfold uI
 split
 ·split
  ·simp
  ·simp;omega
 ·simp;omega
def T6 {fs:List Y8}{nm:List UInt8}{n:Int}{f:Y8}(h:f∈uI fs nm n):f∈fs \/f=⟨nm,n⟩:=by
 have key:f∈fs.take (vU fs nm)++(⟨nm,n⟩::fs.drop (vU fs nm))->f∈fs \/f=⟨nm,n⟩:=fun h=>by
  rw[H',ZL]at h
  rcases h with h|h|h
  ·exact .inl (ZI h)
  ·exact .inr h
  ·exact .inl (Za0 h)
 unfold uI at h
 split at h
 ·split at h
  ·exact Q' h
  ·exact key h
 ·exact key h
def Qq {B:Nat}{fs:List Y8}(h:fs.length<=B/\ ∀f∈fs,f.Ok B){nm:List UInt8}(hn:nm.length<=B){n:Int}(hi:me n):(uI fs nm n).length<=B+1/\ ∀f∈uI fs nm n,f.Ok (B+1):=by
 refine⟨by have:=T5 fs nm n;omega,fun f hf=> ?_⟩
 rcases T6 hf with h1|rfl
 ·exact Y8.Ok.mono (by omega) (h.2 f h1)
 ·exact⟨by simp only;omega,hi⟩
def yM :∀{a b c:List UInt8},Op.bytesLess a b=true->Op.bytesLess b c=true->Op.bytesLess a c=true
 |[],[],_,h,_=>by cases h
 |[],_::_,[],_,h=>by cases h
 |[],_::_,_::_,_,_=>rfl
 |_::_,[],_,h,_=>by cases h
 |_::_,_::_,[],_,h=>by cases h
 |a::x,b::y,c::z,h,k=>by
  simp only[Op.bytesLess,Zc1,Zh,decide_eq_true_eq,beq_iff_eq]at h k⊢
  rcases h with h|⟨rfl,h⟩
  ·rcases k with k|⟨rfl,k⟩
   ·exact .inl (UInt8.lt_trans h k)
   ·exact .inl h
  ·rcases k with k|⟨rfl,k⟩
   ·exact .inl k
   ·exact .inr ⟨rfl,yM h k⟩
def GN :∀(a:List UInt8),Op.bytesLess a a=false
 |[]=>rfl
 |a::x=>by simp[Op.bytesLess,UInt8.lt_irrefl,GN x]
def Xv :List Y8->Prop
 |[]=>True
 |f::t=>(∀g∈t,Op.bytesLess f.aE g.aE=true)/\ Xv t
def Uf :∀{fs:List Y8},(∀j(h:j+1<fs.length),Op.bytesLess fs[j].aE fs[j+1].aE=true)->Xv fs
 |[],_=>trivial
 |[f],_=>⟨by simp,trivial⟩
 |f::g::t,h=>by
  have ih:=Uf (fs:=g::t) (fun j hj=>by have:=h (j+1) (by simpa using hj);simpa using this)
  refine⟨fun x hx=> ?_,ih⟩
  have h0:=h 0 (by simp)
  simp at h0
  rcases ZL.1 hx with rfl|hx
  ·exact h0
  ·exact yM h0 (ih.1 x hx)
def Ue :∀{fs:List Y8},Xv fs->∀{i j:Nat}(h:i<j)(hj:j<fs.length),Op.bytesLess (fs[i]'(by omega)).aE fs[j].aE=true
 |[],_,_,_,_,hj=>by simp at hj
 |f::t,h,0,j+1,_,hj=>by
  simp only[Za8,Zd3]
  exact h.1 _ (Zf _)
 |f::t,h,i+1,j+1,aq,hj=>by
  simp only[Zd3]
  exact Ue h.2 (by omega) _
 |f::t,h,i+1,0,aq,hj=>by omega
def RO {a b:List UInt8}(h1:Op.bytesLess a b=false)(h2:a≠b):Op.bytesLess b a=true:=by
 have:=qY a b
 rw[h1,beq_eq_false_iff_ne.2 h2]at this
 simpa using this
def Vh {fs:List Y8}(h:dX fs=true):Xv fs:=by
 refine Uf fun j hj=> ?_
 simp only[dX,Zh,ZJ]at h
 have:=uc h.1 hj
 simp only[LS,hj,Zm,Nat.add_sub_cancel,show j<fs.length by omega,K',Bool.and_eq_false_iff,Za2]at this
 rcases this.2.2 with q|q
 ·rw[gB (by omega)]at q;cases q
 ·exact q
def Tp {nm:List UInt8}{fs:List Y8}(h:Xv fs):dQ (isF nm) fs=(match fs[vU fs nm]? with
 |some f=>if f.aE=nm then((vU fs nm:Nat):Int)else-1
 |none=> -1):=by
 have before:∀j,j<vU fs nm->iE (isF nm) fs j=false:=fun j hj=>by
  have h1:j<fs.length:=ZG hj (KH _ _)
  have:=OZ hj h1
  simp only[iE,h1,Zm,isF,beq_eq_false_iff_ne]
  intro e
  rw[e,GN]at this;cases this
 by_cases hp:vU fs nm<fs.length
 ·simp only[hp,Zm]
  split
  ·rename_i e
   exact tb hp before (by simp[isF,e])
  ·rename_i e
   refine ta fun j hj=> ?_
   by_cases q:j<vU fs nm
   ·exact before j q
   ·have h2:=RO (OY hp) e
    simp only[iE,hj,Zm,isF,beq_eq_false_iff_ne]
    by_cases q2:j=vU fs nm
    ·subst q2;exact e
    ·intro e3
     have:=Ue h (i:=vU fs nm) (j:=j) (by omega) hj
     rw[e3]at this
     have:=yM h2 this
     rw[GN]at this;cases this
 ·have:fs[vU fs nm]? =none:=ZW (by omega)
  rw[this]
  exact ta fun j hj=>before j (by omega)
def setR (fs:List Y8)(nm:List UInt8)(n:Int):List Y8×Bool:=cond (dX fs&&dX (uI fs nm n)) (uI fs nm n,true) (fs,false)
abbrev Cu (x:List Y8×Bool):V:= .b9 [(true,[.own 2 (x.1.map Y8.e)]),(false,[.pv (.bool x.2)])]
def AI (fs:List Y8)(nm:List UInt8)(n:Int)(h:∀f,fs[vU fs nm]? =some f->f.aE≠nm):(uI fs nm n).map Y8.e=(fs.map Y8.e).take (vU fs nm)++([.str nm, .int .i64 n]::(fs.map Y8.e).drop (vU fs nm)):=by
 have:uI fs nm n=fs.take (vU fs nm)++(⟨nm,n⟩::fs.drop (vU fs nm)):=by
  unfold uI
  split
  ·rename_i f hf;rw[if_neg (h f hf)]
  ·rfl
 rw[this];simp[Y8.e]
def AK {fs:List Y8}{nm:List UInt8}{n:Int}(hk:vU fs nm<fs.length)(h:fs[vU fs nm].aE=nm):(uI fs nm n).map Y8.e=(fs.map Y8.e).set (vU fs nm) [.str fs[vU fs nm].aE, .int .i64 n]:=by
 have:uI fs nm n=fs.set (vU fs nm) ⟨nm,n⟩:=by
  unfold uI
  simp[hk,h]
 rw[this,Zd4,h];rfl
def B8 {B:Nat}(hB:B<=1048576){r:Z4}(h:r.Ok B){nm:List UInt8}(hn:nm.length<=B){n:Int}(hi:me n):ag Ph aC 341 [r.v,eE nm,aa .i64 n]=some (Cu (setR r.fs nm n)):=by
 have hM:B+1<=maxLen:=by unfold maxLen;omega
 have e1:=na hB h
 have e2:=lF (Z4.Ok.mono (by omega) h)
 have e3:=lF (r:=⟨uI r.fs nm n⟩) (Z4.Ok.mono hM (Qq h hn hi))
 have hl:r.fs.length<=1048576:=Zc h.1 hB
 have e4:=uR (r:=r) (by unfold maxLen;omega) nm
 have fp:=fun hv=>Tp (nm:=nm) (fs:=r.fs) (Vh hv)
 have hs:=AK (fs:=r.fs) (nm:=nm) (n:=n)
 have a2:=AI r.fs nm n
 unfold setR
 generalize uI r.fs nm n=F at e3 hs a2⊢
 refine ae rfl ?_
 have hp:=KH r.fs nm
 have m1:=ez (m:=r.fs.length+1) (z:=24) (by omega) (by omega)
 rcases wO (isF nm) r.fs with hf|⟨j,hj,hf,hq⟩<;>rw[hf]at e4 fp
 ·simp +contextual (maxSteps:=9^9) [ix,e1,e4,bO]
  have b1:= @OZ r.fs nm
  have b2:= @OY r.fs nm
  generalize vU r.fs nm=k at fp a2 hp b1 b2
  refine aB bh Cl.fin [.f,.t,.t,.t,.f,.f,.t,.f,.t,.f,.t,.f,.f,.f,.f,.f,.f,.f,.f,.f,.f,.f,.f,.f,.f,.f,.f,.f,.f,.f,.f,.f,.f,.f,.f,.f,.f,.f,.f,.f,.f,.f,.f,.f,.f,.f,.f,.f,.f,.f,.f,.f,.f,.f,.f,.f,.f,.f,.f,.f,.f] (fun k=>[(10,aa .i64 k)]) k (fun _=>false) rfl (by simp) (fun j hj _=> ?_) (fun _ _=> ?_)
  ·have af:j<r.fs.length:=by omega
   have l1:=b1 hj af
   simp +contextual (maxSteps:=9^9) [eA,af,l1,aL (n:=r.fs.length) (by unfold maxLen;omega) af,bd af,Y8.e.eq_1 r.fs[j]]
  ·have hm:dX r.fs=true->_:=fun hv=>(a2 fun f ar e=>by
    have:=fp hv
    rw[ar]at this
    simp only[e,if_true]at this
    omega).symm
   by_cases a8:k<r.fs.length
   ·have l1:=b2 a8
    have hx:=Y8.e.eq_1 r.fs[k]
    cases c1:dX r.fs<;>rw[c1]at e2
    ·simp +contextual (maxSteps:=9^9) [eA,a8,hx,l1,hp,m1,e2,e1,bd a8]
    ·have hm:=hm c1
     cases c2:dX F<;>rw[c2]at e3
     ·simp +contextual (maxSteps:=9^9) [eA,a8,hx,l1,hp,m1,hm,e2,e3,e1,bd a8]
     ·simp +contextual (maxSteps:=9^9) [eA,a8,hx,l1,hp,m1,hm,e2,e3,bd a8]
   ·obtain rfl:k=r.fs.length:=by omega
    cases c1:dX r.fs<;>rw[c1]at e2
    ·simp +contextual (maxSteps:=9^9) [eA,m1,e2,e1]
    ·have hm:=hm c1
     cases c2:dX F<;>rw[c2]at e3
     ·simp +contextual (maxSteps:=9^9) [eA,m1, ↓hm,e2,e3,e1]
     ·simp +contextual (maxSteps:=9^9) [eA,m1, ↓hm,e2,e3]
 ·have hx:=Y8.e.eq_1 r.fs[j]
  cases c1:dX r.fs<;>rw[c1]at e2
  ·simp +contextual (maxSteps:=9^9) [ix,e1,e4,bO,hj,hx,e2]
  ·have fp:=fp c1
   have hm:(r.fs.map Y8.e).set j [.str r.fs[j].aE, .int .i64 n]=F.map Y8.e:=by
    cases hc:r.fs[vU r.fs nm]? with
    |none=>rw[hc]at fp;simp only at fp;omega
    |some f=>
     rw[hc]at fp
     by_cases e:f.aE=nm
     ·simp only[e,if_true]at fp
      obtain rfl:j=vU r.fs nm:=by omega
      rw[Zm hj]at hc
      cases hc
      exact(hs hj e).symm
     ·simp only[e,if_false]at fp;omega
   cases c2:dX F<;>rw[c2]at e3
   ·simp +contextual (maxSteps:=9^9) [ix,e1,e4,bO,hj,hx,hm,e2,e3]
   ·simp +contextual (maxSteps:=9^9) [ix,e1,e4,bO,hj,hx,hm,e2,e3]
def CC {B:Nat}(hB:B<=1048576){r:Z4}(h:r.Ok B){nm:List UInt8}(hn:nm.length<=B){n:Int}(hi:me n):ag Ph aC 338 [r.v,eE nm,aa .i64 n]=some (Cu (setR r.fs nm n)):=by
 have hM:B+1<=maxLen:=by unfold maxLen;omega
 have e1:=rm hB h
 have e2:=jv (Z4.Ok.mono (by omega) h)
 have e3:=jv (r:=⟨uI r.fs nm n⟩) (Z4.Ok.mono hM (Qq h hn hi))
 have hl:r.fs.length<=1048576:=Zc h.1 hB
 have hs:=AK (fs:=r.fs) (nm:=nm) (n:=n)
 have a2:=AI r.fs nm n
 unfold setR
 generalize uI r.fs nm n=F at e3 hs a2⊢
 refine ae rfl ?_
 have hp:=KH r.fs nm
 have m1:=ez (m:=r.fs.length+1) (z:=24) (by omega) (by omega)
 simp +contextual (maxSteps:=9^9) [pS,e1]
 have b1:= @OZ r.fs nm
 have b2:= @OY r.fs nm
 generalize vU r.fs nm=k at hs a2 hp b1 b2
 have m2:=ez (m:=k) (z:=24) (by omega) (by omega)
 have m3:=ez (m:=k+1) (z:=24) (by omega) (by omega)
 have w2:((r.fs.map Y8.e).take k).all (fun e=>e.length==2)=true:=by rw[<-List.map_take];exact cW (e:=Y8.e) (z:=2) (fun _=>rfl) _
 have w3:((r.fs.map Y8.e).drop k).all (fun e=>e.length==2)=true:=by rw[<-List.map_drop];exact cW (e:=Y8.e) (z:=2) (fun _=>rfl) _
 have t1:List.take (r.fs.length-k) ((r.fs.map Y8.e).drop k)=(r.fs.map Y8.e).drop k:=Zs (by simp)
 have t2:k+1+(r.fs.length-k)=r.fs.length+1:=by omega
 have w4:=cW (e:=Y8.e) (z:=2) (fun _=>rfl) r.fs
 refine aB bh Cl.fin [.f,.t,.t,.t,.f,.f,.t,.f,.t,.t,.f,.f,.f,.f,.f,.f,.f,.f,.f,.f,.f,.f,.f,.f,.f,.f,.f,.f,.f,.f,.f,.f,.f,.f,.f,.f,.f,.f,.f,.f,.f,.f,.f,.f,.f,.f,.f,.f,.f,.f,.f,.f,.f,.f,.f,.f,.f,.f,.f,.f,.f,.f,.f,.f,.f,.f,.f,.f,.f,.f,.f,.f,.f,.f,.f,.f,.f,.f] (fun k=>[(9,aa .i64 k)]) k (fun _=>false) rfl (by simp) (fun j hj _=> ?_) (fun _ _=> ?_)
 ·have af:j<r.fs.length:=by omega
  have l1:=b1 hj af
  simp +contextual (maxSteps:=9^9) [gy,af,l1,aL (n:=r.fs.length) (by unfold maxLen;omega) af,bd af,Y8.e.eq_1 r.fs[j]]
 ·by_cases a8:k<r.fs.length
  ·have l1:=b2 a8
   have hx:=Y8.e.eq_1 r.fs[k]
   by_cases hq:r.fs[k].aE=nm
   ·have hm:=(hs a8 hq).symm
    have hb:(r.fs[k].aE==nm)=true:=by simp[hq]
    cases c1:dX r.fs<;>rw[c1]at e2<;>cases c2:dX F<;>rw[c2]at e3<;>simp +contextual (maxSteps:=9^9) [gy,a8,hx,l1,hb,hm,e2,e3,e1,bd a8]
   ·have hm:=(a2 fun f hf e=>hq (by rw[Zm a8]at hf;cases hf;exact e)).symm
    have hb:(r.fs[k].aE==nm)=false:=by simp[hq]
    cases c1:dX r.fs<;>rw[c1]at e2<;>cases c2:dX F<;>rw[c2]at e3<;>simp +contextual (maxSteps:=9^9) [gy,a8,hx,l1,hb,hm,e2,e3,e1,bd a8,m1,m2,m3,w2,w3,w4,hp,t1,t2]
  ·obtain rfl:k=r.fs.length:=by omega
   have hm:=(a2 fun f hf e=>by rw[ZW (Zn _)]at hf;cases hf).symm
   have ao:(r.fs.map Y8.e).take r.fs.length++[[.str nm, .int .i64 n]]=F.map Y8.e:=by rw[<-hm];simp
   have hF:F.length=r.fs.length+1:=by have:=congrArg List.length ao;simpa using this.symm
   cases c1:dX r.fs<;>rw[c1]at e2<;>cases c2:dX F<;>rw[c2]at e3<;>simp +contextual (maxSteps:=9^9) [gy,hm,ao,hF,e2,e3,e1,m1,m2,m3,w2,w3,w4,t1,t2]
end Gi
