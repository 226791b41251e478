/- A part. -/
import Derived.Test.YtndiampmpmbfoaaGreatGkf
import Derived.Test.YtndiampmpmbfoaaGreatGlM
set_option linter.all false
namespace Gi
open Go Go.RowKit
set_option maxHeartbeats 8000000
set_option maxRecDepth 4000
attribute [local simp] start qh bG cz dk eR dj eQ eW eV se sx sf sy sh sA si sB sj sC sk sD so sE sp sF su sG V.cells plain bA gv isInt isStr isBool bin cu iq cy ir eS un asList L.view al V.view viewL aZ am cD bM bS comp aO bJ cT bW bw bu bv aS aE bT aw aR aW aK br bq ba bz bB V.flat L.flat da df bD putAt thaw thawL thawT V.ow eU dx dy cB eT cC dw freezeVs freezeLs freezeL V.mut L.mut aJ eF gQ be bC aN dC bQ bj bX L.bD aY dq ca dD bU cf wp_seq wp_block bm dA cE bN cF wp_skip wp_exit wp_ret co cH cL cK cP cQ cO bV aM L.bC aV aT aU dz bt storeD bf fm ai ct aA nq L.bG L.closed V.closed PV.bare PV.flat
def QT (o:YD)(k:Nat):Bool:=match o.a9[k]? with
 |some w=> !(yJ w)||(!(w.aY==o.aY)|| !(w.aj==IntKind.i64.wrap (IntKind.i64.wrap (o.ae-(o.a9.length:Int))+(k:Int))))
 |none=>false
def kZ (o:YD):Bool:=rg o.aY 1 1000000&&(rg o.ae 1 1000000&&(!(bO 20 o.a9.length)&& !(gH o.a9.length (QT o))))
def lE {o:YD}(h:o.Ok maxLen):ag Ph aC 407 [o.v]=some (az (kZ o)):=by
 have hl:=h.2.2.1
 refine ae rfl ?_
 simp +contextual (maxSteps:=9^9) [pE]
 refine aB bh Cl.fin [.f,.t,.f,.t,.f,.f,.f,.f,.f,.f,.t,.t,.t,.f,.f,.f,.f,.f,.f,.f,.f,.f,.f,.f,.f,.f,.f,.f,.f,.f,.f,.f,.f,.f,.f,.f,.f,.f,.f,.f,.f,.f,.f,.f,.f,.f,.f,.f,.f,.f,.f] (fun k=>[(12,aa .i64 k)]) o.a9.length (QT o) rfl (by simp) (fun k hk _=> ?_) (fun _ hp=> ?_)
 ·have e1:=kh (h.2.2.2 _ (Zf hk))
  simp +contextual (maxSteps:=9^9) [kl,QT,kZ,hk,e1,aL hl hk,bd hk,Y2.e.eq_1 o.a9[k]]
 ·simp +contextual (maxSteps:=9^9) [kl,hp,kZ,bp]
def pd {o:YD}(h:o.Ok maxLen):ag Ph aC 402 [o.v]=some (az (kZ o)):=by
 have hl:=h.2.2.1
 have e2:=bR o.aY 1 1000000
 have e3:=bR o.ae 1 1000000
 unfold kZ
 refine ae rfl ?_
 cases c1:rg o.aY 1 1000000<;>rw[c1]at e2
 ·simp(maxSteps:=9^9) [iy,e2]
 cases c2:rg o.ae 1 1000000<;>rw[c2]at e3
 ·simp(maxSteps:=9^9) [iy,e2,e3]
 cases c3:bO 20 o.a9.length
 rotate_left
 ·simp(maxSteps:=9^9) [iy,e2,e3,c3]
 simp(maxSteps:=9^9) [iy,e2,e3,c3]
 refine aB bh Cl.fin [.f,.t,.f,.t,.t,.f,.f,.f,.f,.f,.f,.f,.f,.f,.f,.f,.f,.f,.f,.f,.f,.f,.f,.f,.f,.f,.f,.f,.f,.f,.f,.f,.f,.f,.f,.f,.f,.f,.f,.f,.f,.f,.f,.f,.f,.f,.f,.f,.f,.f,.f,.f,.f,.f,.f,.f,.f,.f,.f,.f] (fun k=>[(4,aa .i64 k)]) o.a9.length (QT o) rfl (by simp) (fun k hk _=> ?_) (fun _ hp=> ?_)
 ·have e1:=kj (h.2.2.2 _ (Zf hk))
  simp +contextual (maxSteps:=9^9) [kw,QT,hk,e1,aL hl hk,bd hk,Y2.e.eq_1 o.a9[k]]
 ·simp +contextual (maxSteps:=9^9) [kw,hp]
def vS :List UInt8:=[110,111,116,101,115]
def GI (r:YO):Bool:=dW r.aF&&(r.aF.aE==vS&&(rg r.ar 0 1000000000000&&kZ r.aL.a7))
def Ap {r:YO}(h:r.Ok maxLen):ag Ph aC 398 [r.v]=some (az (GI r)):=by
 have e1:=iA h.1
 have e2:=bp r.ar 0 1000000000000
 have e3:=lE h.2.2.1
 unfold GI
 generalize dW r.aF=b1 at e1⊢
 generalize rg r.ar 0 1000000000000=b2 at e2⊢
 generalize kZ r.aL.a7=b3 at e3⊢
 obtain⟨b4,h4⟩:∃g,(r.aF.aE==vS)=g:=⟨_,rfl⟩
 rw[h4]
 unfold vS at h4
 refine ae rfl ?_
 cases b1<;>cases b2<;>cases b3<;>cases b4<;>simp(maxSteps:=9^9) [oI,e1,e2,e3,h4]
def AQ {r:YO}(h:r.Ok maxLen):ag Ph aC 394 [r.v]=some (az (GI r)):=by
 have e1:=mI h.1
 have e2:=bR r.ar 0 1000000000000
 have e3:=pd h.2.2.1
 unfold GI
 generalize dW r.aF=b1 at e1⊢
 generalize rg r.ar 0 1000000000000=b2 at e2⊢
 generalize kZ r.aL.a7=b3 at e3⊢
 obtain⟨b4,h4⟩:∃g,(r.aF.aE==vS)=g:=⟨_,rfl⟩
 rw[h4]
 unfold vS at h4
 refine ae rfl ?_
 cases b1<;>cases b2<;>cases b3<;>cases b4<;>simp(maxSteps:=9^9) [oV,e1,e2,e3,h4]
def tq (x y:Z6):Bool:=y.aE==x.aE&&(x.b8&&(!y.b8||(!x.av|| !y.av)))
def Od (ls:List Z6)(k:Nat):Bool:=match ls[k]? with
 |some x=> !(uw x.aE)||(!(rg x.b6 1 1000000000000)||gH k (iE (tq x) ls))
 |none=>false
def uy (ls:List Z6):Bool:= !(gH ls.length (Od ls))&& !(bO 12 ls.length)
def xj {ls:List Z6}(hl:ls.length<=maxLen)(h:∀x∈ls,x.Ok maxLen):ag Ph aC 380 [.agg [.pv (.lst (ls.map Z6.e))]]=some (az (uy ls)):=by
 unfold uy
 refine ae rfl ?_
 simp +contextual (maxSteps:=9^9) [mP]
 refine aB bh Cl.fin [.f,.t,.f,.f,.f,.f,.f,.f,.t,.t,.t,.f,.f,.f,.f,.f,.f,.f,.f,.f,.f,.f,.f,.f,.f,.f,.f,.f,.f,.f,.f,.f,.f,.f,.f,.f,.f,.f,.f,.f,.f,.f,.f,.f,.f,.f,.f,.f,.f,.f,.f,.f,.f,.f,.f,.f,.f,.f,.f,.f,.f,.f,.f,.f] (fun k=>[(10,aa .i64 k)]) ls.length (Od ls) rfl (by simp) (fun k hk _=> ?_) (fun _ hp=> ?_)
 ·have e1:=yC (h _ (Zf hk)).1
  have e2:=bp ls[k].b6 1 1000000000000
  have hx:=Z6.e.eq_1 ls[k]
  have w:=cW (e:=Z6.e) (z:=4) (fun _=>rfl) ls
  have hb:Od ls k=(!(uw ls[k].aE)||(!(rg ls[k].b6 1 1000000000000)||gH k (iE (tq ls[k]) ls))):=by simp[Od,hk]
  rw[hb]
  generalize uw ls[k].aE=b1 at e1⊢
  generalize rg ls[k].b6 1 1000000000000=b2 at e2⊢
  cases b1
  ·simp +contextual (maxSteps:=9^9) [eH,hk,hx,e1,bd hk]
  cases b2
  ·simp +contextual (maxSteps:=9^9) [eH,hk,hx,e1,e2,bd hk]
  cases hD:gH k (iE (tq ls[k]) ls)
  ·simp(maxSteps:=9^9) [eH,hk,hx,e1,e2,w,Zd2 hk,bd hk]
   refine aB bh Cl.kn [.f,.t,.f,.f,.t,.f,.f,.f,.t,.t,.t,.f,.f,.f,.f,.f,.f,.f,.f,.f,.f,.f,.f,.f,.f,.f,.f,.f,.t,.t,.t,.f,.f,.f,.f,.f,.f,.f,.f,.f,.f,.f,.f,.f,.f,.f,.f,.f,.f,.f,.f,.f,.f,.f,.f,.f,.f,.f,.f,.f,.f,.f,.f,.f] (fun j=>[(30,aa .i64 j)]) k (iE (tq ls[k]) ls) rfl (by simp) (fun i hi _=> ?_) (fun _ hq=> ?_)
   ·have a6:i<ls.length:=by omega
    simp +contextual (maxSteps:=9^9) [fe,iE,tq,hi,a6,hk,hx,Z6.e.eq_1 ls[i],aL hl a6,bd hi,hD]
   ·simp(maxSteps:=9^9) [fe,aL hl hk]
  ·simp(maxSteps:=9^9) [eH,hk,hx,e1,e2,w,Zd2 hk,bd hk]
   refine aB bh (Cl.imp bh Cl.fin rfl) [.f,.t,.f,.f,.t,.f,.f,.f,.t,.t,.t,.f,.f,.f,.f,.f,.f,.f,.f,.f,.f,.f,.f,.f,.f,.f,.f,.f,.t,.t,.t,.f,.f,.f,.f,.f,.f,.f,.f,.f,.f,.f,.f,.f,.f,.f,.f,.f,.f,.f,.f,.f,.f,.f,.f,.f,.f,.f,.f,.f,.f,.f,.f,.f] (fun j=>[(30,aa .i64 j)]) k (iE (tq ls[k]) ls) rfl (by simp) (fun i hi _=> ?_) (fun _ hq=> ?_)
   ·have a6:i<ls.length:=by omega
    simp +contextual (maxSteps:=9^9) [fe,iE,tq,hi,a6,hk,hx,Z6.e.eq_1 ls[i],aL hl a6,bd hi,hD]
   ·rw[hD]at hq;cases hq
 ·simp(maxSteps:=9^9) [eH,hp]
def xw {ls:List Z6}(hl:ls.length<=maxLen)(h:∀x∈ls,x.Ok maxLen):ag Ph aC 378 [.agg [.pv (.lst (ls.map Z6.e))]]=some (az (uy ls)):=by
 unfold uy
 refine ae rfl ?_
 simp +contextual (maxSteps:=9^9) [m5]
 refine aB bh Cl.fin [.f,.t,.f,.t,.f,.f,.f,.f,.f,.f,.f,.f,.f,.f,.f,.f,.f,.f,.f,.f,.f,.f,.f,.f,.f,.f,.f,.f,.f,.f,.f,.f,.f,.f,.f,.f,.f,.f,.f,.f,.f,.f,.f,.f,.f,.f,.f,.f,.f,.f,.f,.f,.f,.f,.f,.f,.f,.f,.f,.f,.f,.f,.f,.f,.f,.f,.f] (fun k=>[(3,aa .i64 k)]) ls.length (Od ls) rfl (by simp) (fun k hk _=> ?_) (fun _ hp=> ?_)
 ·have e1:=yU (h _ (Zf hk)).1
  have e2:=bR ls[k].b6 1 1000000000000
  have hx:=Z6.e.eq_1 ls[k]
  have hb:Od ls k=(!(uw ls[k].aE)||(!(rg ls[k].b6 1 1000000000000)||gH k (iE (tq ls[k]) ls))):=by simp[Od,hk]
  rw[hb]
  generalize uw ls[k].aE=b1 at e1⊢
  generalize rg ls[k].b6 1 1000000000000=b2 at e2⊢
  cases b1
  ·simp +contextual (maxSteps:=9^9) [eK,hk,hx,e1,bd hk]
  cases b2
  ·simp +contextual (maxSteps:=9^9) [eK,hk,hx,e1,e2,bd hk]
  cases hD:gH k (iE (tq ls[k]) ls)
  ·simp(maxSteps:=9^9) [eK,hk,hx,e1,e2,bd hk]
   refine aB bh Cl.kn [.f,.t,.f,.t,.t,.t,.f,.f,.f,.f,.f,.f,.f,.f,.f,.f,.f,.f,.f,.f,.f,.f,.f,.f,.f,.f,.f,.f,.f,.f,.f,.f,.f,.f,.f,.f,.f,.f,.f,.f,.f,.f,.f,.f,.f,.f,.f,.f,.f,.f,.f,.f,.f,.f,.f,.f,.f,.f,.f,.f,.f,.f,.f,.f,.f,.f,.f] (fun j=>[(5,aa .i64 j)]) k (iE (tq ls[k]) ls) rfl (by simp) (fun i hi _=> ?_) (fun _ hq=> ?_)
   ·have a6:i<ls.length:=by omega
    simp +contextual (maxSteps:=9^9) [fi,iE,tq,hi,a6,hk,hx,Z6.e.eq_1 ls[i],aL hl a6,bd hi,hD]
   ·simp(maxSteps:=9^9) [fi,aL hl hk]
  ·simp(maxSteps:=9^9) [eK,hk,hx,e1,e2,bd hk]
   refine aB bh (Cl.imp bh Cl.fin rfl) [.f,.t,.f,.t,.t,.t,.f,.f,.f,.f,.f,.f,.f,.f,.f,.f,.f,.f,.f,.f,.f,.f,.f,.f,.f,.f,.f,.f,.f,.f,.f,.f,.f,.f,.f,.f,.f,.f,.f,.f,.f,.f,.f,.f,.f,.f,.f,.f,.f,.f,.f,.f,.f,.f,.f,.f,.f,.f,.f,.f,.f,.f,.f,.f,.f,.f,.f] (fun j=>[(5,aa .i64 j)]) k (iE (tq ls[k]) ls) rfl (by simp) (fun i hi _=> ?_) (fun _ hq=> ?_)
   ·have a6:i<ls.length:=by omega
    simp +contextual (maxSteps:=9^9) [fi,iE,tq,hi,a6,hk,hx,Z6.e.eq_1 ls[i],aL hl a6,bd hi,hD]
   ·rw[hD]at hq;cases hq
 ·simp(maxSteps:=9^9) [eK,hp]
def QR (l:List Y6)(k:Nat):Bool:=match l[k]?,l[k-1]? with
 |some x,some y=> !(rg x.aY 1 1000000)||(!(rg x.aj 0 1000000)||(bO 0 k&& !(bO y.aY x.aY)))
 |_,_=>false
def k6 (s:Y3):Bool:= !(gH s.a3.length (QR s.a3))&&(!(gH s.aG.length (iE (fun w=> !(yJ w)) s.aG))&&(dW s.aD&&(s.aD.aE==vS&& !(bO 60 s.a3.length))))
def tD {s:Y3}(h:s.Ok maxLen):ag Ph aC 382 [s.v]=some (az (k6 s)):=by
 obtain⟨h1,⟨h2,h3⟩,h4,h5⟩:=h
 have e1:=iA h1
 have e2:=fun v=>bp v 1 1000000
 have e3:=fun v=>bp v 0 1000000
 unfold k6
 refine ae rfl ?_
 simp +contextual (maxSteps:=9^9) [pG]
 refine aB bh Cl.fin [.f,.t,.f,.f,.f,.f,.f,.f,.t,.t,.t,.f,.f,.f,.f,.f,.f,.f,.f,.f,.f,.f,.f,.f,.f,.f,.f,.f,.f,.f,.f,.f,.f,.f,.f,.f,.f,.f,.f,.f,.f,.f,.f,.f,.f,.f,.f,.f,.f,.f,.f,.f,.f,.f,.f,.f,.f,.f,.f,.f,.f,.f,.f,.f,.f,.f,.f,.f] (fun k=>[(10,aa .i64 k)]) s.a3.length (QR s.a3) rfl (by simp) (fun k hk _=> ?_) (fun _ hp=> ?_)
 ·obtain⟨q1,q2⟩:=xr h2 hk
  simp +contextual (maxSteps:=9^9) [iF,QR,hk,q1,q2,e2,e3,aL h2 hk,bd hk,Y6.e.eq_1 s.a3[k],Y6.e.eq_1 s.a3[k-1]]
 ·simp(maxSteps:=9^9) [iF,hp]
  refine aB bh Cl.fin [.f,.t,.f,.f,.f,.f,.f,.f,.f,.f,.f,.f,.f,.f,.f,.f,.f,.f,.f,.f,.f,.f,.f,.f,.f,.f,.f,.f,.f,.f,.f,.f,.f,.f,.f,.f,.f,.f,.f,.f,.f,.f,.f,.t,.t,.t,.f,.f,.f,.f,.f,.f,.f,.f,.f,.f,.f,.f,.f,.f,.f,.f,.f,.f,.f,.f,.f,.f] (fun k=>[(45,aa .i64 k)]) s.aG.length (iE (fun w=> !(yJ w)) s.aG) rfl (by simp) (fun k hk _=> ?_) (fun _ hp=> ?_)
  ·have e4:=kh (h5 _ (Zf hk))
   simp +contextual (maxSteps:=9^9) [ko,iE,hk,e4,aL h4 hk,bd hk,Y2.e.eq_1 s.aG[k]]
  ·simp +contextual (maxSteps:=9^9) [ko,hp,e1,vS]
def tR {s:Y3}(h:s.Ok maxLen):ag Ph aC 376 [s.v]=some (az (k6 s)):=by
 obtain⟨h1,⟨h2,h3⟩,h4,h5⟩:=h
 have e1:=mI h1
 have e2:=fun v=>bR v 1 1000000
 have e3:=fun v=>bR v 0 1000000
 unfold k6
 refine ae rfl ?_
 simp +contextual (maxSteps:=9^9) [pR]
 refine aB bh Cl.fin [.f,.t,.f,.t,.f,.f,.f,.f,.f,.f,.f,.f,.f,.f,.f,.f,.f,.f,.f,.f,.f,.f,.f,.f,.f,.f,.f,.f,.f,.f,.f,.f,.f,.f,.f,.f,.f,.f,.f,.f,.f,.f,.f,.f,.f,.f,.f,.f,.f,.f,.f,.f,.f,.f,.f,.f,.f,.f,.f,.f,.f,.f,.f,.f,.f,.f,.f,.f,.f,.f,.f,.f,.f,.f,.f,.f,.f,.f,.f] (fun k=>[(3,aa .i64 k)]) s.a3.length (QR s.a3) rfl (by simp) (fun k hk _=> ?_) (fun _ hp=> ?_)
 ·obtain⟨q1,q2⟩:=xr h2 hk
  simp +contextual (maxSteps:=9^9) [iG,QR,hk,q1,q2,e2,e3,aL h2 hk,bd hk,Y6.e.eq_1 s.a3[k],Y6.e.eq_1 s.a3[k-1]]
 ·simp(maxSteps:=9^9) [iG,hp]
  refine aB bh Cl.fin [.f,.t,.f,.f,.t,.f,.f,.f,.f,.f,.f,.f,.f,.f,.f,.f,.f,.f,.f,.f,.f,.f,.f,.f,.f,.f,.f,.f,.f,.f,.f,.f,.f,.f,.f,.f,.f,.f,.f,.f,.f,.f,.f,.f,.f,.f,.f,.f,.f,.f,.f,.f,.f,.f,.f,.f,.f,.f,.f,.f,.f,.f,.f,.f,.f,.f,.f,.f,.f,.f,.f,.f,.f,.f,.f,.f,.f,.f,.f] (fun k=>[(4,aa .i64 k)]) s.aG.length (iE (fun w=> !(yJ w)) s.aG) rfl (by simp) (fun k hk _=> ?_) (fun _ hp=> ?_)
  ·have e4:=kj (h5 _ (Zf hk))
   simp +contextual (maxSteps:=9^9) [kA,iE,hk,e4,aL h4 hk,bd hk,Y2.e.eq_1 s.aG[k]]
  ·simp +contextual (maxSteps:=9^9) [kA,hp,e1,vS]
def S1 (l:List (List UInt8))(k:Nat):Bool:=match l[k]?,l[k-1]? with
 |some x,some y=> !(dg x)||(bO 0 k&& !(Op.bytesLess y x))
 |_,_=>false
def uA (s:Z7):Bool:= !(gH s.ao.length (S1 s.ao))&&(dg s.aE&&(rg s.aB 1 1000000000000&&rg s.ao.length 1 6))
def GE {s:Z7}(h:s.Ok maxLen):ag Ph aC 381 [s.v]=some (az (uA s)):=by
 obtain⟨h1,_,h2,h3⟩:=h
 have e1:=bP h1
 unfold uA
 refine ae rfl ?_
 simp +contextual (maxSteps:=9^9) [sN]
 refine aB bh Cl.fin [.f,.t,.f,.f,.f,.f,.t,.t,.t,.f,.f,.f,.f,.f,.f,.f,.f,.f,.f,.f,.f,.f,.f,.f,.f,.f,.f,.f,.f,.f,.f,.f,.f,.f,.f,.f,.f,.f,.f,.f,.f,.f,.f,.f,.f] (fun k=>[(8,aa .i64 k)]) s.ao.length (S1 s.ao) rfl (by simp) (fun k hk _=> ?_) (fun _ hp=> ?_)
 ·obtain⟨q1,q2⟩:=xr h2 hk
  have e2:=bP (h3 _ (Zf hk))
  simp +contextual (maxSteps:=9^9) [mr,S1,hk,q1,q2,e2,aL h2 hk,bd hk,vW]
 ·simp +contextual (maxSteps:=9^9) [mr,hp,e1,bp]
def He {s:Z7}(h:s.Ok maxLen):ag Ph aC 375 [s.v]=some (az (uA s)):=by
 obtain⟨h1,_,h2,h3⟩:=h
 have e1:=db h1
 unfold uA
 refine ae rfl ?_
 simp +contextual (maxSteps:=9^9) [sR]
 refine aB bh Cl.fin [.f,.t,.f,.t,.f,.f,.f,.f,.f,.f,.f,.f,.f,.f,.f,.f,.f,.f,.f,.f,.f,.f,.f,.f,.f,.f,.f,.f,.f,.f,.f,.f,.f,.f,.f,.f,.f,.f,.f,.f,.f,.f,.f,.f,.f,.f,.f,.f,.f,.f] (fun k=>[(3,aa .i64 k)]) s.ao.length (S1 s.ao) rfl (by simp) (fun k hk _=> ?_) (fun _ hp=> ?_)
 ·obtain⟨q1,q2⟩:=xr h2 hk
  have e2:=db (h3 _ (Zf hk))
  simp +contextual (maxSteps:=9^9) [mC,S1,hk,q1,q2,e2,aL h2 hk,bd hk,vW]
 ·simp +contextual (maxSteps:=9^9) [mC,hp,e1,bR]
def uz (p:Z8):Bool:= !(gH p.ad.length (iE (fun x=> !(dg x.ah)|| !(x.aB==p.aB)) p.ad))&&(rg p.id 1 1000000000000&&(dg p.aR&&(dg p.b4&&(rg p.aB 1 1000000000000&& !(bO 8 p.ad.length)))))
def GD {p:Z8}(h:p.Ok maxLen):ag Ph aC 151 [p.v]=some (az (uz p)):=by
 obtain⟨_,h1,h2,_,⟨h3,h4⟩,_⟩:=h
 have e1:=bP h1
 have e2:=bP h2
 unfold uz
 refine ae rfl ?_
 simp +contextual (maxSteps:=9^9) [sM]
 refine aB bh Cl.fin [.f,.t,.f,.f,.f,.f,.t,.t,.t,.f,.f,.f,.f,.f,.f,.f,.f,.f,.f,.f,.f,.f,.f,.f,.f,.f,.f,.f,.f,.f,.f,.f,.f,.f,.f,.f,.f,.f,.f,.f,.f,.f,.f,.f,.f,.f,.f,.f] (fun k=>[(8,aa .i64 k)]) p.ad.length (iE (fun x=> !(dg x.ah)|| !(x.aB==p.aB)) p.ad) rfl (by simp) (fun k hk _=> ?_) (fun _ hp=> ?_)
 ·have e3:=bP (h4 _ (Zf hk)).1
  simp +contextual (maxSteps:=9^9) [mq,iE,hk,e3,aL h3 hk,bd hk,YH.e.eq_1 p.ad[k]]
 ·simp +contextual (maxSteps:=9^9) [mq,hp,e1,e2,bp]
def Hd {p:Z8}(h:p.Ok maxLen):ag Ph aC 149 [p.v]=some (az (uz p)):=by
 obtain⟨_,h1,h2,_,⟨h3,h4⟩,_⟩:=h
 have e1:=db h1
 have e2:=db h2
 unfold uz
 refine ae rfl ?_
 simp +contextual (maxSteps:=9^9) [sQ]
 refine aB bh Cl.fin [.f,.t,.f,.t,.f,.f,.f,.f,.f,.f,.f,.f,.f,.f,.f,.f,.f,.f,.f,.f,.f,.f,.f,.f,.f,.f,.f,.f,.f,.f,.f,.f,.f,.f,.f,.f,.f,.f,.f,.f,.f,.f,.f,.f,.f,.f,.f,.f,.f,.f,.f,.f,.f,.f] (fun k=>[(3,aa .i64 k)]) p.ad.length (iE (fun x=> !(dg x.ah)|| !(x.aB==p.aB)) p.ad) rfl (by simp) (fun k hk _=> ?_) (fun _ hp=> ?_)
 ·have e3:=db (h4 _ (Zf hk)).1
  simp +contextual (maxSteps:=9^9) [mB,iE,hk,e3,aL h3 hk,bd hk,YH.e.eq_1 p.ad[k]]
 ·simp +contextual (maxSteps:=9^9) [mB,hp,e1,e2,bR]
def Au (b:Y4):Bool:=dg b.aR&&(dg b.b4&&(GH b.b1&&(b.b1.aR==b.aR&&(OJ b.a1.a1&&(OK b.aV.aF&&(GI b.a5&&(rg b.af 0 1000000000000&& !(bO 2500 (NW b:Nat)))))))))
def B7 {b:Y4}(h:b.Ok 1048576):ag Ph aC 387 [b.v]=some (az (Au b)):=by
 have hm:=Y4.Ok.mono (B:=maxLen) (by unfold maxLen;omega) h
 have e1:=bP hm.1
 have e2:=bP hm.2.1
 have e3:=ut hm.2.2.1
 have e5:=yA hm.2.2.2.1
 have e6:=yB (Zn 1048576) h.2.2.2.2.1.1
 have e7:=Ap hm.2.2.2.2.2.1
 have e8:=bp b.af 0 1000000000000
 have e9:=Ed h
 unfold Au
 obtain⟨b4,h4⟩:∃g,(b.b1.aR==b.aR)=g:=⟨_,rfl⟩
 rw[h4]
 generalize dg b.aR=b1 at e1⊢
 generalize dg b.b4=b2 at e2⊢
 generalize GH b.b1=b3 at e3⊢
 generalize OJ b.a1.a1=b5 at e5⊢
 generalize OK b.aV.aF=b6 at e6⊢
 generalize GI b.a5=b7 at e7⊢
 generalize rg b.af 0 1000000000000=b8 at e8⊢
 refine ae rfl ?_
 cases b1
 ·simp(maxSteps:=9^9) [dY,e1]
 cases b2
 ·simp(maxSteps:=9^9) [dY,e1,e2]
 cases b3
 ·simp(maxSteps:=9^9) [dY,e1,e2,e3]
 cases b4
 ·simp(maxSteps:=9^9) [dY,e1,e2,e3,h4]
 cases b5
 ·simp(maxSteps:=9^9) [dY,e1,e2,e3,h4,e5]
 cases b6
 ·simp(maxSteps:=9^9) [dY,e1,e2,e3,h4,e5,e6]
 cases b7
 ·simp(maxSteps:=9^9) [dY,e1,e2,e3,h4,e5,e6,e7]
 cases b8
 ·simp(maxSteps:=9^9) [dY,e1,e2,e3,h4,e5,e6,e7,e8]
 simp(maxSteps:=9^9) [dY,e1,e2,e3,h4,e5,e6,e7,e8,e9]
def CB {b:Y4}(h:b.Ok 1048576):ag Ph aC 384 [b.v]=some (az (Au b)):=by
 have hm:=Y4.Ok.mono (B:=maxLen) (by unfold maxLen;omega) h
 have e1:=db hm.1
 have e2:=db hm.2.1
 have e3:=uJ hm.2.2.1
 have e5:=yS hm.2.2.2.1
 have e6:=yT (Zn 1048576) h.2.2.2.2.1.1
 have e7:=AQ hm.2.2.2.2.2.1
 have e8:=bR b.af 0 1000000000000
 have e9:=Ek h
 unfold Au
 obtain⟨b4,h4⟩:∃g,(b.b1.aR==b.aR)=g:=⟨_,rfl⟩
 rw[h4]
 generalize dg b.aR=b1 at e1⊢
 generalize dg b.b4=b2 at e2⊢
 generalize GH b.b1=b3 at e3⊢
 generalize OJ b.a1.a1=b5 at e5⊢
 generalize OK b.aV.aF=b6 at e6⊢
 generalize GI b.a5=b7 at e7⊢
 generalize rg b.af 0 1000000000000=b8 at e8⊢
 refine ae rfl ?_
 cases b1
 ·simp(maxSteps:=9^9) [dZ,e1]
 cases b2
 ·simp(maxSteps:=9^9) [dZ,e1,e2]
 cases b3
 ·simp(maxSteps:=9^9) [dZ,e1,e2,e3]
 cases b4
 ·simp(maxSteps:=9^9) [dZ,e1,e2,e3,h4]
 cases b5
 ·simp(maxSteps:=9^9) [dZ,e1,e2,e3,h4,e5]
 cases b6
 ·simp(maxSteps:=9^9) [dZ,e1,e2,e3,h4,e5,e6]
 cases b7
 ·simp(maxSteps:=9^9) [dZ,e1,e2,e3,h4,e5,e6,e7]
 cases b8
 ·simp(maxSteps:=9^9) [dZ,e1,e2,e3,h4,e5,e6,e7,e8]
 simp(maxSteps:=9^9) [dZ,e1,e2,e3,h4,e5,e6,e7,e8,e9]
def Oc (l:List Y4)(k:Nat):Bool:=match l[k]?,l[k-1]? with
 |some x,some y=> !(Au x)||(bO 0 k&& !(zo y x))
 |_,_=>false
def Da (l:List Y4):Bool:= !(gH l.length (Oc l))&& !(bO 9 l.length)
def Aq {l:List Y4}(hl:l.length<=1048576)(h:∀x∈l,x.Ok 1048576):ag Ph aC 379 [.agg [.pv (.lst (l.map Y4.e))]]=some (az (Da l)):=by
 have hm:l.length<=maxLen:=by unfold maxLen;omega
 unfold Da
 refine ae rfl ?_
 simp +contextual (maxSteps:=9^9) [oJ]
 refine aB bh Cl.fin [.f,.t,.f,.f,.f,.f,.t,.t,.t,.f,.f,.f,.f,.f,.f,.f,.f,.f,.f,.f,.f,.f,.f,.f,.f,.f,.f,.f,.f,.f,.f,.f,.f,.f,.f,.f] (fun k=>[(8,aa .i64 k)]) l.length (Oc l) rfl (by simp) (fun k hk _=> ?_) (fun _ hp=> ?_)
 ·obtain⟨q1,q2⟩:=xr hm hk
  have e1:=B7 (h _ (Zf hk))
  have e2:=vI l[k-1] l[k]
  have hx:=Y4.e.eq_1 l[k]
  have hy:=Y4.e.eq_1 l[k-1]
  have hb:Oc l k=(!(Au l[k])||(bO 0 k&& !(zo l[k-1] l[k]))):=by simp[Oc,hk,q2]
  rw[hb]
  generalize Au l[k]=b1 at e1⊢
  generalize zo l[k-1] l[k]=b2 at e2⊢
  cases b1
  ·simp +contextual (maxSteps:=9^9) [fZ,hk,hx,e1,aL hm hk,bd hk]
  cases b3:bO 0 k
  ·simp +contextual (maxSteps:=9^9) [fZ,hk,hx,e1,b3,aL hm hk,bd hk]
  have q3:=q1 b3
  cases b2<;>simp +contextual (maxSteps:=9^9) [fZ,hk,q2,q3,hx,hy,e1,e2,b3,aL hm hk,bd hk]
 ·simp(maxSteps:=9^9) [fZ,hp]
def AS {l:List Y4}(hl:l.length<=1048576)(h:∀x∈l,x.Ok 1048576):ag Ph aC 377 [.agg [.pv (.lst (l.map Y4.e))]]=some (az (Da l)):=by
 have hm:l.length<=maxLen:=by unfold maxLen;omega
 unfold Da
 refine ae rfl ?_
 simp +contextual (maxSteps:=9^9) [oW]
 refine aB bh Cl.fin [.f,.t,.f,.t,.f,.f,.f,.f,.f,.f,.f,.f,.f,.f,.f,.f,.f,.f,.f,.f,.f,.f,.f,.f,.f,.f,.f,.f,.f,.f,.f,.f,.f,.f,.f,.f,.f,.f,.f,.f,.f,.f,.f,.f,.f,.f,.f,.f] (fun k=>[(3,aa .i64 k)]) l.length (Oc l) rfl (by simp) (fun k hk _=> ?_) (fun _ hp=> ?_)
 ·obtain⟨q1,q2⟩:=xr hm hk
  have e1:=CB (h _ (Zf hk))
  have e2:=Ez l[k-1] l[k]
  have hx:=Y4.e.eq_1 l[k]
  have hy:=Y4.e.eq_1 l[k-1]
  have hb:Oc l k=(!(Au l[k])||(bO 0 k&& !(zo l[k-1] l[k]))):=by simp[Oc,hk,q2]
  rw[hb]
  generalize Au l[k]=b1 at e1⊢
  generalize zo l[k-1] l[k]=b2 at e2⊢
  cases b1
  ·simp +contextual (maxSteps:=9^9) [f8,hk,hx,e1,aL hm hk,bd hk]
  cases b3:bO 0 k
  ·simp +contextual (maxSteps:=9^9) [f8,hk,hx,e1,b3,aL hm hk,bd hk]
  have q3:=q1 b3
  cases b2<;>simp +contextual (maxSteps:=9^9) [f8,hk,q2,q3,hx,hy,e1,e2,b3,aL hm hk,bd hk]
 ·simp(maxSteps:=9^9) [f8,hp]
def Sa {k:Nat}(hk:k<A7.length)(s:List UInt8):(jS s==(k:Int))=(s==A7[k]):=by
 have bk:k<3:=hk
 by_cases h1:s=[98,97,110,107]
 ·subst h1
  obtain rfl|rfl|rfl:k=0 \/k=1 \/k=2:=by omega
  all_goals rfl
 by_cases h2:s=[110,101,119,115]
 ·subst h2
  obtain rfl|rfl|rfl:k=0 \/k=1 \/k=2:=by omega
  all_goals rfl
 by_cases h3:s=[115,104,111,112]
 ·subst h3
  obtain rfl|rfl|rfl:k=0 \/k=1 \/k=2:=by omega
  all_goals rfl
 have e:jS s= -1:=by simp[jS,dQ,A7,List.findIdx?_cons,h1,h2,h3]
 have q:((-1:Int)==(k:Int))=false:=by rw[beq_eq_false_iff_ne];omega
 rw[e,q]
 symm
 rw[beq_eq_false_iff_ne]
 obtain rfl|rfl|rfl:k=0 \/k=1 \/k=2:=by omega
 ·exact h1
 ·exact h2
 ·exact h3
def EZ (w:YI)(k:Nat):Bool:=match w.aJ[k]?,w.aJ[k-1]? with
 |some x,some y=> !(uz x)||(!(bO x.id w.aH)||((bO 0 k&& !(bO y.id x.id))||bO (dQ (IB x.aR x.b4) w.a8.a2) 0))
 |_,_=>false
def E7 (w:YI)(k:Nat):Bool:=match w.aK[k]?,w.a4[k]?,A7[k]? with
 |some s,some v,some n=> !(uA s)||(!(s.aE==n)|| !(k6 v))
 |_,_,_=>false
def ov (w:YI):Bool:=rg w.al 0 999999990000&&(rg w.aQ 1 1000000&&(Da w.a8.a2&&(!(bO 6 w.aJ.length)&&(rg w.aH 1 1000000000000&&(uy w.aI.aI&&(((w.aK.length:Int)==3)&&(((w.a4.length:Int)==3)&&(!(gH w.aJ.length (EZ w))&& !(gH 3 (E7 w))))))))))
def uQ {w:YI}(h:w.Ok 1048576):ag Ph aC 374 [w.v]=some (az (ov w)):=by
 have hm:w.Ok maxLen:=YI.Ok.mono (by unfold maxLen;omega) h
 obtain⟨_,_,⟨ak,aX⟩,⟨ab,an⟩,_,⟨aq,au⟩,_,⟨b0,ax⟩,bb,ay⟩:=hm
 have e1:=bp w.al 0 999999990000
 have e2:=bp w.aQ 1 1000000
 have e3:=Aq h.2.2.1.1 h.2.2.1.2
 have e5:=bp w.aH 1 1000000000000
 have e6:=xj aq au
 unfold ov
 obtain⟨b4,h4⟩:∃g,bO 6 w.aJ.length=g:=⟨_,rfl⟩
 obtain⟨b7,h7⟩:∃g,((w.aK.length:Int)==3)=g:=⟨_,rfl⟩
 obtain⟨b8,h8⟩:∃g,((w.a4.length:Int)==3)=g:=⟨_,rfl⟩
 rw[h4,h7,h8]
 generalize rg w.al 0 999999990000=b1 at e1⊢
 generalize rg w.aQ 1 1000000=b2 at e2⊢
 generalize Da w.a8.a2=b3 at e3⊢
 generalize rg w.aH 1 1000000000000=b5 at e5⊢
 generalize uy w.aI.aI=b6 at e6⊢
 refine ae rfl ?_
 cases b1
 ·simp(maxSteps:=9^9) [eL,e1]
 cases b2
 ·simp(maxSteps:=9^9) [eL,e1,e2]
 cases b3
 ·simp(maxSteps:=9^9) [eL,e1,e2,e3]
 cases b4
 rotate_left
 ·simp(maxSteps:=9^9) [eL,e1,e2,e3,h4]
 cases b5
 ·simp(maxSteps:=9^9) [eL,e1,e2,e3,h4,e5]
 cases b6
 ·simp(maxSteps:=9^9) [eL,e1,e2,e3,h4,e5,e6]
 cases b7
 ·simp(maxSteps:=9^9) [eL,e1,e2,e3,h4,e5,e6,h7]
 cases b8
 ·simp(maxSteps:=9^9) [eL,e1,e2,e3,h4,e5,e6,h7,h8]
 simp(maxSteps:=9^9) [eL,e1,e2,e3,h4,e5,e6,h7,h8]
 have h7:w.aK.length=3:=by have:=beq_iff_eq.1 h7;omega
 have h8:w.a4.length=3:=by have:=beq_iff_eq.1 h8;omega
 refine aB bh Cl.fin [.f,.t,.f,.f,.f,.f,.f,.f,.f,.f,.f,.f,.f,.f,.f,.f,.f,.f,.f,.f,.f,.f,.f,.f,.f,.f,.f,.f,.f,.f,.f,.f,.f,.f,.f,.f,.f,.f,.f,.f,.f,.f,.f,.f,.f,.f,.f,.f,.f,.f,.f,.f,.f,.f,.t,.t,.t,.f,.f,.f,.f,.f,.f,.f,.f,.f,.f,.f,.f,.f,.f,.f,.f,.f,.f,.f,.f,.f,.f,.f,.f,.f,.f,.f,.f,.f,.f,.f,.f,.f,.f,.f,.f,.f,.f,.f,.f,.f,.f,.f,.f,.f,.f,.f,.f,.f,.f,.f,.f,.f,.f,.f,.f,.f,.f,.f,.f,.f,.f,.f,.f,.f,.f,.f,.f,.f] (fun k=>[(56,aa .i64 k)]) w.aJ.length (EZ w) rfl (by simp) (fun k hk _=> ?_) (fun _ hp=> ?_)
 ·obtain⟨q1,q2⟩:=xr ab hk
  have e7:=GD (an _ (Zf hk))
  have e8:=m7 ak w.aJ[k].aR w.aJ[k].b4
  have hx:=Z8.e.eq_1 w.aJ[k]
  have hy:=Z8.e.eq_1 w.aJ[k-1]
  have hb:EZ w k=(!(uz w.aJ[k])||(!(bO w.aJ[k].id w.aH)||((bO 0 k&& !(bO w.aJ[k-1].id w.aJ[k].id))||bO (dQ (IB w.aJ[k].aR w.aJ[k].b4) w.a8.a2) 0))):=by simp[EZ,hk,q2]
  rw[hb]
  generalize uz w.aJ[k]=b9 at e7⊢
  generalize dQ (IB w.aJ[k].aR w.aJ[k].b4) w.a8.a2=F at e8⊢
  cases b9
  ·simp +contextual (maxSteps:=9^9) [ff,hk,hx,e7,aL ab hk,bd hk]
  cases c1:bO w.aJ[k].id w.aH
  ·simp +contextual (maxSteps:=9^9) [ff,hk,hx,e7,c1,aL ab hk,bd hk]
  cases c2:bO 0 k
  ·simp +contextual (maxSteps:=9^9) [ff,hk,hx,e7,e8,c1,c2,aL ab hk,bd hk]
  have q3:=q1 c2
  simp +contextual (maxSteps:=9^9) [ff,hk,q2,q3,hx,hy,e7,e8,c1,c2,aL ab hk,bd hk]
 ·simp(maxSteps:=9^9) [ff,hp]
  refine aB bh Cl.fin [.f,.t,.f,.f,.f,.f,.f,.f,.f,.f,.f,.f,.f,.f,.f,.f,.f,.f,.f,.f,.f,.f,.f,.f,.f,.f,.f,.f,.f,.f,.f,.f,.f,.f,.f,.f,.f,.f,.f,.f,.f,.f,.f,.f,.f,.f,.f,.f,.f,.f,.f,.f,.f,.f,.f,.f,.f,.f,.f,.f,.f,.f,.f,.f,.f,.f,.f,.f,.f,.f,.f,.f,.f,.f,.f,.f,.f,.f,.f,.f,.f,.f,.f,.f,.f,.f,.f,.f,.f,.f,.f,.f,.f,.f,.f,.f,.f,.f,.f,.t,.t,.t,.f,.f,.f,.f,.f,.f,.f,.f,.f,.f,.f,.f,.f,.f,.f,.f,.f,.f,.f,.f,.f,.f,.f,.f] (fun k=>[(101,aa .i64 k)]) 3 (E7 w) rfl (by simp) (fun k hk _=> ?_) (fun _ hp=> ?_)
  ·have k1:k<w.aK.length:=by omega
   have k2:k<w.a4.length:=by omega
   have k3:k<A7.length:=hk
   have l3:bO (k:Int) 3=true:=gB (by omega)
   have ws:=aL (n:=3) (by decide) hk
   have e7:=GE (ax _ (Zf k1))
   have e8:=tD (ay _ (Zf k2))
   have hx:=Z7.e.eq_1 w.aK[k]
   have hy:=Y3.e.eq_1 w.a4[k]
   have e9:=m8 w.aK[k].aE
   have bc:=Sa k3 w.aK[k].aE
   have hb:E7 w k=(!(uA w.aK[k])||(!(w.aK[k].aE==A7[k])|| !(k6 w.a4[k]))):=by simp[E7,k1,k2,k3]
   rw[hb]
   generalize uA w.aK[k]=b9 at e7⊢
   generalize k6 w.a4[k]=bg at e8⊢
   rw[<-bc]
   generalize jS w.aK[k].aE=F at e9⊢
   obtain⟨aP,h9⟩:∃g,(F==(k:Int))=g:=⟨_,rfl⟩
   rw[h9]
   cases b9
   ·simp +contextual (maxSteps:=9^9) [gV,hk,k1,hx,e7,ws,l3,h7,h8]
   cases aP
   ·simp +contextual (maxSteps:=9^9) [gV,hk,k1,k3,hx,e7,e9,h9,vW,ws,l3,h7,h8]
   simp +contextual (maxSteps:=9^9) [gV,hk,k1,k2,k3,hx,hy,e7,e8,e9,h9,vW,ws,l3,h7,h8]
  ·simp(maxSteps:=9^9) [gV,hp,h7,h8,show bO 3 3=false from rfl]
def uV {w:YI}(h:w.Ok 1048576):ag Ph aC 373 [w.v]=some (az (ov w)):=by
 have hm:w.Ok maxLen:=YI.Ok.mono (by unfold maxLen;omega) h
 obtain⟨_,_,⟨ak,aX⟩,⟨ab,an⟩,_,⟨aq,au⟩,_,⟨b0,ax⟩,bb,ay⟩:=hm
 have e1:=bR w.al 0 999999990000
 have e2:=bR w.aQ 1 1000000
 have e3:=AS h.2.2.1.1 h.2.2.1.2
 have e5:=bR w.aH 1 1000000000000
 have e6:=xw aq au
 unfold ov
 obtain⟨b4,h4⟩:∃g,bO 6 w.aJ.length=g:=⟨_,rfl⟩
 obtain⟨b7,h7⟩:∃g,((w.aK.length:Int)==3)=g:=⟨_,rfl⟩
 obtain⟨b8,h8⟩:∃g,((w.a4.length:Int)==3)=g:=⟨_,rfl⟩
 rw[h4,h7,h8]
 generalize rg w.al 0 999999990000=b1 at e1⊢
 generalize rg w.aQ 1 1000000=b2 at e2⊢
 generalize Da w.a8.a2=b3 at e3⊢
 generalize rg w.aH 1 1000000000000=b5 at e5⊢
 generalize uy w.aI.aI=b6 at e6⊢
 refine ae rfl ?_
 cases b7
 ·simp(maxSteps:=9^9) [jp,h7]
 cases b8
 ·simp(maxSteps:=9^9) [jp,h7,h8]
 cases b4
 rotate_left
 ·simp(maxSteps:=9^9) [jp,h4,h7,h8]
 simp(maxSteps:=9^9) [jp,h4,h7,h8]
 have h7:w.aK.length=3:=by have:=beq_iff_eq.1 h7;omega
 have h8:w.a4.length=3:=by have:=beq_iff_eq.1 h8;omega
 refine aB bh Cl.fin [.f,.t,.f,.t,.f,.f,.f,.f,.f,.f,.f,.f,.f,.f,.f,.f,.f,.f,.f,.f,.f,.f,.f,.f,.f,.f,.f,.f,.f,.f,.f,.f,.f,.f,.f,.f,.f,.f,.f,.f,.f,.f,.f,.f,.f,.f,.f,.f,.f,.f,.f,.f,.f,.f,.f,.f,.f,.f,.f,.f,.f,.f,.f,.f,.f,.f,.f,.f,.f,.f,.f,.f,.f,.f,.f,.f,.f,.f,.f,.f,.f,.f,.f,.f,.f,.f,.f,.f,.f,.f,.f,.f,.f,.f,.f,.f,.f,.f,.f,.f,.f,.f,.f,.f,.f,.f,.f,.f,.f,.f,.f,.f,.f,.f,.f,.f,.f,.f,.f,.f,.f,.f,.f,.f,.f,.f] (fun k=>[(3,aa .i64 k)]) 3 (E7 w) rfl (by simp) (fun k hk _=> ?_) (fun _ hp=> ?_)
 ·have k1:k<w.aK.length:=by omega
  have k2:k<w.a4.length:=by omega
  have k3:k<A7.length:=hk
  have l3:bO (k:Int) 3=true:=gB (by omega)
  have ws:=aL (n:=3) (by decide) hk
  have e7:=He (ax _ (Zf k1))
  have e8:=tR (ay _ (Zf k2))
  have hx:=Z7.e.eq_1 w.aK[k]
  have hy:=Y3.e.eq_1 w.a4[k]
  have e9:=tT
  have hb:E7 w k=(!(uA w.aK[k])||(!(w.aK[k].aE==A7[k])|| !(k6 w.a4[k]))):=by simp[E7,k1,k2,k3]
  rw[hb]
  generalize uA w.aK[k]=b9 at e7⊢
  generalize k6 w.a4[k]=bg at e8⊢
  obtain⟨aP,h9⟩:∃g,(w.aK[k].aE==A7[k])=g:=⟨_,rfl⟩
  rw[h9]
  cases b9
  ·simp +contextual (maxSteps:=9^9) [f9,hk,k1,hx,e7,ws,l3,h7,h8]
  cases aP
  ·simp +contextual (maxSteps:=9^9) [f9,hk,k1,k3,hx,e7,e9,h9,vW,ws,l3,h7,h8]
  simp +contextual (maxSteps:=9^9) [f9,hk,k1,k2,k3,hx,hy,e7,e8,e9,h9,vW,ws,l3,h7,h8]
 ·simp(maxSteps:=9^9) [f9,hp,h7,h8,show bO 3 3=false from rfl]
  refine aB bh Cl.fin [.f,.t,.f,.f,.t,.f,.f,.f,.f,.f,.f,.f,.f,.f,.f,.f,.f,.f,.f,.f,.f,.f,.f,.f,.f,.f,.f,.f,.f,.f,.f,.f,.f,.f,.f,.f,.f,.f,.f,.f,.f,.f,.f,.f,.f,.f,.f,.f,.f,.f,.f,.f,.f,.f,.f,.f,.f,.f,.f,.f,.f,.f,.f,.f,.f,.f,.f,.f,.f,.f,.f,.f,.f,.f,.f,.f,.f,.f,.f,.f,.f,.f,.f,.f,.f,.f,.f,.f,.f,.f,.f,.f,.f,.f,.f,.f,.f,.f,.f,.f,.f,.f,.f,.f,.f,.f,.f,.f,.f,.f,.f,.f,.f,.f,.f,.f,.f,.f,.f,.f,.f,.f,.f,.f,.f,.f] (fun k=>[(4,aa .i64 k)]) w.aJ.length (EZ w) rfl (by simp) (fun k hk _=> ?_) (fun _ hp=> ?_)
  ·obtain⟨q1,q2⟩:=xr ab hk
   have e7:=Hd (an _ (Zf hk))
   have e8:=ng ak w.aJ[k].aR w.aJ[k].b4
   have hx:=Z8.e.eq_1 w.aJ[k]
   have hy:=Z8.e.eq_1 w.aJ[k-1]
   have hb:EZ w k=(!(uz w.aJ[k])||(!(bO w.aJ[k].id w.aH)||((bO 0 k&& !(bO w.aJ[k-1].id w.aJ[k].id))||bO (dQ (IB w.aJ[k].aR w.aJ[k].b4) w.a8.a2) 0))):=by simp[EZ,hk,q2]
   rw[hb]
   generalize uz w.aJ[k]=b9 at e7⊢
   generalize dQ (IB w.aJ[k].aR w.aJ[k].b4) w.a8.a2=F at e8⊢
   cases b9
   ·simp +contextual (maxSteps:=9^9) [dO,hk,hx,e7,aL ab hk,bd hk]
   cases c1:bO w.aJ[k].id w.aH
   ·simp +contextual (maxSteps:=9^9) [dO,hk,hx,e7,c1,aL ab hk,bd hk]
   cases c2:bO 0 k
   ·simp +contextual (maxSteps:=9^9) [dO,hk,hx,e7,e8,c1,c2,aL ab hk,bd hk]
   have q3:=q1 c2
   simp +contextual (maxSteps:=9^9) [dO,hk,q2,q3,hx,hy,e7,e8,c1,c2,aL ab hk,bd hk]
  ·cases b1
   ·simp(maxSteps:=9^9) [dO,hp,e1]
   cases b2
   ·simp(maxSteps:=9^9) [dO,hp,e1,e2]
   cases b3
   ·simp(maxSteps:=9^9) [dO,hp,e1,e2,e3]
   cases b5
   ·simp(maxSteps:=9^9) [dO,hp,e1,e2,e3,e5]
   simp(maxSteps:=9^9) [dO,hp,e1,e2,e3,e5,e6]
end Gi
