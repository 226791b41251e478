/- A part. -/
import Derived.Test.YtndiampmpmbfoaaGreatGkc
import Derived.Test.YtndiampmpmbfoaaGreatGka
set_option linter.all false
namespace Gi
open Go Go.RowKit
set_option maxHeartbeats 8000000
set_option maxRecDepth 4000
attribute [local simp] start qh bG cz dk eR dj eQ eW eV se sx sf sy sh sA si sB sj sC sk sD so sE sp sF su sG V.cells plain bA gv isInt isStr isBool bin cu iq cy ir eS un asList L.view al V.view viewL aZ am cD bM bS comp aO bJ cT bW bw bu bv aS aE bT aw aR aW aK br bq ba bz bB V.flat L.flat da df bD putAt thaw thawL thawT V.ow eU dx dy cB eT cC dw freezeVs freezeLs freezeL V.mut L.mut aJ eF gQ be bC aN dC bQ bj bX L.bD aY dq ca dD bU cf wp_seq wp_block bm dA cE bN cF wp_skip wp_exit wp_ret co cH cL cK cP cQ cO bV aM L.bC aV aT aU dz bt storeD bf fm ai ct aA nq L.bG L.closed V.closed PV.bare PV.flat
def HS (xs:List Y1)(k:Nat):Bool:=match xs[k]?,xs[k-1]? with
 |some x,some y=> !(kD x.aX)||(!(dX x.aq.fs)||(bO 0 k&& !(bO (tt y.aX x.aX) 0)))
 |_,_=>false
def dW (s:Y7):Bool:= !(gH s.a0.length (HS s.a0))&&(dg s.aE&&(!(bO 16 s.a0.length)&&rg s.aT 0 1000000))
def iA {s:Y7}(h:s.Ok maxLen):ag Ph aC 354 [s.v]=some (az (dW s)):=by
 refine ae rfl ?_
 simp +contextual (maxSteps:=9^9) [qr]
 refine aB bh Cl.fin [.f,.t,.f,.f,.f,.f,.t,.t,.t,.f,.f,.f,.f,.f,.f,.f,.f,.f,.f,.f,.f,.f,.f,.f,.f,.f,.f,.f,.f,.f,.f,.f,.f,.f,.f,.f,.f,.f,.f,.f,.f,.f,.f,.f,.f,.f,.f,.f,.f,.f,.f,.f,.f,.f,.f] (fun k=>[(8,aa .i64 k)]) s.a0.length (HS s.a0) rfl (by simp) (fun k hk _=> ?_) (fun _ hp=> ?_)
 ·obtain⟨q1,q2⟩:=xr h.2.1.1 hk
  obtain⟨h1,h2⟩:=h.2.1.2 _ (Zf hk)
  have h3:=(h.2.1.2 _ (Zf q2)).1
  have e1:=lF h2
  have e2:=ja h3 h1
  simp +contextual (maxSteps:=9^9) [lA,HS,dW,hk,q1,q2,aL h.2.1.1 hk,bd hk,Y1.e.eq_1 s.a0[k],Y1.e.eq_1 s.a0[k-1],mc h1,e1,e2]
 ·simp +contextual (maxSteps:=9^9) [lA,dW,hp,bP h.1,bp]
def mI {s:Y7}(h:s.Ok maxLen):ag Ph aC 350 [s.v]=some (az (dW s)):=by
 refine ae rfl ?_
 simp +contextual (maxSteps:=9^9) [qx]
 refine aB bh Cl.fin [.f,.t,.f,.t,.f,.f,.f,.f,.f,.f,.f,.f,.f,.f,.f,.f,.f,.f,.f,.f,.f,.f,.f,.f,.f,.f,.f,.f,.f,.f,.f,.f,.f,.f,.f,.f,.f,.f,.f,.f,.f,.f,.f,.f,.f,.f,.f,.f,.f,.f,.f,.f,.f,.f,.f,.f,.f,.f,.f,.f,.f,.f,.f,.f] (fun k=>[(3,aa .i64 k)]) s.a0.length (HS s.a0) rfl (by simp) (fun k hk _=> ?_) (fun _ hp=> ?_)
 ·obtain⟨q1,q2⟩:=xr h.2.1.1 hk
  obtain⟨h1,h2⟩:=h.2.1.2 _ (Zf hk)
  have h3:=(h.2.1.2 _ (Zf q2)).1
  have e1:=jv h2
  have e2:=jb h3 h1
  simp +contextual (maxSteps:=9^9) [lB,HS,dW,hk,q1,q2,aL h.2.1.1 hk,bd hk,Y1.e.eq_1 s.a0[k],Y1.e.eq_1 s.a0[k-1],mi h1,e1,e2]
 ·simp +contextual (maxSteps:=9^9) [lB,dW,hp,db h.1,bR]
structure ZC where
 hasLow:Bool
 hasHigh:Bool
 low:YL
 high:YL
abbrev ZC.v (r:ZC):V:= .agg [.pv (.bool r.hasLow), .pv (.bool r.hasHigh), .pv (.int .i64 r.low.aS), .pv (.int .i64 r.low.n), .pv (.str r.low.aa), .pv (.int .i64 r.high.aS), .pv (.int .i64 r.high.n), .pv (.str r.high.aa)]
def ZC.Ok (r:ZC):Prop:=r.low.Ok maxLen/\ r.high.Ok maxLen
def Bc (a b:List UInt8):Lib.compareBytes b a= -Lib.compareBytes a b:=by
 rw[iH a b,iH b a]
 have h1:=qY a b
 cases h2:Op.bytesLess a b<;>cases h3:Op.bytesLess b a<;>simp[h2,h3]at h1⊢
def Ta (a b:YL):tt b a= -tt a b:=by
 unfold tt
 rw[Bc a.aa b.aa]
 grind [VP,bO]
def UZ (n:List UInt8)(x:Y7):Bool:=x.aE==n
def Ao {d:YF}(h:d.aA.length<=maxLen)(n:List UInt8):ag Ph aC 404 [d.v,eE n]=some (aa .i64 (dQ (UZ n) d.aA)):=by
 have e1:=yK (e:=Y7.e) (p:=UZ n) (xs:=d.aA) (k:=410) (z:=3) (kc:=411) (caps:=[[.str n]]) rfl h (fun _=>rfl) (fun x _=>by
  refine ae rfl ?_
  simp +contextual (maxSteps:=9^9) [mO,Y7.e.eq_1,tm,UZ])
 refine ae rfl ?_
 simp +contextual (maxSteps:=9^9) [oH,kQ,pY,e1]
def AP {d:YF}(h:d.aA.length<=maxLen)(n:List UInt8):ag Ph aC 400 [d.v,eE n]=some (aa .i64 (dQ (UZ n) d.aA)):=by
 refine ae rfl ?_
 simp +contextual (maxSteps:=9^9) [oU]
 refine aB bh Cl.fin [.f,.t,.t,.f,.f,.t,.f,.f,.f,.f,.f,.f,.f,.f,.f,.f,.f,.f,.f,.f,.f,.f] (fun k=>[(5,aa .i64 k)]) d.aA.length (iE (UZ n) d.aA) rfl (by simp) (fun k hk hj=> ?_) (fun hj _=> ?_)
 ·have hf:=tb hk hj
  simp +contextual (maxSteps:=9^9) [jL,iE,UZ,hk,hf,aL h hk,bd hk,Y7.e.eq_1 d.aA[k]]
 ·simp +contextual (maxSteps:=9^9) [jL,ta hj]
def Ci (q:YL)(x:Y1):Bool:=x.aX.aS==q.aS&&(x.aX.n==q.n&&x.aX.aa==q.aa)
def tC {s:Y7}(h:s.a0.length<=maxLen)(q:YL):ag Ph aC 188 [s.v,q.v]=some (aa .i64 (dQ (Ci q) s.a0)):=by
 have e1:=yK (e:=Y1.e) (p:=Ci q) (xs:=s.a0) (k:=215) (z:=4) (kc:=216) (caps:=[[.int .i64 q.aS, .int .i64 q.n, .str q.aa]]) rfl h (fun _=>rfl) (fun x _=>by
  refine ae rfl ?_
  simp +contextual (maxSteps:=9^9) [nE,Y1.e.eq_1,tm,Ci,p5,PT])
 refine ae rfl ?_
 simp +contextual (maxSteps:=9^9) [pD,kQ,pY,e1]
def tQ {s:Y7}(h:s.a0.length<=maxLen)(q:YL):ag Ph aC 184 [s.v,q.v]=some (aa .i64 (dQ (Ci q) s.a0)):=by
 refine ae rfl ?_
 simp +contextual (maxSteps:=9^9) [pO]
 refine aB bh Cl.fin [.f,.f,.t,.t,.f,.t,.f,.f,.f,.f,.f,.f,.f,.f,.f,.f,.f,.f,.f,.f,.f,.f] (fun k=>[(5,aa .i64 k)]) s.a0.length (iE (Ci q) s.a0) rfl (by simp) (fun k hk hj=> ?_) (fun hj _=> ?_)
 ·have hf:=tb hk hj
  simp +contextual (maxSteps:=9^9) [kq,iE,Ci,hk,hf,aL h hk,bd hk,Y1.e.eq_1 s.a0[k],p5,PT]
 ·simp +contextual (maxSteps:=9^9) [kq,ta hj]
def isF (n:List UInt8)(x:Y8):Bool:=x.aE==n
def rJ (fs:List Y8)(n:List UInt8):Int×Bool:=match fs.find? (isF n)with
 |some x=>(x.n,true)
 |none=>(0,false)
def Wf {fs:List Y8}{n:List UInt8}{k:Nat}(hk:k<fs.length)(hj:∀j,j<k->iE (isF n) fs j=false)(h:isF n fs[k]=true):rJ fs n=(fs[k].n,true):=by
 have:fs.find? (isF n)=some fs[k]:=by
  rw[Zd1]
  refine⟨h,k,hk,rfl,fun j bo=> ?_⟩
  have h1:j<fs.length:=by omega
  have:=hj j bo
  simpa[iE,h1]using this
 simp[rJ,this]
def We {fs:List Y8}{n:List UInt8}(hj:∀j,j<fs.length->iE (isF n) fs j=false):rJ fs n=(0,false):=by
 have:fs.find? (isF n)=none:=by
  rw[List.find?_eq_none]
  intro x hx
  obtain⟨j,h1,rfl⟩:=I'.1 hx
  have:=hj j h1
  simpa[iE,h1]using this
 simp[rJ,this]
abbrev XA (x:Int×Bool):V:= .b9 [(false,[.pv (.int .i64 x.1)]),(false,[.pv (.bool x.2)])]
def uR {r:Z4}(h:r.fs.length<=maxLen)(n:List UInt8):ag Ph aC 217 [r.v,eE n]=some (aa .i64 (dQ (isF n) r.fs)):=by
 have e1:=yK (e:=Y8.e) (p:=isF n) (xs:=r.fs) (k:=240) (z:=2) (kc:=241) (caps:=[[.str n]]) rfl h (fun _=>rfl) (fun x _=>by
  refine ae rfl ?_
  simp +contextual (maxSteps:=9^9) [oQ,Y8.e.eq_1,tm,isF])
 refine ae rfl ?_
 simp +contextual (maxSteps:=9^9) [qv,kQ,pY,e1]
def ju {r:Z4}(h:r.fs.length<=maxLen)(n:List UInt8):ag Ph aC 186 [r.v,eE n]=some (XA (rJ r.fs n)):=by
 refine ae rfl ?_
 simp +contextual (maxSteps:=9^9) [pP]
 refine aB bh Cl.fin [.f,.t,.t,.f,.f,.f,.t,.f,.f,.f,.f,.f,.f,.f,.f,.f,.f,.f,.f,.f,.f,.f,.f,.f,.f,.f,.f,.f] (fun k=>[(6,aa .i64 k)]) r.fs.length (iE (isF n) r.fs) rfl (by simp) (fun k hk hj=> ?_) (fun hj _=> ?_)
 ·have hf:=Wf hk hj
  simp +contextual (maxSteps:=9^9) [ku,iE,isF,hk,hf,aL h hk,bd hk,Y8.e.eq_1 r.fs[k]]
 ·simp +contextual (maxSteps:=9^9) [ku,We hj]
def Rx (fs:List Y8)(n:List UInt8):(dQ (isF n) fs= -1/\ rJ fs n=(0,false)) \/∃j,∃hj:j<fs.length,dQ (isF n) fs=(j:Int)/\ rJ fs n=(fs[j].n,true):=by
 unfold dQ rJ
 cases h:fs.findIdx? (isF n)with
 |none=>
  have:fs.find? (isF n)=none:=by rw[Zb1]at h;rw[List.find?_eq_none];exact fun x hx=>by simp[h x hx]
  simp[this]
 |some i=>
  rw[ZV]at h
  obtain⟨h1,h2,h3⟩:=h
  have:fs.find? (isF n)=some fs[i]:=by
   rw[Zd1]
   exact⟨h2,i,h1,rfl,fun j hj=>by simpa using h3 j hj⟩
  exact .inr ⟨i,h1,rfl,by simp[this]⟩
def js {r:Z4}(h:r.fs.length<=maxLen)(n:List UInt8):ag Ph aC 190 [r.v,eE n]=some (XA (rJ r.fs n)):=by
 have e1:=uR h n
 rcases Rx r.fs n with⟨h1,h2⟩|⟨j,hj,h1,h2⟩<;>rw[h1]at e1<;>rw[h2]
 all_goals refine ae rfl ?_
 ·simp +contextual (maxSteps:=9^9) [mE,e1,bO]
 ·simp +contextual (maxSteps:=9^9) [mE,e1,bO,hj,Y8.e.eq_1 r.fs[j]]
end Gi
namespace Gi
open Go Go.RowKit
set_option maxHeartbeats 4000000
def SA :Nat->Nat->List UInt8
 |0,_=>[]
 |f+1,n=>if n<128 then [UInt8.ofNat n]else UInt8.ofNat (n%128+128)::SA f (n/128)
def t9 (n:Nat):List UInt8:=SA 6 n
def QF :∀(f n:Nat),(SA f n).length<=f
 |0,n=>by simp[SA]
 |f+1,n=>by
  have:=QF f (n/128)
  unfold SA
  split<;>simp<;>omega
def uN (n:Nat):(t9 n).length<=6:=QF 6 n
def Jw {n:Nat}(h:n<128):(t9 n).length=1:=by simp[t9,SA,h]
def LB (s:List UInt8):List UInt8:=t9 s.length++s
def WN (x:Nat):List UInt8:=[UInt8.ofNat (x/1099511627776),UInt8.ofNat (x/4294967296),UInt8.ofNat (x/16777216),UInt8.ofNat (x/65536),UInt8.ofNat (x/256),UInt8.ofNat x]
def nC (k:YL):List UInt8:=if kD k=true then UInt8.ofNat k.aS.toNat::((if k.aS=2 then []else WN (k.n+1000000000000).toNat)++k.aa)else []
def uG {n a b:Int}:rg n a b=true↔a<=n/\ n<=b:=by simp[rg,bO]
def tG {k:YL}(h:kD k=true):1<=k.aS/\ k.aS<=3/\ -1000000000000<=k.n/\ k.n<=1000000000000/\ (k.aS=2->k.n=0)/\ k.aa.length<=12:=by
 unfold kD vN at h
 simp only[Zh,uG,Zc1,ZJ,beq_eq_false_iff_ne,beq_iff_eq]at h
 obtain⟨⟨⟨⟨⟨h1,h2⟩,h3,h4⟩,h5⟩,_,h6⟩,_⟩:=h
 have:=of_decide_eq_false h6
 exact⟨h1,h2,h3,h4,fun q=>h5.resolve_left (fun z=>z q),by omega⟩
def Ft (k:YL):(nC k).length<=19:=by
 unfold nC
 split
 ·rename_i h
  have:=(tG h).2.2.2.2.2
  split<;>simp[WN]<;>omega
 ·simp
def UM (f:Y8):List UInt8:=LB f.aE++t9 f.n.toNat
def jB (l:List Y8):List UInt8:=l.flatMap UM
def vd (r:Z4):List UInt8:=if dX r.fs=true then t9 r.fs.length++jB r.fs else []
def Yi (f:Y8):Prop:=f.aE.length<=8/\ 0<=f.n/\ f.n<=1000000000000
def yI {s:List UInt8}(h:dg s=true):1<=s.length/\ s.length<=8:=by
 simp only[dg,qX,Zh,uG]at h
 omega
def wY {r:Z4}(h:dX r.fs=true):r.fs.length<=6/\ ∀f∈r.fs,Yi f:=by
 simp only[dX,Zh,ZJ]at h
 have hl:=of_decide_eq_false h.2
 refine⟨by omega,fun f m=> ?_⟩
 obtain⟨j,hj,rfl⟩:=I'.1 m
 have:=uc h.1 hj
 simp only[LS,hj,show j-1<r.fs.length by omega,Zm,K',Za2,uG]at this
 have q:=yI this.1
 exact⟨q.2,this.2.1.1,by omega⟩
def wM :∀(l:List Y8),(∀f∈l,Yi f)->(jB l).length<=15*l.length
 |[],h=>by simp[jB]
 |f::l,h=>by
  have ih:=wM l (fun g m=>h g (by simp[m]))
  have h1:=(h f (by simp)).1
  have h2:=Jw (n:=f.aE.length) (by omega)
  have h3:=uN f.n.toNat
  simp only[jB,Y',UM,LB,Zu,Zo]at ih⊢
  omega
def Fu (r:Z4):(vd r).length<=91:=by
 unfold vd
 split
 ·rename_i h
  obtain⟨h1,h2⟩:=wY h
  have:=wM r.fs h2
  have:=Jw (n:=r.fs.length) (by omega)
  simp only[Zu]
  omega
 ·simp
structure Raw where
 aS:Nat
 a:List UInt8
 b:List UInt8
 c:List UInt8
 d:List UInt8
structure XOp where
 aS:Int
 aD:List UInt8
 aX:YL
 aq:Z4
 aP:List UInt8
def XOp.e (x:XOp):List PV:=[.int .i64 x.aS, .str x.aD, .int .i64 x.aX.aS, .int .i64 x.aX.n, .str x.aX.aa, .lst (x.aq.fs.map Y8.e), .str x.aP]
abbrev XOp.v (x:XOp):V:= .agg [.pv (.int .i64 x.aS), .pv (.str x.aD), .pv (.int .i64 x.aX.aS), .pv (.int .i64 x.aX.n), .pv (.str x.aX.aa), .pv (.lst (x.aq.fs.map Y8.e)), .pv (.str x.aP)]
def XOp.Ok (B:Nat)(x:XOp):Prop:=me x.aS/\ x.aD.length<=B/\ x.aX.Ok B/\ x.aq.Ok B/\ x.aP.length<=B
end Gi
namespace Gi
open Go Go.RowKit
set_option maxHeartbeats 8000000
set_option maxRecDepth 4000
attribute [local simp] start ah aG bc bG cz Opd.ev put V.cells plain bA gv isInt isStr isBool bin cG qm ql un asList L.view al V.view viewL aZ am cj bS comp aO bJ cT bW bw bu bv aS aE bT aw aR aW aK br bq ba bz bB V.flat L.flat da df bD putAt thaw thawL thawT freezeVs freezeLs freezeL V.mut L.mut aJ aY dq ca dD bU cf wp_seq wp_block qg wp_cond wp_skip wp_exit wp_ret co cH cL cK cP cQ cO bV aM L.bC aV aT aU fa bt storeD bf fm ai ct aA nq L.bG L.closed V.closed PV.bare PV.flat
def bZ {s:List UInt8}:(ar s).length=s.length:=by simp[ar]
structure YU (z:Nat) (R:List (List PV)):Prop where
 flat:nY R=true
 wid:(R.all fun r=>r.length==z)=true
 len:R.length<=1048576
def n5 {R:List (List PV)}(h:YU 1 R):ag Ph aC 261 [bY R]=some (.one (.down 1 R)):=by
 have hf:=h.flat
 have hw:=h.wid
 have m:=ez (m:=R.length) (z:=1) (by have:=h.len;omega) (by omega)
 rw[Nat.mul_one]at m
 refine ae rfl ?_
 simp[oL,hf,hw,m]
def AT {R:List (List PV)}(h:YU 4 R):ag Ph aC 489 [bY R]=some (.one (.down 4 R)):=by
 have hf:=h.flat
 have hw:=h.wid
 have m:=ez (m:=R.length) (z:=40) (by have:=h.len;omega) (by omega)
 refine ae rfl ?_
 simp[oY,hf,hw,m]
def na {B:Nat}(hB:B<=1048576){x:Z4}(h:x.Ok B):ag Ph aC 242 [.agg [.pv (.lst (x.fs.map Y8.e))]]=some (.agg [.down 2 (x.fs.map Y8.e)]):=by
 have aH:=h
 have F0:YU 2 (x.fs.map Y8.e):=⟨eM (e:=Y8.e) (fun _=>rfl) _,cW (e:=Y8.e) (z:=2) (fun _=>rfl) _,by rw[Zr];have:=aH.1;omega⟩
 have a7:=F0.flat
 have a8:=F0.wid
 have m0:=ez (m:=(x.fs.map Y8.e).length) (z:=24) (by have:=F0.len;omega) (by omega)
 generalize (x.fs.map Y8.e)=R0 at F0 a7 a8 m0⊢
 refine ae rfl ?_
 simp[nN,a7,a8,m0]
def rm {B:Nat}(hB:B<=1048576){x:Z4}(h:x.Ok B):ag Ph aC 239 [.agg [.pv (.lst (x.fs.map Y8.e))]]=some (.agg [.down 2 (x.fs.map Y8.e)]):=by
 have aH:=h
 have F0:YU 2 (x.fs.map Y8.e):=⟨eM (e:=Y8.e) (fun _=>rfl) _,cW (e:=Y8.e) (z:=2) (fun _=>rfl) _,by rw[Zr];have:=aH.1;omega⟩
 have a7:=F0.flat
 have a8:=F0.wid
 have m0:=ez (m:=(x.fs.map Y8.e).length) (z:=24) (by have:=F0.len;omega) (by omega)
 generalize (x.fs.map Y8.e)=R0 at F0 a7 a8 m0⊢
 refine ae rfl ?_
 simp[sV,a7,a8,m0]
def tE {B:Nat}(hB:B<=1048576){x:Y1}(h:x.Ok B):ag Ph aC 218 [.agg [.pv (.int .i64 x.aX.aS), .pv (.int .i64 x.aX.n), .pv (.str x.aX.aa), .pv (.lst (x.aq.fs.map Y8.e))]]=some (.agg [.pv (.int .i64 x.aX.aS), .pv (.int .i64 x.aX.n), .pv (.str x.aX.aa), .down 2 (x.aq.fs.map Y8.e)]):=by
 obtain⟨b3,au⟩:=h
 have c0:=na hB au
 refine ae rfl ?_
 simp[pJ,c0]
def we {B:Nat}(hB:B<=1048576){x:Y1}(h:x.Ok B):ag Ph aC 214 [.agg [.pv (.int .i64 x.aX.aS), .pv (.int .i64 x.aX.n), .pv (.str x.aX.aa), .pv (.lst (x.aq.fs.map Y8.e))]]=some (.agg [.pv (.int .i64 x.aX.aS), .pv (.int .i64 x.aX.n), .pv (.str x.aX.aa), .down 2 (x.aq.fs.map Y8.e)]):=by
 obtain⟨b3,au⟩:=h
 have c0:=rm hB au
 refine ae rfl ?_
 simp[sX,c0]
def xn {B:Nat}(hB:B<=1048576){x:YS}(h:x.Ok B):ag Ph aC 493 [.agg [.pv (.lst (x.ai.map YM.e)), .pv (.int .i64 x.pc), .pv (.lst (x.aw.map xh)), .pv (.int .i64 x.ay), .pv (.bool x.b5), .pv (.bool x.ab)]]=some (.agg [.down 4 (x.ai.map YM.e), .pv (.int .i64 x.pc), .down 1 (x.aw.map xh), .pv (.int .i64 x.ay), .pv (.bool x.b5), .pv (.bool x.ab)]):=by
 obtain⟨af,b8,an,av⟩:=h
 have F0:YU 4 (x.ai.map YM.e):=⟨eM (e:=YM.e) (fun _=>rfl) _,cW (e:=YM.e) (z:=4) (fun _=>rfl) _,by rw[Zr];have:=af.1;omega⟩
 have a7:=F0.flat
 have a8:=F0.wid
 have m0:=ez (m:=(x.ai.map YM.e).length) (z:=40) (by have:=F0.len;omega) (by omega)
 generalize (x.ai.map YM.e)=R0 at F0 a7 a8 m0⊢
 have F1:YU 1 (x.aw.map xh):=⟨eM (e:=xh) (fun _=>rfl) _,cW (e:=xh) (z:=1) (fun _=>rfl) _,by rw[Zr];have:=an.1;omega⟩
 have bl:=F1.flat
 have bn:=F1.wid
 have m1:=ez (m:=(x.aw.map xh).length) (z:=8) (by have:=F1.len;omega) (by omega)
 generalize (x.aw.map xh)=R1 at F1 bl bn m1⊢
 refine ae rfl ?_
 simp[mU,a7,a8,m0,bl,bn,m1]
def Em {B:Nat}(hB:B<=1048576){x:YS}(h:x.Ok B):ag Ph aC 477 [.agg [.pv (.lst (x.ai.map YM.e)), .pv (.int .i64 x.pc), .pv (.lst (x.aw.map xh)), .pv (.int .i64 x.ay), .pv (.bool x.b5), .pv (.bool x.ab)]]=some (.agg [.down 4 (x.ai.map YM.e), .pv (.int .i64 x.pc), .down 1 (x.aw.map xh), .pv (.int .i64 x.ay), .pv (.bool x.b5), .pv (.bool x.ab)]):=by
 obtain⟨af,b8,an,av⟩:=h
 have c0:=AT (R:=(x.ai.map YM.e)) ⟨eM (fun _=>rfl) _,cW (z:=4) (fun _=>rfl) _,by rw[Zr];have:=af.1;omega⟩
 have F0:YU 1 (x.aw.map xh):=⟨eM (e:=xh) (fun _=>rfl) _,cW (e:=xh) (z:=1) (fun _=>rfl) _,by rw[Zr];have:=an.1;omega⟩
 have a7:=F0.flat
 have a8:=F0.wid
 have m0:=ez (m:=(x.aw.map xh).length) (z:=8) (by have:=F0.len;omega) (by omega)
 generalize (x.aw.map xh)=R0 at F0 a7 a8 m0⊢
 refine ae rfl ?_
 simp[qB,c0,a7,a8,m0]
def Cd {B:Nat}(hB:B<=1048576){x:Z8}(h:x.Ok B):ag Ph aC 479 [.agg [.pv (.int .i64 x.id), .pv (.str x.aR), .pv (.str x.b4), .pv (.int .i64 x.aB), .pv (.lst (x.ad.map YH.e)), .pv (.lst (x.aM.ai.map YM.e)), .pv (.int .i64 x.aM.pc), .pv (.lst (x.aM.aw.map xh)), .pv (.int .i64 x.aM.ay), .pv (.bool x.aM.b5), .pv (.bool x.aM.ab)]]=some (.agg [.pv (.int .i64 x.id), .pv (.str x.aR), .pv (.str x.b4), .pv (.int .i64 x.aB), .down 2 (x.ad.map YH.e), .down 4 (x.aM.ai.map YM.e), .pv (.int .i64 x.aM.pc), .down 1 (x.aM.aw.map xh), .pv (.int .i64 x.aM.ay), .pv (.bool x.aM.b5), .pv (.bool x.aM.ab)]):=by
 obtain⟨bb,aI,b6,a5,aj,a6⟩:=h
 have c0:=xn hB a6
 have F0:YU 2 (x.ad.map YH.e):=⟨eM (e:=YH.e) (fun _=>rfl) _,cW (e:=YH.e) (z:=2) (fun _=>rfl) _,by rw[Zr];have:=aj.1;omega⟩
 have a7:=F0.flat
 have a8:=F0.wid
 have m0:=ez (m:=(x.ad.map YH.e).length) (z:=24) (by have:=F0.len;omega) (by omega)
 generalize (x.ad.map YH.e)=R0 at F0 a7 a8 m0⊢
 refine ae rfl ?_
 simp[pK,c0,a7,a8,m0]
def Er {B:Nat}(hB:B<=1048576){x:Z8}(h:x.Ok B):ag Ph aC 451 [.agg [.pv (.int .i64 x.id), .pv (.str x.aR), .pv (.str x.b4), .pv (.int .i64 x.aB), .pv (.lst (x.ad.map YH.e)), .pv (.lst (x.aM.ai.map YM.e)), .pv (.int .i64 x.aM.pc), .pv (.lst (x.aM.aw.map xh)), .pv (.int .i64 x.aM.ay), .pv (.bool x.aM.b5), .pv (.bool x.aM.ab)]]=some (.agg [.pv (.int .i64 x.id), .pv (.str x.aR), .pv (.str x.b4), .pv (.int .i64 x.aB), .down 2 (x.ad.map YH.e), .down 4 (x.aM.ai.map YM.e), .pv (.int .i64 x.aM.pc), .down 1 (x.aM.aw.map xh), .pv (.int .i64 x.aM.ay), .pv (.bool x.aM.b5), .pv (.bool x.aM.ab)]):=by
 obtain⟨bb,aI,b6,a5,aj,a6⟩:=h
 have c0:=Em hB a6
 have F0:YU 2 (x.ad.map YH.e):=⟨eM (e:=YH.e) (fun _=>rfl) _,cW (e:=YH.e) (z:=2) (fun _=>rfl) _,by rw[Zr];have:=aj.1;omega⟩
 have a7:=F0.flat
 have a8:=F0.wid
 have m0:=ez (m:=(x.ad.map YH.e).length) (z:=24) (by have:=F0.len;omega) (by omega)
 generalize (x.ad.map YH.e)=R0 at F0 a7 a8 m0⊢
 refine ae rfl ?_
 simp[qF,c0,a7,a8,m0]
def hJ (b0 b1:Y0)(y0:L)(y2:L)(rows:List (List PV)):Nat->List Y0
 |0=>[b0,b1, .box [y0, .nil,y2]]
 |k+1=>[b0,b1, .box [y0, .arr 3,y2], .bA 4 (rows.take (k+1))]
def iL {B:Nat}(hB:B<=1048576){x:Y7}(h:x.Ok B):ag Ph aC 191 [.agg [.pv (.str x.aE), .pv (.lst (x.a0.map Y1.e)), .pv (.int .i64 x.aT)]]=some (.agg [.pv (.str x.aE),nd 4 (x.a0.map Y1.e), .pv (.int .i64 x.aT)]):=by
 obtain⟨ao,a2,aQ⟩:=h
 have e1:∀k(hk:k<x.a0.length),_:=fun k hk=>tE hB (a2.2 _ (Zf hk))
 have hl:x.a0.length<=1048576:=Zc a2.1 hB
 refine ae rfl ?_
 simp[oO]
 refine dB bh Cl.fin x.a0.length [.f,.f,.t,.t,.f,.f,.f,.f,.f,.f,.f,.f,.t,.t,.t,.f,.f,.f,.f,.f,.f,.f,.f,.f,.f,.f,.f] (fun k=>[(14,aa .i64 k)]) (hJ (.box [.pv (.str x.aE), .pv (.lst (x.a0.map Y1.e)), .pv (.int .i64 x.aT)]) (.box [.pv (.str []), .nil, .pv (.int .i64 0)]) (.pv (.str x.aE)) (.pv (.int .i64 x.aT)) (x.a0.map Y1.e)) rfl ?_ ?_ ?_
 ·exact Kn.q [0,1,2] (by simp[hJ,aV,aT,aU,fa,bt,be,bC,aN,dC,bQ,bj,bX,L.bD,aW])
 ·intro k hk
  have ek:=e1 k hk
  have hx:=Y1.e.eq_1 x.a0[k]
  have ht:=cU (e:=Y1.e) hk
  rw[hx]at ht
  cases k with
  |zero=>
   simp only[hJ,ht]
   simp[f7,hk,hx,ek,cV]
   exact Kn.q [0,1,2,6]
  |succ k=>
   obtain⟨i1,i2,i3,i4,i5,i6⟩:=pk (n:=x.a0.length) (by unfold maxLen;omega) hk
   have b1:min (k+1) x.a0.length=k+1:=by omega
   have m1:=ez (m:=k+1+1) (z:=56) (by omega) (by omega)
   simp only[hJ,ht]
   generalize hT:List.take (k+1) _=T
   have ax:T.length=k+1:=by rw[<-hT];simp;omega
   simp[f7,hk,hx,ek,i1,i2,i3,i4,i5,i6,ax,m1]
   exact Kn.q [0,1,2,7]
 ·cases hq:x.a0 with
  |nil=>simp[f7,hJ,nd]
  |cons q qs=>
   have hT:(x.a0.map Y1.e).take (qs.length+1)=x.a0.map Y1.e:=Zs (by rw[hq];simp)
   rw[hq]at hT
   simp only[Zo,hJ,hT]
   simp[f7,nd]
def jY (b0 b1:Y0)(y0:L)(y2:L)(rows:List (List PV)):Nat->List Y0
 |0=>[b0,b1, .box [y0, .nil,y2]]
 |k+1=>[b0,b1, .box [y0, .arr 3,y2], .bA 4 (rows.take (k+1))]
def k9 {B:Nat}(hB:B<=1048576){x:Y7}(h:x.Ok B):ag Ph aC 187 [.agg [.pv (.str x.aE), .pv (.lst (x.a0.map Y1.e)), .pv (.int .i64 x.aT)]]=some (.agg [.pv (.str x.aE),nd 4 (x.a0.map Y1.e), .pv (.int .i64 x.aT)]):=by
 obtain⟨ao,a2,aQ⟩:=h
 have e1:∀k(hk:k<x.a0.length),_:=fun k hk=>we hB (a2.2 _ (Zf hk))
 have hl:x.a0.length<=1048576:=Zc a2.1 hB
 refine ae rfl ?_
 simp[sW]
 refine dB bh Cl.fin x.a0.length [.f,.t,.t,.t,.t,.f,.f,.f,.f,.f,.f,.f,.f,.f,.f,.f,.f,.f,.f,.f,.f,.f,.f,.f,.f,.f,.f,.f,.f] (fun k=>[(4,aa .i64 k)]) (jY (.box [.pv (.str x.aE), .pv (.lst (x.a0.map Y1.e)), .pv (.int .i64 x.aT)]) (.box [.pv (.str []), .nil, .pv (.int .i64 0)]) (.pv (.str x.aE)) (.pv (.int .i64 x.aT)) (x.a0.map Y1.e)) rfl ?_ ?_ ?_
 ·exact Kn.q [0,1,2] (by simp[jY,aV,aT,aU,fa,bt,be,bC,aN,dC,bQ,bj,bX,L.bD,aW])
 ·intro k hk
  have ek:=e1 k hk
  have hx:=Y1.e.eq_1 x.a0[k]
  have ht:=cU (e:=Y1.e) hk
  rw[hx]at ht
  cases k with
  |zero=>
   simp only[jY,ht]
   simp[iw,hk,hx,ek,cV]
   exact Kn.q [0,1,2,5]
  |succ k=>
   obtain⟨i1,i2,i3,i4,i5,i6⟩:=pk (n:=x.a0.length) (by unfold maxLen;omega) hk
   have b1:min (k+1) x.a0.length=k+1:=by omega
   have m1:=ez (m:=k+1+1) (z:=56) (by omega) (by omega)
   simp only[jY,ht]
   generalize hT:List.take (k+1) _=T
   have ax:T.length=k+1:=by rw[<-hT];simp;omega
   simp[iw,hk,hx,ek,i1,i2,i3,i4,i5,i6,ax,m1]
   exact Kn.q [0,1,2,6]
 ·cases hq:x.a0 with
  |nil=>simp[iw,jY,nd]
  |cons q qs=>
   have hT:(x.a0.map Y1.e).take (qs.length+1)=x.a0.map Y1.e:=Zs (by rw[hq];simp)
   rw[hq]at hT
   simp only[Zo,jY,hT]
   simp[iw,nd]
def fM (b0 b1:Y0)(nm:List UInt8)(b7:Int)(U rows:List (List PV)):Nat->List Y0
 |0=>[b0,b1, .box [.pv (.str nm), .pv (.int .i64 b7), .nil, .arr 3], .bA 2 U]
 |k+1=>[b0,b1, .box [.pv (.str nm), .pv (.int .i64 b7), .arr 4, .arr 3], .bA 2 U, .bA 3 (rows.take (k+1))]
def vK {B:Nat}(hB:B<=1048576){x:YF}(h:x.Ok B):ag Ph aC 498 [.agg [.pv (.str x.aE), .pv (.int .i64 x.aB), .pv (.lst (x.aA.map Y7.e)), .pv (.lst (x.aC.map Y9.e))]]=some (.agg [.pv (.str x.aE), .pv (.int .i64 x.aB),nd 3 (x.aA.map Y7.e), .down 2 (x.aC.map Y9.e)]):=by
 obtain⟨ao,a5,a1,ak⟩:=h
 have F0:YU 2 (x.aC.map Y9.e):=⟨eM (e:=Y9.e) (fun _=>rfl) _,cW (e:=Y9.e) (z:=2) (fun _=>rfl) _,by rw[Zr];have:=ak.1;omega⟩
 have a7:=F0.flat
 have a8:=F0.wid
 have m0:=ez (m:=(x.aC.map Y9.e).length) (z:=32) (by have:=F0.len;omega) (by omega)
 generalize (x.aC.map Y9.e)=R0 at F0 a7 a8 m0⊢
 have e1:∀k(hk:k<x.aA.length),_:=fun k hk=>iL hB (a1.2 _ (Zf hk))
 have hl:x.aA.length<=1048576:=Zc a1.1 hB
 refine ae rfl ?_
 simp[lS,a7,a8,m0]
 refine dB bh Cl.fin x.aA.length [.f,.f,.t,.t,.f,.f,.f,.f,.f,.f,.f,.f,.f,.f,.f,.f,.t,.t,.t,.f,.f,.f,.f,.f,.f,.f,.f,.f,.f,.f,.f] (fun k=>[(18,aa .i64 k)]) (fM (.box [.pv (.str x.aE), .pv (.int .i64 x.aB), .pv (.lst (x.aA.map Y7.e)), .pv (.lst R0)]) (.box [.pv (.str []), .pv (.int .i64 0), .nil, .nil]) x.aE x.aB R0 (x.aA.map Y7.e)) rfl ?_ ?_ ?_
 ·exact Kn.q [0,1,2,3] (by simp[fM,aV,aT,aU,fa,bt,be,bC,aN,dC,bQ,bj,bX,L.bD,aW])
 ·intro k hk
  have ek:=e1 k hk
  have hx:=Y7.e.eq_1 x.aA[k]
  have ht:=cU (e:=Y7.e) hk
  rw[hx]at ht
  have N0:=fq 4 (x.aA[k].a0.map Y1.e)
  generalize nd 4 (x.aA[k].a0.map Y1.e)=n0 at N0 ek
  cases k with
  |zero=>
   simp only[fM,ht]
   rcases N0 with⟨q0,rfl⟩|⟨q0,rfl⟩
   ·simp only[q0]at ek
    simp[dF,hk,hx,ek,cV,q0]
    exact Kn.q [0,1,2,3,6]
   ·simp[dF,hk,hx,ek,cV]
    exact Kn.q [0,1,2,3,7]
  |succ k=>
   obtain⟨i1,i2,i3,i4,i5,i6⟩:=pk (n:=x.aA.length) (by unfold maxLen;omega) hk
   have b1:min (k+1) x.aA.length=k+1:=by omega
   have m1:=ez (m:=k+1+1) (z:=48) (by omega) (by omega)
   simp only[fM,ht]
   generalize hT:List.take (k+1) _=T
   have ax:T.length=k+1:=by rw[<-hT];simp;omega
   rcases N0 with⟨q0,rfl⟩|⟨q0,rfl⟩
   ·simp only[q0]at ek
    simp[dF,hk,hx,ek,i1,i2,i3,i4,i5,i6,ax,m1,q0]
    exact Kn.q [0,1,2,3,7]
   ·simp[dF,hk,hx,ek,i1,i2,i3,i4,i5,i6,ax,m1]
    exact Kn.q [0,1,2,3,8]
 ·cases hq:x.aA with
  |nil=>simp[dF,fM,nd]
  |cons q qs=>
   have hT:(x.aA.map Y7.e).take (qs.length+1)=x.aA.map Y7.e:=Zs (by rw[hq];simp)
   rw[hq]at hT
   simp only[Zo,fM,hT]
   simp[dF,nd]
def jZ (b0 b1:Y0)(nm:List UInt8)(b7:Int)(U rows:List (List PV)):Nat->List Y0
 |0=>[b0,b1, .box [.pv (.str nm), .pv (.int .i64 b7), .nil, .arr 3], .bA 2 U]
 |k+1=>[b0,b1, .box [.pv (.str nm), .pv (.int .i64 b7), .arr 4, .arr 3], .bA 2 U, .bA 3 (rows.take (k+1))]
def Hh {B:Nat}(hB:B<=1048576){x:YF}(h:x.Ok B):ag Ph aC 496 [.agg [.pv (.str x.aE), .pv (.int .i64 x.aB), .pv (.lst (x.aA.map Y7.e)), .pv (.lst (x.aC.map Y9.e))]]=some (.agg [.pv (.str x.aE), .pv (.int .i64 x.aB),nd 3 (x.aA.map Y7.e), .down 2 (x.aC.map Y9.e)]):=by
 obtain⟨ao,a5,a1,ak⟩:=h
 have F0:YU 2 (x.aC.map Y9.e):=⟨eM (e:=Y9.e) (fun _=>rfl) _,cW (e:=Y9.e) (z:=2) (fun _=>rfl) _,by rw[Zr];have:=ak.1;omega⟩
 have a7:=F0.flat
 have a8:=F0.wid
 have m0:=ez (m:=(x.aC.map Y9.e).length) (z:=32) (by have:=F0.len;omega) (by omega)
 generalize (x.aC.map Y9.e)=R0 at F0 a7 a8 m0⊢
 have e1:∀k(hk:k<x.aA.length),_:=fun k hk=>k9 hB (a1.2 _ (Zf hk))
 have hl:x.aA.length<=1048576:=Zc a1.1 hB
 refine ae rfl ?_
 simp[sZ,a7,a8,m0]
 refine dB bh Cl.fin x.aA.length [.f,.t,.t,.t,.t,.f,.f,.f,.f,.f,.f,.f,.f,.f,.f,.f,.f,.f,.f,.f,.f,.f,.f,.f,.f,.f,.f,.f,.f,.f,.f,.f,.f] (fun k=>[(4,aa .i64 k)]) (jZ (.box [.pv (.str x.aE), .pv (.int .i64 x.aB), .pv (.lst (x.aA.map Y7.e)), .pv (.lst R0)]) (.box [.pv (.str []), .pv (.int .i64 0), .nil, .nil]) x.aE x.aB R0 (x.aA.map Y7.e)) rfl ?_ ?_ ?_
 ·exact Kn.q [0,1,2,3] (by simp[jZ,aV,aT,aU,fa,bt,be,bC,aN,dC,bQ,bj,bX,L.bD,aW])
 ·intro k hk
  have ek:=e1 k hk
  have hx:=Y7.e.eq_1 x.aA[k]
  have ht:=cU (e:=Y7.e) hk
  rw[hx]at ht
  have N0:=fq 4 (x.aA[k].a0.map Y1.e)
  generalize nd 4 (x.aA[k].a0.map Y1.e)=n0 at N0 ek
  cases k with
  |zero=>
   simp only[jZ,ht]
   rcases N0 with⟨q0,rfl⟩|⟨q0,rfl⟩
   ·simp only[q0]at ek
    simp[fP,hk,hx,ek,cV,q0]
    exact Kn.q [0,1,2,3,5]
   ·simp[fP,hk,hx,ek,cV]
    exact Kn.q [0,1,2,3,6]
  |succ k=>
   obtain⟨i1,i2,i3,i4,i5,i6⟩:=pk (n:=x.aA.length) (by unfold maxLen;omega) hk
   have b1:min (k+1) x.aA.length=k+1:=by omega
   have m1:=ez (m:=k+1+1) (z:=48) (by omega) (by omega)
   simp only[jZ,ht]
   generalize hT:List.take (k+1) _=T
   have ax:T.length=k+1:=by rw[<-hT];simp;omega
   rcases N0 with⟨q0,rfl⟩|⟨q0,rfl⟩
   ·simp only[q0]at ek
    simp[fP,hk,hx,ek,i1,i2,i3,i4,i5,i6,ax,m1,q0]
    exact Kn.q [0,1,2,3,6]
   ·simp[fP,hk,hx,ek,i1,i2,i3,i4,i5,i6,ax,m1]
    exact Kn.q [0,1,2,3,7]
 ·cases hq:x.aA with
  |nil=>simp[fP,jZ,nd]
  |cons q qs=>
   have hT:(x.aA.map Y7.e).take (qs.length+1)=x.aA.map Y7.e:=Zs (by rw[hq];simp)
   rw[hq]at hT
   simp only[Zo,jZ,hT]
   simp[fP,nd]
end Gi
namespace Gi
open Go Go.RowKit
set_option maxHeartbeats 8000000
set_option maxRecDepth 4000
attribute [local simp] start qh bG cz dk eR dj eQ eW eV se sx sf sy sh sA si sB sj sC sk sD so sE sp sF su sG V.cells plain bA gv isInt isStr isBool bin cu iq cy ir eS un asList L.view al V.view viewL aZ am cD bM bS comp aO bJ cT bW bw bu bv aS aE bT aw aR aW aK br bq ba bz bB V.flat L.flat da df bD putAt thaw thawL thawT V.ow eU dx dy cB eT cC dw freezeVs freezeLs freezeL V.mut L.mut aJ eF gQ be bC aN dC bQ bj bX L.bD aY dq ca dD bU cf wp_seq wp_block bm dA cE bN cF wp_skip wp_exit wp_ret co cH cL cK cP cQ cO bV aM L.bC aV aT aU dz bt storeD bf fm ai ct aA nq L.bG L.closed V.closed PV.bare PV.flat
def PG {call:Nat->List V->Option V}{Q:Ex->St->Prop}{ks:List Fr}(hc:rI call)(hQ:Cl Q){c:Y5}{t:List V}{h:List Y0}{α:Type}(m:List Mk)(U:α->List (Nat×V))(H:α->List Y0)(next:α->Option α)(μ:α->Nat)(I:α->Prop)(a0:α)(i0:I a0)(hz:(c.bj&&kz ks)=true)(kn:Kn ⟨ot (iM m t) (U a0),H a0⟩ ⟨t,h⟩)
 (st:∀a b,I a->next a=some b->μ b<μ a/\ I b/\ wp call (fun e X=>e= .normal/\ Kn ⟨ot (iM m t) (U b),H b⟩ X) [] (ap call aF c ⟨ot (iM m t) (U a),H a⟩))
 (en:∀a,I a->next a=none->wp call Q (.sq uZ::ks) (ap call aF c ⟨ot (iM m t) (U a),H a⟩)):wp call Q ks (ap call aF (.loop c) ⟨t,h⟩):=by
 have key:∀n a,μ a<=n->I a->wp call Q ks (ap call aF (.loop c) ⟨ot (iM m t) (U a),H a⟩):=by
  intro n
  induction n with
  |zero=>
   intro a hn ia
   cases q:next a with
   |none=>exact tK (en a ia q)
   |some b=>have:=(st a b ia q).1;omega
  |succ n ih=>
   intro a hn ia
   cases q:next a with
   |none=>exact tK (en a ia q)
   |some b=>
    obtain⟨h1,h2,h3⟩:=st a b ia q
    exact Co hc hQ hz h3 (ih b (by omega) h2)
 have bs:kz (.sq (.loop c)::ks)=true:=by simpa only[kz,Y5.bj]using hz
 exact Ly hc hQ ⟨ot (iM m t) (U a0),H a0⟩ bs kn (key _ a0 (Zn _) i0)
def Lw {n:Nat}(h:n<256):IntKind.u8.wrap (n:Int)=(n:Int)/\ (UInt8.ofNat n).toNat=n:=by
 refine⟨?_,by simp;omega⟩
 simp[IntKind.wrap,IntKind.signed,IntKind.bits]
 omega
def V3 {n:Nat}(h:n<4611686018427387904):IntKind.i64.wrap ((BitVec.ofInt IntKind.i64.bits (n:Int)&&&BitVec.ofInt IntKind.i64.bits 127).toNat:Int)=((n%128:Nat):Int):=by
 have e1:(BitVec.ofInt IntKind.i64.bits (n:Int)).toNat=n:=by
  show(BitVec.ofInt 64 (n:Int)).toNat=n
  simp[BitVec.toNat_ofInt];omega
 have e2:(BitVec.ofInt IntKind.i64.bits 127).toNat=127:=by decide
 rw[BitVec.toNat_and,e1,e2,show(127:Nat)=2^7-1 from rfl,Nat.and_two_pow_sub_one_eq_mod]
 rw[IntKind.wrap_i64];omega
def Xq {n:Nat}(h:n<128):IntKind.i64.wrap ((BitVec.ofInt IntKind.i64.bits (n:Int)|||BitVec.ofInt IntKind.i64.bits 128).toNat:Int)=((n+128:Nat):Int):=by
 have e1:(BitVec.ofInt IntKind.i64.bits (n:Int)).toNat=n:=by
  show(BitVec.ofInt 64 (n:Int)).toNat=n
  simp[BitVec.toNat_ofInt];omega
 have e2:(BitVec.ofInt IntKind.i64.bits 128).toNat=128:=by decide
 have e3:=Nat.two_pow_add_eq_or_of_lt (i:=7) (b:=n) (by omega) 1
 rw[BitVec.toNat_or,e1,e2,Nat.or_comm,show(128:Nat)=2^7*1 from rfl,<-e3]
 rw[IntKind.wrap_i64];omega
def lG (s:List UInt8)(x:UInt8):ar (s++[x])=ar s++[[.int .u8 x.toNat]]:=by simp[ar]
def CO (a:Nat×Nat×List UInt8):Option (Nat×Nat×List UInt8):=if a.2.1<128 then none else match a.1 with
 |0=>none
 |f+1=>some (f,a.2.1/128,a.2.2++[UInt8.ofNat (a.2.1%128+128)])
def Xz (b T:List UInt8)(a:Nat×Nat×List UInt8):Prop:=a.2.1<128^(a.1+1)/\ a.2.2++SA (a.1+1) a.2.1=T/\ a.2.2.length+a.1<=b.length+5/\ a.2.1<=1000000000000
def NX {b T:List UInt8}{f m:Nat}{o:List UInt8}{a':Nat×Nat×List UInt8}(ia:Xz b T (f,m,o))(h:CO (f,m,o)=some a'):128<=m/\ Xz b T a'/\ (a':Nat×Nat×List UInt8)=(f-1,m/128,o++[UInt8.ofNat (m%128+128)]):=by
 obtain⟨h1,h2,h3,h4⟩:=ia
 unfold CO at h
 simp only at h h1 h2 h3 h4
 split at h
 ·cases h
 ·rename_i hm
  cases f with
  |zero=>cases h
  |succ f=>
   cases h
   refine⟨by omega,⟨?_,?_,by simp;omega,by simp only;omega⟩,rfl⟩
   ·show m/128<128^(f+1)
    rw[Nat.div_lt_iff_lt_mul (by decide),<-Nat.pow_succ];exact h1
   ·rw[<-h2]
    show(o++[UInt8.ofNat (m%128+128)])++SA (f+1) (m/128)=o++SA (f+1+1) m
    rw[show SA (f+1+1) m=UInt8.ofNat (m%128+128)::SA (f+1) (m/128) by rw[SA,if_neg hm]]
    simp
def QG {b T:List UInt8}{f m:Nat}{o:List UInt8}(ia:Xz b T (f,m,o))(h:CO (f,m,o)=none):m<128/\ o++[UInt8.ofNat m]=T:=by
 obtain⟨h1,h2,_⟩:=ia
 unfold CO at h
 simp only at h h1 h2
 split at h
 ·rename_i hm
  exact⟨hm,by rw[<-h2,SA,if_pos hm]⟩
 ·rename_i hm
  cases f with
  |zero=>simp at h1;omega
  |succ f=>cases h
def kg {b:List UInt8}(hb:b.length<=1048000){n:Nat}(hn:n<=1000000000000):ag Ph aC 247 [bY (ar b),aa .i64 (n:Int)]=some (.one (.own 1 (ar (b++t9 n)))):=by
 have e1:rg (n:Int) 0 1000000000000=true:=uG.2 ⟨by omega,by omega⟩
 have e2:=bp (n:Int) 0 1000000000000
 rw[e1]at e2
 have e3:=n5 (R:=ar b) ⟨qQ b,j3 b,by rw[bZ];omega⟩
 refine ae rfl ?_
 simp(maxSteps:=9^9) [kR,e2,e3]
 refine PG bh Cl.fin [.f,.t,.f,.f,.f,.t,.f,.f,.f,.f,.f,.f,.f,.f,.f,.f,.f,.f,.f,.f,.f,.f,.f,.f,.f,.f,.f,.f] (fun a=>[(1,aa .i64 (a.2.1:Nat)),(5, .one (.arr 0))]) (fun a=>[.arr 1 (ar a.2.2)]) CO (fun a=>a.2.1) (Xz b (b++t9 n)) (5,n,b) ⟨by show n<128^6;omega,rfl,by simp,hn⟩ rfl (by simp) (fun a a' ia ha=> ?_) (fun a ia ha=> ?_)
 ·obtain⟨f,m,o⟩:=a
  obtain⟨hm,hi,rfl⟩:=NX ia ha
  obtain⟨_,_,hl,bg⟩:=ia
  simp only at hl bg
  have bk:bO (m:Int) 128=false:=ii (by omega)
  have b2:bO 127 (m:Int)=true:=gB (by omega)
  have q:=Lw (n:=m%128+128) (by omega)
  have m1:o.length<=140737488355327/\ o.length<=9223372036854775806:=by omega
  have m2:=ez (m:=o.length+1) (z:=1) (by omega) (by omega)
  have r1:(m:Int).tmod 128=(m:Int)%128:=Int.tmod_eq_emod_of_nonneg (by omega)
  have r2:(m:Int).tdiv 128=(m:Int)/128:=Int.tdiv_eq_ediv_of_nonneg (by omega)
  have r3:IntKind.i64.wrap ((m:Int)%128+128)=(m:Int)%128+128:=by rw[IntKind.wrap_i64];omega
  have r4:IntKind.i64.wrap ((m:Int)/128)=(m:Int)/128:=by rw[IntKind.wrap_i64];omega
  have r5:IntKind.u8.wrap ((m:Int)%128+128)=(m:Int)%128+128:=by have:=q.1;simpa using this
  have r6:((m:Int)%128+128)%256=(m:Int)%128+128:=by omega
  refine⟨by show m/128<m;omega,hi,?_⟩
  simp(maxSteps:=9^9) [gR,bk,b2,r1,r2,r3,r4,r5,m1,m2,lG,bZ,-eF]
  exact Kn.of [2] (by decide) (by simp[lG,r5,r6]) (by simp[r4])
 ·obtain⟨f,m,o⟩:=a
  obtain⟨hm,hi⟩:=QG ia ha
  obtain⟨_,_,hl,bg⟩:=ia
  simp only at hl bg
  have bk:bO (m:Int) 128=true:=gB (by omega)
  have b2:bO 127 (m:Int)=false:=ii (by omega)
  have q:=Lw (n:=m) (by omega)
  have m1:o.length<=140737488355327/\ o.length<=9223372036854775806:=by omega
  have m2:=ez (m:=o.length+1) (z:=1) (by omega) (by omega)
  rw[<-hi]
  simp(maxSteps:=9^9) [gR,bk,b2,q,m1,m2,lG,bZ]
end Gi
