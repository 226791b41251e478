/- A part. -/
import Derived.Test.YtndiampmpmbfoaaGreatGkj
import Derived.Test.YtndiampmpmbfoaaGreatGkf
set_option linter.all false
namespace Gi
open Go Go.RowKit
set_option maxHeartbeats 8000000
set_option maxRecDepth 4000
attribute [local simp] start qh bG cz dk eR dj eQ eW eV se sx sf sy sh sA si sB sj sC sk sD so sE sp sF su sG V.cells plain bA gv isInt isStr isBool bin cu iq cy ir eS un asList L.view al V.view viewL aZ am cD bM bS comp aO bJ cT bW bw bu bv aS aE bT aw aR aW aK br bq ba bz bB V.flat L.flat da df bD putAt thaw thawL thawT V.ow eU dx dy cB eT cC dw freezeVs freezeLs freezeL V.mut L.mut aJ eF gQ be bC aN dC bQ bj bX L.bD aY dq ca dD bU cf wp_seq wp_block bm dA cE bN cF wp_skip wp_exit wp_ret co cH cL cK cP cQ cO bV aM L.bC aV aT aU dz bt storeD bf fm ai ct aA nq L.bG L.closed V.closed PV.bare PV.flat
def Eh {B:Nat}(a5:B<=1048576){s:Y7}(h:s.Ok B)(f:List UInt8):ag Ph aC 409 [s.v,eE f]=some (.one (.own 4 ((oZ f s.a0).map Y1.e))):=by
 have hB:B<=maxLen:=by unfold maxLen;omega
 have hl:s.a0.length<=1048576:=Zc h.2.1.1 a5
 have aQ:=h.2.1.2
 refine ae rfl ?_
 simp(maxSteps:=9^9) [qw]
 refine dB bh Cl.fin s.a0.length [.f,.t,.t,.f,.f,.t,.t,.f,.f,.f,.f,.f,.f,.f,.f,.f,.f,.f,.f,.f,.f,.f,.f,.f,.f,.f,.f,.f,.f,.f,.f,.f,.f,.f,.f,.f,.f,.f,.f,.f,.f,.f,.f,.f,.f,.f,.f,.f,.f,.f,.f,.f,.f,.f,.f,.f,.f,.f,.f,.f,.f,.f,.f,.f,.f,.f,.f,.f,.f,.f,.f,.f] (fun k=>[(5, .one (.arr 1)),(6,aa .i64 k)]) (fun k=>[.box [.pv (.str s.aE), .pv (.lst (s.a0.map Y1.e)), .pv (.int .i64 s.aT)], .arr 4 ((oZ f (s.a0.take k)).map Y1.e)]) rfl ?_ ?_ ?_
 ·exact Kn.of [0,1] (by decide) (by simp[show oZ f []=[]from rfl]) (by simp)
 ·intro k hk
  have hx:=Y1.e.eq_1 s.a0[k]
  have b0:=aQ _ (Zf hk)
  have b4:=Y1.Ok.mono hB b0
  have f1:=ju (r:=s.a0[k].aq) b4.2.1 f
  have f2:=we a5 b0
  have b7:=Zc (Ah f (s.a0.take k)) (by rw[ZM];exact Nat.min_le_left _ _)
  have hoo:∀y∈oZ f (s.a0.take k),y.Ok B:=fun y hy=>aQ y (ZI (Ai hy))
  try dsimp only
  rw[Jf hk]
  generalize oZ f (s.a0.take k)=out at b7 hoo⊢
  unfold mF
  have b5:∀q(hq:q<out.length),_:=fun q hq=>KT (f:=f) b4 (Y1.Ok.mono hB (hoo _ (Zf hq)))
  have b8:gN f s.a0[k]=rJ s.a0[k].aq.fs f:=rfl
  rw[b8]
  generalize rJ s.a0[k].aq.fs f=u at f1⊢
  obtain⟨u1,u2⟩:=u
  cases u2
  ·simp only[cond_false]
   simp(maxSteps:=9^9) [je,hk,aL (n:=s.a0.length) (by unfold maxLen;omega) hk,bd hk,hx,f1]
  ·simp only[cond_true]
   have au:=JV (f:=f) (x:=s.a0[k]) (out:=out) out.length
   have av:=Fg (f:=f) (x:=s.a0[k]) (out:=out) out.length (Zn _)
   have ax:=Fh (f:=f) (x:=s.a0[k]) (out:=out) out.length (Zn _)
   have hm:=Jg out s.a0[k] (Re f s.a0[k] out out.length)
   rw[hm,hx]
   clear hm
   have m1:=ez (m:=out.length+1) (z:=56) (by omega) (by omega)
   generalize Re f s.a0[k] out out.length=d at au av ax⊢
   simp(maxSteps:=9^9) [je,hk,aL (n:=s.a0.length) (by unfold maxLen;omega) hk,bd hk,hx,f1]
   refine QI bh Cl.kn (out.length-d) [.f,.t,.t,.f,.f,.t,.t,.f,.f,.t,.f,.f,.f,.f,.f,.f,.f,.f,.f,.f,.f,.f,.f,.f,.f,.f,.f,.f,.f,.f,.f,.f,.f,.f,.f,.f,.f,.f,.f,.f,.f,.f,.f,.f,.f,.f,.f,.f,.f,.f,.f,.f,.f,.f,.f,.f,.f,.f,.f,.f,.f,.f,.f,.f,.f,.f,.f,.f,.f,.f,.f,.f] (fun j=>[(9,aa .i64 ((out.length-j:Nat):Int))]) (fun _=>[.box [.pv (.str s.aE), .pv (.lst (s.a0.map Y1.e)), .pv (.int .i64 s.aT)], .arr 4 (out.map Y1.e)]) 2 rfl ?_ ?_ ?_ ?_
   ·simp
   ·intro j hj
    obtain⟨q,hq⟩:∃q,out.length-j=q+1:=⟨out.length-j-1,by omega⟩
    have b9:out.length-(j+1)=q:=by omega
    have ad:q<out.length:=by omega
    have l1:=b5 q ad
    rw[av q (by omega) ad ad]at l1
    have hy:=Y1.e.eq_1 out[q]
    have w4:bO 0 ((q:Int)+1)=true:=gB (by omega)
    have w5:IntKind.i64.wrap ((q:Int)+1-1)=(q:Int):=by rw[IntKind.wrap_i64];omega
    have w6:IntKind.i64.wrap (q:Int)=(q:Int):=by rw[IntKind.wrap_i64];omega
    try dsimp only
    rw[hq,b9]
    clear av ax
    simp(maxSteps:=9^9) [gX,hk,hx,hy,ad,l1,w4,w5,w6]
   ·have hz:out.length-(out.length-d)=d:=by omega
    try dsimp only
    rw[hz]
    cases d with
    |zero=>
     simp(maxSteps:=9^9) [gX,show bO 0 0=false from rfl]
    |succ q=>
     obtain⟨ad,bb⟩:=ax q rfl
     have l1:=b5 q ad
     rw[bb]at l1
     have hy:=Y1.e.eq_1 out[q]
     have w4:bO 0 ((q:Int)+1)=true:=gB (by omega)
     have w5:IntKind.i64.wrap ((q:Int)+1-1)=(q:Int):=by rw[IntKind.wrap_i64];omega
     have w6:IntKind.i64.wrap (q:Int)=(q:Int):=by rw[IntKind.wrap_i64];omega
     simp(maxSteps:=9^9) [gX,hk,hx,hy,ad,l1,w4,w5,w6]
   ·have hz:out.length-(out.length-d)=d:=by omega
    try dsimp only
    rw[hz]
    have bc:(d:Int)<=(out.length:Int):=by omega
    have t1:((out.map Y1.e).take d).all (fun e=>e.length==4)=true:=by rw[<-List.map_take];exact cW (e:=Y1.e) (z:=4) (fun _=>rfl) _
    have t2:((out.map Y1.e).drop d).all (fun e=>e.length==4)=true:=by rw[<-List.map_drop];exact cW (e:=Y1.e) (z:=4) (fun _=>rfl) _
    have t3:=cW (e:=Y1.e) (z:=4) (fun _=>rfl) out
    have n1:min d out.length=d:=Nat.min_eq_left au
    have n3:d+1+(out.length-d)=out.length+1:=by omega
    have m2:=ez (m:=d+1) (z:=56) (by omega) (by omega)
    have m3:=ez (m:=d) (z:=56) (by omega) (by omega)
    have n4:List.take (out.length-d) (List.drop d (List.map Y1.e out))=List.drop d (List.map Y1.e out):=Zs (by simp)
    simp(maxSteps:=9^9) [n4,f2,hk,hx,aL (n:=s.a0.length) (by unfold maxLen;omega) hk,au,bc,t1,t2,t3,n1,n3,m1,m2,m3,-eF]
    exact Kn.of [0,7] (by decide) (by simp) (by simp)
 ·try dsimp only
  rw[F']
  simp(maxSteps:=9^9) [je]
def xk {B:Nat}(a5:B<=1048576){s:Y7}(h:s.Ok B)(f:List UInt8):ag Ph aC 406 [s.v,eE f]=some (WU (Um f (oZ f s.a0))):=by
 have hB:B<=maxLen:=by unfold maxLen;omega
 have e1:=Ea a5 h f
 have ay:=Zc (Ah f s.a0) (Zc h.2.1.1 a5)
 have hoo:∀y∈oZ f s.a0,y.Ok maxLen:=fun y hy=>Y1.Ok.mono hB (h.2.1.2 y (Ai hy))
 refine ae rfl ?_
 generalize oZ f s.a0=l at e1 ay hoo⊢
 unfold WU
 simp(maxSteps:=9^9) [mQ,e1]
 refine aB bh Cl.fin [.f,.t,.f,.f,.t,.t,.f,.t,.t,.f,.f,.f,.f,.f,.f,.f,.f,.f,.f,.f,.f,.f,.f,.f,.f,.f,.f,.f,.f,.f,.f,.f,.f,.f,.f,.f,.f,.f,.f,.f,.f,.f,.f,.f,.f,.f,.f,.f,.f,.f,.f,.f,.f,.f,.f,.f,.f,.f,.f] (fun k=>[(8,aa .i64 ((k:Int)+1))]) (l.length-1) (UB f l) rfl (by simp) (fun k hk hn=> ?_) (fun hp _=> ?_)
 ·have a2:k+1<l.length:=by omega
  have ab:k<l.length:=by omega
  obtain⟨i1,i2,i3,i4,i5,i6⟩:=pk (n:=l.length) (by unfold maxLen;omega) a2
  have f1:=js (r:=l[k].aq) (hoo _ (Zf ab)).2.1 f
  have f2:=js (r:=l[k+1].aq) (hoo _ (Zf a2)).2.1 f
  have hx:=Y1.e.eq_1 l[k]
  have hy:=Y1.e.eq_1 l[k+1]
  have hq:=NV (f:=f) hk
  have af:=Ul (f:=f) a2
  unfold gN at af
  have ka:uS l k=l[k].aX:=by simp[uS,ab]
  have kb:uS l (k+1)=l[k+1].aX:=by simp[uS,a2]
  rw[af]
  rw[af,ka,kb]at hq
  generalize rJ l[k].aq.fs f=u at f1 hq⊢
  generalize rJ l[k+1].aq.fs f=v at f2 hq⊢
  cases hc:(u.1==v.1)
  ·simp(maxSteps:=9^9) [gq,ab,a2,hx,hy,i1,i2,i4,i5,i6,gB i6,f1,f2,hc]
  ·rw[hq hc hn]
   simp(maxSteps:=9^9) [gq,ab,a2,hx,hy,i1,i2,i4,i5,i6,gB i6,f1,f2,hc]
 ·rw[NU hp]
  have aF:bO (((l.length-1:Nat):Int)+1) (l.length:Int)=false:=ii (by omega)
  simp(maxSteps:=9^9) [gq,aF]
def xx {B:Nat}(a5:B<=1048576){s:Y7}(h:s.Ok B)(f:List UInt8):ag Ph aC 401 [s.v,eE f]=some (WU (Um f (oZ f s.a0))):=by
 have hB:B<=maxLen:=by unfold maxLen;omega
 have e1:=Eh a5 h f
 have ay:=Zc (Ah f s.a0) (Zc h.2.1.1 a5)
 have hoo:∀y∈oZ f s.a0,y.Ok maxLen:=fun y hy=>Y1.Ok.mono hB (h.2.1.2 y (Ai hy))
 refine ae rfl ?_
 generalize oZ f s.a0=l at e1 ay hoo⊢
 unfold WU
 simp(maxSteps:=9^9) [m6,e1]
 refine aB bh Cl.fin [.f,.t,.f,.f,.t,.t,.f,.t,.t,.f,.f,.f,.f,.f,.f,.f,.f,.f,.f,.f,.f,.f,.f,.f,.f,.f,.f,.f,.f,.f,.f,.f,.f,.f,.f,.f,.f,.f,.f,.f,.f,.f,.f,.f,.f,.f,.f,.f,.f,.f,.f,.f,.f,.f,.f,.f,.f,.f,.f] (fun k=>[(8,aa .i64 ((k:Int)+1))]) (l.length-1) (UB f l) rfl (by simp) (fun k hk hn=> ?_) (fun hp _=> ?_)
 ·have a2:k+1<l.length:=by omega
  have ab:k<l.length:=by omega
  obtain⟨i1,i2,i3,i4,i5,i6⟩:=pk (n:=l.length) (by unfold maxLen;omega) a2
  have f1:=ju (r:=l[k].aq) (hoo _ (Zf ab)).2.1 f
  have f2:=ju (r:=l[k+1].aq) (hoo _ (Zf a2)).2.1 f
  have hx:=Y1.e.eq_1 l[k]
  have hy:=Y1.e.eq_1 l[k+1]
  have hq:=NV (f:=f) hk
  have af:=Ul (f:=f) a2
  unfold gN at af
  have ka:uS l k=l[k].aX:=by simp[uS,ab]
  have kb:uS l (k+1)=l[k+1].aX:=by simp[uS,a2]
  rw[af]
  rw[af,ka,kb]at hq
  generalize rJ l[k].aq.fs f=u at f1 hq⊢
  generalize rJ l[k+1].aq.fs f=v at f2 hq⊢
  cases hc:(u.1==v.1)
  ·simp(maxSteps:=9^9) [gr,ab,a2,hx,hy,i1,i2,i4,i5,i6,gB i6,f1,f2,hc]
  ·rw[hq hc hn]
   simp(maxSteps:=9^9) [gr,ab,a2,hx,hy,i1,i2,i4,i5,i6,gB i6,f1,f2,hc]
 ·rw[NU hp]
  have aF:bO (((l.length-1:Nat):Int)+1) (l.length:Int)=false:=ii (by omega)
  simp(maxSteps:=9^9) [gr,aF]
def S2 (ss:List Y7)(k:Nat):Bool:=match ss[k]?,ss[k-1]? with
 |some x,some y=> !(dW x)||(bO 0 k&& !(Op.bytesLess y.aE x.aE))
 |_,_=>false
def rh (a b:Y9):Bool:=a.aD==b.aD&&a.aP==b.aP
def G7 (a b:Y9):rh a b=rh b a:=by unfold rh;rw[Bool.beq_comm (a:=a.aD),Bool.beq_comm (a:=a.aP)]
def L7 (us:List Y9)(k:Nat):Bool:=match us[k]? with
 |some u=>gH k (iE (rh u) us)
 |none=>false
def HI (ss:List Y7)(us:List Y9)(k:Nat):Bool:=match us[k]? with
 |some u=>match ss.find? (UZ u.aD)with
  |some s=> !(dg u.aP)||(L7 us k||(Um u.aP (oZ u.aP s.a0)).2.2)
  |none=>true
 |none=>false
def OK (d:YF):Bool:=dg d.aE&&(rg d.aB 0 1000&&(!(bO 4 d.aA.length)&&(!(bO 4 d.aC.length)&&(!(gH d.aA.length (S2 d.aA))&& !(gH d.aC.length (HI d.aA d.aC))))))
def nk {α:Type}(p:α->Bool)(xs:List α):(dQ p xs= -1/\ xs.find? p=none) \/∃j,∃hj:j<xs.length,dQ p xs=(j:Int)/\ xs.find? p=some xs[j]:=by
 unfold dQ
 cases h:xs.findIdx? p with
 |none=>exact .inl ⟨rfl,by rw[Zb1]at h;rw[List.find?_eq_none];exact fun x hx=>by simp[h x hx]⟩
 |some i=>
  rw[ZV]at h
  obtain⟨h1,h2,h3⟩:=h
  refine .inr ⟨i,h1,rfl,?_⟩
  rw[Zd1]
  exact⟨h2,i,h1,rfl,fun j hj=>by simpa using h3 j hj⟩
def Rs {p:Y9->Bool}{us:List Y9}{k:Nat}(hk:k<us.length):(!(bO (dQ p (us.take k)) 0))=gH k (iE p us):=by
 have b6:∀j,j<k->iE p (us.take k) j=iE p us j:=fun j hj=>by simp[iE,ZP,hj]
 rcases wO p (us.take k)with h|⟨j,hj,h1,h2⟩
 ·rw[h,gB (by omega)]
  refine(N9 fun j hj=> ?_).symm
  have ar:j<(us.take k).length:=by simp;omega
  rw[<-b6 j hj]
  have:=PY h _ (Zf ar)
  simp only[iE,Zm ar];exact this
 ·have ar:j<k:=by simp at hj;omega
  rw[h1,ii (by omega)]
  refine(SY ar ?_).symm
  rw[<-b6 j ar];simp only[iE,Zm hj];exact h2
def GC {us:List Y9}(hl:us.length<=maxLen)(x:Y9):ag Ph aC 412 [bY (us.map Y9.e),x.v]=some (aa .i64 (dQ (rh x) us)):=by
 refine ae rfl ?_
 simp +contextual (maxSteps:=9^9) [dU]
 refine aB bh Cl.fin [.t,.f,.f,.t,.f,.f,.f,.t,.t,.f,.f,.f,.f,.f,.f,.f,.f,.f,.f] (fun k=>[(8,aa .i64 k)]) us.length (iE (rh x) us) rfl (by simp) (fun k hk hj=> ?_) (fun hj _=> ?_)
 ·have hf:=tb hk hj
  simp +contextual (maxSteps:=9^9) [cN,iE,rh,hk,hf,aL hl hk,bd hk,Y9.e.eq_1 us[k],p5,PT]
 ·simp +contextual (maxSteps:=9^9) [cN,ta hj]
def Am {us:List Y9}(hl:us.length<=maxLen)(x:Y9):ag Ph aC 405 [bY (us.map Y9.e),x.v]=some (az (!(bO (dQ (rh x) us) 0))):=by
 have e1:=GC hl x
 refine ae rfl ?_
 simp +contextual (maxSteps:=9^9) [dE,e1]
def yB {B:Nat}(a5:B<=1048576){d:YF}(h:d.Ok B):ag Ph aC 397 [d.v]=some (az (OK d)):=by
 have hB:B<=maxLen:=by unfold maxLen;omega
 obtain⟨hn,hv,⟨aG,hs⟩,aH,hu⟩:=h
 have e1:=bP (Zc hn hB)
 have e2:=bp d.aB 0 1000
 have aj:d.aA.length<=maxLen:=Zc aG hB
 have a7:d.aC.length<=maxLen:=Zc aH hB
 unfold OK
 refine ae rfl ?_
 cases c1:dg d.aE<;>rw[c1]at e1
 ·simp(maxSteps:=9^9) [fC,e1]
 cases c2:rg d.aB 0 1000<;>rw[c2]at e2
 ·simp(maxSteps:=9^9) [fC,e1,e2]
 cases c3:bO 4 d.aA.length
 rotate_left
 ·simp(maxSteps:=9^9) [fC,e1,e2,c3]
 cases c4:bO 4 d.aC.length
 rotate_left
 ·simp(maxSteps:=9^9) [fC,e1,e2,c3,c4]
 simp(maxSteps:=9^9) [fC,e1,e2,c3,c4]
 refine aB bh Cl.fin [.f,.t,.f,.f,.f,.f,.f,.f,.f,.f,.f,.f,.f,.f,.f,.f,.f,.f,.f,.f,.f,.f,.f,.f,.f,.f,.f,.f,.f,.f,.f,.f,.f,.f,.t,.t,.t,.f,.f,.f,.f,.f,.f,.f,.f,.f,.f,.f,.f,.f,.f,.f,.f,.f,.f,.f,.f,.f,.f,.f,.f,.f,.f,.f,.f,.f,.f,.f,.f,.f,.f,.f,.f,.f,.f,.f,.f,.f,.f,.f,.f,.f,.f,.f,.f,.f,.f,.f,.f,.f,.f,.f,.f,.f,.f,.f,.f,.f,.f,.f,.f,.f,.f] (fun k=>[(36,aa .i64 k)]) d.aA.length (S2 d.aA) rfl (by simp) (fun k hk _=> ?_) (fun _ hp=> ?_)
 ·obtain⟨q1,q2⟩:=xr aj hk
  have e3:=iA (Y7.Ok.mono hB (hs _ (Zf hk)))
  simp +contextual (maxSteps:=9^9) [gI,S2,hk,q1,q2,aL aj hk,bd hk,Y7.e.eq_1 d.aA[k],Y7.e.eq_1 d.aA[k-1],e3]
 ·simp(maxSteps:=9^9) [gI,hp]
  refine aB bh Cl.fin [.f,.t,.f,.f,.f,.f,.f,.f,.f,.f,.f,.f,.f,.f,.f,.f,.f,.f,.f,.f,.f,.f,.f,.f,.f,.f,.f,.f,.f,.f,.f,.f,.f,.f,.f,.f,.f,.f,.f,.f,.f,.f,.f,.f,.f,.f,.f,.f,.f,.f,.f,.f,.f,.f,.f,.f,.f,.f,.f,.f,.f,.f,.t,.t,.t,.f,.f,.f,.f,.f,.f,.f,.f,.f,.f,.f,.f,.f,.f,.f,.f,.f,.f,.f,.f,.f,.f,.f,.f,.f,.f,.f,.f,.f,.f,.f,.f,.f,.f,.f,.f,.f,.f] (fun k=>[(64,aa .i64 k)]) d.aC.length (HI d.aA d.aC) rfl (by simp) (fun k hk _=> ?_) (fun _ hp=> ?_)
  ·have e3:=Ao (d:=d) aj d.aC[k].aD
   have e4:=bP (Zc (hu _ (Zf hk)).2 hB)
   have e5:=Am (us:=d.aC.take k) (by rw[ZM];omega) d.aC[k]
   rw[Rs hk]at e5
   have an:L7 d.aC k=gH k (iE (rh d.aC[k]) d.aC):=by simp[L7,hk]
   rw[<-an]at e5
   rw[List.map_take]at e5
   have hx:=Y9.e.eq_1 d.aC[k]
   have w:=cW (e:=Y9.e) (z:=2) (fun _=>rfl) d.aC
   rcases nk (UZ d.aC[k].aD) d.aA with⟨h1,h2⟩|⟨j,hj,h1,h2⟩<;>rw[h1]at e3
   ·rw[show HI d.aA d.aC k=true by simp[HI,hk,h2]]
    simp +contextual (maxSteps:=9^9) [gJ,hk,e3,hx,aL a7 hk,bd hk,show bO (-1) 0=true from rfl]
   ·have e6:=xk a5 (hs _ (Zf hj)) d.aC[k].aP
    have hy:=Y7.e.eq_1 d.aA[j]
    rw[show HI d.aA d.aC k=(!(dg d.aC[k].aP)||(L7 d.aC k||(Um d.aC[k].aP (oZ d.aC[k].aP d.aA[j].a0)).2.2)) by simp[HI,hk,h2]]
    generalize Um d.aC[k].aP (oZ d.aC[k].aP d.aA[j].a0)=T at e6⊢
    unfold WU at e6
    generalize dg d.aC[k].aP=N at e4⊢
    generalize L7 d.aC k=D at e5⊢
    simp +contextual (maxSteps:=9^9) [gJ,hk,hj,e3,e4,e5,e6,hx,hy,w,Zd2 hk,aL a7 hk,bd hk,uB]
  ·simp(maxSteps:=9^9) [gJ,hp]
def Cl.imp {call:Nat->List V->Option V}(hc:rI call){Q:Ex->St->Prop}(hQ:Cl Q){ks:List Fr}(hz:kz ks=true){A:Prop}:Cl (fun e X=>A->wp call Q ks (some (e,X))):=fun e Z X k h a=>Ur hc hQ hz k (h a)
def yT {B:Nat}(a5:B<=1048576){d:YF}(h:d.Ok B):ag Ph aC 393 [d.v]=some (az (OK d)):=by
 have hB:B<=maxLen:=by unfold maxLen;omega
 obtain⟨hn,hv,⟨aG,hs⟩,aH,hu⟩:=h
 have e1:=db (Zc hn hB)
 have e2:=bR d.aB 0 1000
 have aj:d.aA.length<=maxLen:=Zc aG hB
 have a7:d.aC.length<=maxLen:=Zc aH hB
 unfold OK
 refine ae rfl ?_
 simp(maxSteps:=9^9) [nR]
 refine aB bh Cl.fin [.f,.t,.f,.t,.f,.f,.f,.f,.f,.f,.f,.f,.f,.f,.f,.f,.f,.f,.f,.f,.f,.f,.f,.f,.f,.f,.f,.f,.f,.f,.f,.f,.f,.f,.f,.f,.f,.f,.f,.f,.f,.f,.f,.f,.f,.f,.f,.f,.f,.f,.f,.f,.f,.f,.f,.f,.f,.f,.f,.f,.f,.f,.f,.f,.f,.f,.f,.f,.f,.f,.f,.f,.f,.f,.f,.f,.f,.f,.f,.f,.f,.f,.f,.f,.f,.f,.f,.f,.f,.f,.f,.f,.f,.f,.f,.f,.f,.f,.f,.f,.f,.f,.f,.f,.f,.f,.f,.f,.f,.f,.f,.f,.f,.f,.f,.f,.f,.f,.f,.f,.f,.f,.f,.f] (fun k=>[(3,aa .i64 k)]) d.aA.length (S2 d.aA) rfl (by simp) (fun k hk _=> ?_) (fun _ hp=> ?_)
 ·obtain⟨q1,q2⟩:=xr aj hk
  have e3:=mI (Y7.Ok.mono hB (hs _ (Zf hk)))
  simp +contextual (maxSteps:=9^9) [fJ,S2,hk,q1,q2,aL aj hk,bd hk,Y7.e.eq_1 d.aA[k],Y7.e.eq_1 d.aA[k-1],e3]
 ·simp(maxSteps:=9^9) [fJ,hp]
  refine aB bh Cl.fin [.f,.t,.f,.f,.t,.f,.f,.f,.f,.f,.f,.f,.f,.f,.f,.f,.f,.f,.f,.f,.f,.f,.f,.f,.f,.f,.f,.f,.f,.f,.f,.f,.f,.f,.f,.f,.f,.f,.f,.f,.f,.f,.f,.f,.f,.f,.f,.f,.f,.f,.f,.f,.f,.f,.f,.f,.f,.f,.f,.f,.f,.f,.f,.f,.f,.f,.f,.f,.f,.f,.f,.f,.f,.f,.f,.f,.f,.f,.f,.f,.f,.f,.f,.f,.f,.f,.f,.f,.f,.f,.f,.f,.f,.f,.f,.f,.f,.f,.f,.f,.f,.f,.f,.f,.f,.f,.f,.f,.f,.f,.f,.f,.f,.f,.f,.f,.f,.f,.f,.f,.f,.f,.f,.f] (fun k=>[(4,aa .i64 k)]) d.aC.length (HI d.aA d.aC) rfl (by simp) (fun k hk _=> ?_) (fun _ hp=> ?_)
  ·have e3:=AP (d:=d) aj d.aC[k].aD
   have e4:=db (Zc (hu _ (Zf hk)).2 hB)
   have an:L7 d.aC k=gH k (iE (rh d.aC[k]) d.aC):=by simp[L7,hk]
   have hx:=Y9.e.eq_1 d.aC[k]
   rcases nk (UZ d.aC[k].aD) d.aA with⟨h1,h2⟩|⟨j,hj,h1,h2⟩<;>rw[h1]at e3
   ·rw[show HI d.aA d.aC k=true by simp[HI,hk,h2]]
    simp +contextual (maxSteps:=9^9) [ep,hk,e3,hx,aL a7 hk,bd hk,show bO (-1) 0=true from rfl]
   ·have e6:=xx a5 (hs _ (Zf hj)) d.aC[k].aP
    have hy:=Y7.e.eq_1 d.aA[j]
    rw[show HI d.aA d.aC k=(!(dg d.aC[k].aP)||(L7 d.aC k||(Um d.aC[k].aP (oZ d.aC[k].aP d.aA[j].a0)).2.2)) by simp[HI,hk,h2],an]
    generalize Um d.aC[k].aP (oZ d.aC[k].aP d.aA[j].a0)=T at e6⊢
    unfold WU at e6
    generalize dg d.aC[k].aP=N at e4⊢
    cases N
    ·simp +contextual (maxSteps:=9^9) [ep,hk,hj,e3,e4,e6,hx,hy,aL a7 hk,bd hk,uB]
    cases hT:T.2.2<;>rw[hT]at e6
    rotate_left
    ·simp +contextual (maxSteps:=9^9) [ep,hk,hj,e3,e4,e6,hx,hy,aL a7 hk,bd hk,uB]
    cases hD:gH k (iE (rh d.aC[k]) d.aC)
    ·simp(maxSteps:=9^9) [ep,hk,hj,e3,e4,e6,hx,hy,aL a7 hk,bd hk,uB]
     refine aB bh (Cl.kn) [.f,.t,.f,.f,.t,.f,.f,.f,.f,.t,.f,.f,.f,.f,.f,.f,.f,.f,.f,.f,.f,.f,.f,.f,.f,.f,.f,.f,.f,.f,.f,.f,.f,.f,.f,.f,.f,.f,.f,.f,.f,.f,.f,.f,.f,.f,.f,.f,.f,.f,.f,.f,.f,.f,.f,.f,.f,.f,.f,.f,.f,.f,.f,.f,.f,.f,.f,.f,.f,.f,.f,.f,.f,.f,.f,.f,.f,.f,.f,.f,.f,.f,.f,.f,.f,.f,.f,.f,.f,.f,.f,.f,.f,.f,.f,.f,.f,.f,.f,.f,.f,.f,.f,.f,.f,.f,.f,.f,.f,.f,.f,.f,.f,.f,.f,.f,.f,.f,.f,.f,.f,.f,.f,.f] (fun j=>[(9,aa .i64 j)]) k (iE (rh d.aC[k]) d.aC) rfl (by simp) (fun i hi _=> ?_) (fun _ hq=> ?_)
     ·have a8:i<d.aC.length:=by omega
      have aI:rh d.aC[k] d.aC[i]=(d.aC[i].aD==d.aC[k].aD&&d.aC[i].aP==d.aC[k].aP):=G7 _ _
      simp +contextual (maxSteps:=9^9) [fK,iE,aI,a8,hk,hx,Y9.e.eq_1 d.aC[i],p5,PT,aL a7 a8,bd hi,hD]
     ·simp(maxSteps:=9^9) [fK,aL a7 hk]
    ·simp(maxSteps:=9^9) [ep,hk,hj,e3,e4,e6,hx,hy,aL a7 hk,bd hk,uB]
     refine aB bh (Cl.imp bh Cl.fin rfl) [.f,.t,.f,.f,.t,.f,.f,.f,.f,.t,.f,.f,.f,.f,.f,.f,.f,.f,.f,.f,.f,.f,.f,.f,.f,.f,.f,.f,.f,.f,.f,.f,.f,.f,.f,.f,.f,.f,.f,.f,.f,.f,.f,.f,.f,.f,.f,.f,.f,.f,.f,.f,.f,.f,.f,.f,.f,.f,.f,.f,.f,.f,.f,.f,.f,.f,.f,.f,.f,.f,.f,.f,.f,.f,.f,.f,.f,.f,.f,.f,.f,.f,.f,.f,.f,.f,.f,.f,.f,.f,.f,.f,.f,.f,.f,.f,.f,.f,.f,.f,.f,.f,.f,.f,.f,.f,.f,.f,.f,.f,.f,.f,.f,.f,.f,.f,.f,.f,.f,.f,.f,.f,.f,.f] (fun j=>[(9,aa .i64 j)]) k (iE (rh d.aC[k]) d.aC) rfl (by simp) (fun i hi _=> ?_) (fun _ hq=> ?_)
     ·have a8:i<d.aC.length:=by omega
      have aI:rh d.aC[k] d.aC[i]=(d.aC[i].aD==d.aC[k].aD&&d.aC[i].aP==d.aC[k].aP):=G7 _ _
      simp +contextual (maxSteps:=9^9) [fK,iE,aI,a8,hk,hx,Y9.e.eq_1 d.aC[i],p5,PT,aL a7 a8,bd hi,hD]
     ·rw[hD]at hq;cases hq
  ·simp +contextual (maxSteps:=9^9) [ep,hp,e1,e2]
def C9 (s t:List UInt8)(x:Z3):Bool:=x.aR==s&&x.ah==t
def mG {c:Z5}(h:c.a6.length<=maxLen)(s t:List UInt8):ag Ph aC 333 [c.v,eE s,eE t]=some (aa .i64 (dQ (C9 s t) c.a6)):=by
 have e1:=yK (e:=Z3.e) (p:=C9 s t) (xs:=c.a6) (k:=346) (z:=7) (kc:=347) (caps:=[[.str s],[.str t]]) rfl h (fun _=>rfl) (fun x _=>by
  refine ae rfl ?_
  simp +contextual (maxSteps:=9^9) [oP,Z3.e.eq_1,tm,C9])
 refine ae rfl ?_
 simp +contextual (maxSteps:=9^9) [qu,kQ,pY,e1]
def u0 (es:List Z3)(k:Nat):Bool:=match es[k]? with
 |some e=> !(dg e.aR)||(!(dg e.ah)||(!(qW e.ak)||gH k (iE (C9 e.aR e.ah) es)))
 |none=>false
def P6 (es:List Z3):Bool:= !(gH es.length (u0 es))&& !(bO 12 es.length)
def wP {α:Type}{p:α->Bool}{xs:List α}{k:Nat}(hk:k<xs.length)(hs:p xs[k]=true):(!(dQ p xs==(k:Int)))=gH k (iE p xs):=by
 cases q:gH k (iE p xs)with
 |false=>rw[tb hk (fun j hj=>uc q hj) hs];simp
 |true=>
  rw[ZJ,beq_eq_false_iff_ne]
  intro e
  unfold gH at q
  rw[List.any_eq_true]at q
  obtain⟨j,hj,h⟩:=q
  have hj:=List.mem_range.1 hj
  unfold dQ at e
  cases h1:xs.findIdx? p with
  |none=>rw[h1]at e;simp only at e;omega
  |some i=>
   rw[h1]at e
   simp only at e
   obtain rfl:i=k:=by omega
   rw[ZV]at h1
   have h2:j<xs.length:=by omega
   have:=h1.2.2 j hj
   simp only[iE,h2,Zm]at h
   exact this h
def QS (cs:List Z5)(k:Nat):Bool:=match cs[k]?,cs[k-1]? with
 |some x,some y=> !(rg x.aB 1 1000000000000)||((bO 0 k&& !(bO y.aB x.aB))|| !(P6 x.a6))
 |_,_=>false
def OJ (cs:List Z5):Bool:= !(gH cs.length (QS cs))&& !(bO 4 cs.length)
def yZ {es:List Z3}(hl:es.length<=maxLen)(h:∀e∈es,e.Ok maxLen):ag Ph aC 399 [bY (es.map Z3.e)]=some (az (P6 es)):=by
 unfold P6
 refine ae rfl ?_
 simp +contextual (maxSteps:=9^9) [nX]
 refine aB bh Cl.fin [.t,.f,.f,.t,.f,.f,.f,.f,.f,.f,.f,.f,.f,.f,.f,.f,.f,.f,.f,.f,.f,.f,.f,.f,.f,.f,.f,.f,.f,.f,.f,.f,.f,.f,.f,.f,.f,.f,.f,.f,.f,.f,.f,.f,.f,.f,.f,.f,.f,.f,.f,.f,.f,.f,.f,.f,.f,.f,.f,.f,.f,.f,.f,.f,.f,.f,.f,.f] (fun k=>[(3,aa .i64 k)]) es.length (u0 es) rfl (by simp) (fun k hk _=> ?_) (fun _ hp=> ?_)
 ·have e1:=db (h _ (Zf hk)).1
  have e2:=db (h _ (Zf hk)).2.1
  have e3:=yV es[k].ak
  have hx:=Z3.e.eq_1 es[k]
  have hb:u0 es k=(!(dg es[k].aR)||(!(dg es[k].ah)||(!(qW es[k].ak)||gH k (iE (C9 es[k].aR es[k].ah) es)))):=by simp[u0,hk]
  rw[hb]
  generalize dg es[k].aR=b1 at e1⊢
  generalize dg es[k].ah=b2 at e2⊢
  generalize qW es[k].ak=b3 at e3⊢
  cases b1
  ·simp +contextual (maxSteps:=9^9) [eu,hk,hx,e1,bd hk]
  cases b2
  ·simp +contextual (maxSteps:=9^9) [eu,hk,hx,e1,e2,bd hk]
  cases b3
  ·simp +contextual (maxSteps:=9^9) [eu,hk,hx,e1,e2,e3,bd hk]
  cases hD:gH k (iE (C9 es[k].aR es[k].ah) es)
  ·simp(maxSteps:=9^9) [eu,hk,hx,e1,e2,e3,bd hk]
   refine aB bh Cl.kn [.t,.f,.f,.t,.t,.f,.f,.f,.f,.f,.f,.f,.f,.f,.f,.f,.f,.f,.f,.f,.f,.f,.f,.f,.f,.f,.f,.f,.f,.f,.f,.f,.f,.f,.f,.f,.f,.f,.f,.f,.f,.f,.f,.f,.f,.f,.f,.f,.f,.f,.f,.f,.f,.f,.f,.f,.f,.f,.f,.f,.f,.f,.f,.f,.f,.f,.f,.f] (fun j=>[(4,aa .i64 j)]) k (iE (C9 es[k].aR es[k].ah) es) rfl (by simp) (fun i hi _=> ?_) (fun _ hq=> ?_)
   ·have a8:i<es.length:=by omega
    simp +contextual (maxSteps:=9^9) [fL,iE,C9,hi,a8,hk,hx,Z3.e.eq_1 es[i],aL hl a8,bd hi,hD]
   ·simp(maxSteps:=9^9) [fL,aL hl hk]
  ·simp(maxSteps:=9^9) [eu,hk,hx,e1,e2,e3,bd hk]
   refine aB bh (Cl.imp bh Cl.fin rfl) [.t,.f,.f,.t,.t,.f,.f,.f,.f,.f,.f,.f,.f,.f,.f,.f,.f,.f,.f,.f,.f,.f,.f,.f,.f,.f,.f,.f,.f,.f,.f,.f,.f,.f,.f,.f,.f,.f,.f,.f,.f,.f,.f,.f,.f,.f,.f,.f,.f,.f,.f,.f,.f,.f,.f,.f,.f,.f,.f,.f,.f,.f,.f,.f,.f,.f,.f,.f] (fun j=>[(4,aa .i64 j)]) k (iE (C9 es[k].aR es[k].ah) es) rfl (by simp) (fun i hi _=> ?_) (fun _ hq=> ?_)
   ·have a8:i<es.length:=by omega
    simp +contextual (maxSteps:=9^9) [fL,iE,C9,hi,a8,hk,hx,Z3.e.eq_1 es[i],aL hl a8,bd hi,hD]
   ·rw[hD]at hq;cases hq
 ·simp(maxSteps:=9^9) [eu,hp]
def yS {s:YK}(h:s.Ok maxLen):ag Ph aC 392 [s.v]=some (az (OJ s.a1)):=by
 obtain⟨h1,h2⟩:=h
 have e2:=fun v=>bR v 1 1000000000000
 unfold OJ
 refine ae rfl ?_
 simp +contextual (maxSteps:=9^9) [nQ]
 refine aB bh Cl.fin [.f,.t,.f,.t,.f,.f,.f,.f,.f,.f,.f,.f,.f,.f,.f,.f,.f,.f,.f,.f,.f,.f,.f,.f,.f,.f,.f,.f,.f,.f,.f,.f,.f,.f,.f,.f,.f,.f,.f,.f,.f,.f,.f,.f,.f,.f,.f,.f,.f,.f,.f,.f,.f] (fun k=>[(3,aa .i64 k)]) s.a1.length (QS s.a1) rfl (by simp) (fun k hk _=> ?_) (fun _ hp=> ?_)
 ·obtain⟨q1,q2⟩:=xr h1 hk
  have hc:=h2 _ (Zf hk)
  have e3:=yZ hc.2.1 hc.2.2
  simp +contextual (maxSteps:=9^9) [iW,QS,hk,q1,q2,e2,e3,aL h1 hk,bd hk,Z5.e.eq_1 s.a1[k],Z5.e.eq_1 s.a1[k-1]]
 ·simp(maxSteps:=9^9) [iW,hp]
def yA {s:YK}(h:s.Ok maxLen):ag Ph aC 396 [s.v]=some (az (OJ s.a1)):=by
 obtain⟨h1,h2⟩:=h
 unfold OJ
 refine ae rfl ?_
 simp +contextual (maxSteps:=9^9) [nF]
 refine aB bh Cl.fin [.f,.t,.f,.f,.f,.f,.f,.f,.t,.t,.t,.f,.f,.f,.f,.f,.f,.f,.f,.f,.f,.f,.f,.f,.f,.f,.f,.f,.f,.f,.f,.f,.f,.f,.f,.f,.f,.f,.f,.f,.f,.f,.f,.f,.f,.f,.f,.f,.f,.f,.f,.f,.f,.f,.f,.f,.f,.f,.f,.f,.f,.f,.f,.f,.f,.f,.f,.f,.f,.f,.f,.f,.f,.f,.f,.f,.f,.f,.f,.f,.f] (fun k=>[(10,aa .i64 k)]) s.a1.length (QS s.a1) rfl (by simp) (fun k hk _=> ?_) (fun _ hp=> ?_)
 ·obtain⟨q1,q2⟩:=xr h1 hk
  have hc:=h2 _ (Zf hk)
  have e2:=bp s.a1[k].aB 1 1000000000000
  have hx:=Z5.e.eq_1 s.a1[k]
  have hy:=Z5.e.eq_1 s.a1[k-1]
  have hb:QS s.a1 k=(!(rg s.a1[k].aB 1 1000000000000)||((bO 0 k&& !(bO s.a1[k-1].aB s.a1[k].aB))||(bO 12 s.a1[k].a6.length||gH s.a1[k].a6.length (u0 s.a1[k].a6)))):=by
   simp only[QS,hk,q2,Zm,P6,Bool.not_and,Bool.not_not]
   rw[Bool.or_comm (bO 12 _)]
  rw[hb]
  generalize rg s.a1[k].aB 1 1000000000000=b1 at e2⊢
  cases b1
  ·simp +contextual (maxSteps:=9^9) [de,hk,hx,e2,bd hk]
  cases c2:bO 0 k&& !(bO s.a1[k-1].aB s.a1[k].aB)
  rotate_left
  ·rw[Zh]at c2
   have c3:=q1 c2.1
   have c4:bO s.a1[k-1].aB s.a1[k].aB=false:=by simpa using c2.2
   simp +contextual (maxSteps:=9^9) [de,hk,q2,hx,hy,e2,c2.1,c3,c4,bd hk]
  have c3:bO 0 k=true->bO s.a1[k-1].aB s.a1[k].aB=true:=fun q=>by simpa[q]using c2
  cases c4:bO 12 s.a1[k].a6.length
  rotate_left
  ·simp +contextual (maxSteps:=9^9) [de,hk,q1,q2,hx,hy,e2,c3,c4,bd hk]
  cases hD:gH s.a1[k].a6.length (u0 s.a1[k].a6)
  ·cases c5:bO 0 k
   ·simp(maxSteps:=9^9) [de,hk,hx,e2,c5,c4,bd hk]
    refine aB bh Cl.kn [.f,.t,.f,.f,.t,.f,.f,.f,.t,.t,.t,.f,.f,.f,.f,.f,.f,.f,.f,.f,.f,.f,.f,.f,.f,.f,.f,.f,.f,.f,.f,.f,.f,.f,.f,.f,.f,.f,.f,.f,.f,.f,.t,.t,.t,.f,.f,.f,.f,.f,.f,.f,.f,.f,.f,.f,.f,.f,.f,.f,.f,.f,.f,.f,.f,.f,.f,.f,.f,.f,.f,.f,.f,.f,.f,.f,.f,.f,.f,.f,.f] (fun j=>[(44,aa .i64 j)]) s.a1[k].a6.length (u0 s.a1[k].a6) rfl (by simp) (fun j hj _=> ?_) (fun _ hq=> ?_)
    ·have he:=hc.2.2 _ (Zf hj)
     have e4:=bP he.1
     have e5:=bP he.2.1
     have e6:=jQ s.a1[k].a6[j].ak
     have e7:=mG (c:=s.a1[k]) hc.2.1 s.a1[k].a6[j].aR s.a1[k].a6[j].ah
     have hs:=wP (p:=C9 s.a1[k].a6[j].aR s.a1[k].a6[j].ah) hj (by simp[C9])
     have hz:=Z3.e.eq_1 s.a1[k].a6[j]
     have ao:u0 s.a1[k].a6 j=(!(dg s.a1[k].a6[j].aR)||(!(dg s.a1[k].a6[j].ah)||(!(qW s.a1[k].a6[j].ak)||gH j (iE (C9 s.a1[k].a6[j].aR s.a1[k].a6[j].ah) s.a1[k].a6)))):=by simp[u0,hj]
     rw[ao,<-hs]
     generalize dQ (C9 s.a1[k].a6[j].aR s.a1[k].a6[j].ah) s.a1[k].a6=F at e7⊢
     obtain⟨g,hg⟩:∃g,(F==(j:Int))=g:=⟨_,rfl⟩
     rw[hg]
     simp +contextual (maxSteps:=9^9) [dG,hj,hz,e4,e5,e6,e7,hg,aL hc.2.1 hj,bd hj,hD]
    ·simp(maxSteps:=9^9) [dG,aL h1 hk]
   ·have c6:=q1 c5
    have c7:=c3 c5
    simp(maxSteps:=9^9) [de,hk,q2,hx,hy,e2,c5,c6,c7,c4,bd hk]
    refine aB bh Cl.kn [.f,.t,.f,.f,.t,.f,.f,.f,.t,.t,.t,.f,.f,.f,.f,.f,.f,.f,.f,.f,.f,.f,.f,.f,.f,.f,.f,.f,.f,.f,.f,.f,.f,.f,.f,.f,.f,.f,.f,.f,.f,.f,.t,.t,.t,.f,.f,.f,.f,.f,.f,.f,.f,.f,.f,.f,.f,.f,.f,.f,.f,.f,.f,.f,.f,.f,.f,.f,.f,.f,.f,.f,.f,.f,.f,.f,.f,.f,.f,.f,.f] (fun j=>[(44,aa .i64 j)]) s.a1[k].a6.length (u0 s.a1[k].a6) rfl (by simp) (fun j hj _=> ?_) (fun _ hq=> ?_)
    ·have he:=hc.2.2 _ (Zf hj)
     have e4:=bP he.1
     have e5:=bP he.2.1
     have e6:=jQ s.a1[k].a6[j].ak
     have e7:=mG (c:=s.a1[k]) hc.2.1 s.a1[k].a6[j].aR s.a1[k].a6[j].ah
     have hs:=wP (p:=C9 s.a1[k].a6[j].aR s.a1[k].a6[j].ah) hj (by simp[C9])
     have hz:=Z3.e.eq_1 s.a1[k].a6[j]
     have ao:u0 s.a1[k].a6 j=(!(dg s.a1[k].a6[j].aR)||(!(dg s.a1[k].a6[j].ah)||(!(qW s.a1[k].a6[j].ak)||gH j (iE (C9 s.a1[k].a6[j].aR s.a1[k].a6[j].ah) s.a1[k].a6)))):=by simp[u0,hj]
     rw[ao,<-hs]
     generalize dQ (C9 s.a1[k].a6[j].aR s.a1[k].a6[j].ah) s.a1[k].a6=F at e7⊢
     obtain⟨g,hg⟩:∃g,(F==(j:Int))=g:=⟨_,rfl⟩
     rw[hg]
     simp +contextual (maxSteps:=9^9) [dG,hj,hz,e4,e5,e6,e7,hg,aL hc.2.1 hj,bd hj,hD]
    ·simp(maxSteps:=9^9) [dG,aL h1 hk]
  ·cases c5:bO 0 k
   ·simp(maxSteps:=9^9) [de,hk,hx,e2,c5,c4,bd hk]
    refine aB bh (Cl.imp bh Cl.fin rfl) [.f,.t,.f,.f,.t,.f,.f,.f,.t,.t,.t,.f,.f,.f,.f,.f,.f,.f,.f,.f,.f,.f,.f,.f,.f,.f,.f,.f,.f,.f,.f,.f,.f,.f,.f,.f,.f,.f,.f,.f,.f,.f,.t,.t,.t,.f,.f,.f,.f,.f,.f,.f,.f,.f,.f,.f,.f,.f,.f,.f,.f,.f,.f,.f,.f,.f,.f,.f,.f,.f,.f,.f,.f,.f,.f,.f,.f,.f,.f,.f,.f] (fun j=>[(44,aa .i64 j)]) s.a1[k].a6.length (u0 s.a1[k].a6) rfl (by simp) (fun j hj _=> ?_) (fun _ hq=> ?_)
    ·have he:=hc.2.2 _ (Zf hj)
     have e4:=bP he.1
     have e5:=bP he.2.1
     have e6:=jQ s.a1[k].a6[j].ak
     have e7:=mG (c:=s.a1[k]) hc.2.1 s.a1[k].a6[j].aR s.a1[k].a6[j].ah
     have hs:=wP (p:=C9 s.a1[k].a6[j].aR s.a1[k].a6[j].ah) hj (by simp[C9])
     have hz:=Z3.e.eq_1 s.a1[k].a6[j]
     have ao:u0 s.a1[k].a6 j=(!(dg s.a1[k].a6[j].aR)||(!(dg s.a1[k].a6[j].ah)||(!(qW s.a1[k].a6[j].ak)||gH j (iE (C9 s.a1[k].a6[j].aR s.a1[k].a6[j].ah) s.a1[k].a6)))):=by simp[u0,hj]
     rw[ao,<-hs]
     generalize dQ (C9 s.a1[k].a6[j].aR s.a1[k].a6[j].ah) s.a1[k].a6=F at e7⊢
     obtain⟨g,hg⟩:∃g,(F==(j:Int))=g:=⟨_,rfl⟩
     rw[hg]
     simp +contextual (maxSteps:=9^9) [dG,hj,hz,e4,e5,e6,e7,hg,aL hc.2.1 hj,bd hj,hD]
    ·rw[hD]at hq;cases hq
   ·have c6:=q1 c5
    have c7:=c3 c5
    simp(maxSteps:=9^9) [de,hk,q2,hx,hy,e2,c5,c6,c7,c4,bd hk]
    refine aB bh (Cl.imp bh Cl.fin rfl) [.f,.t,.f,.f,.t,.f,.f,.f,.t,.t,.t,.f,.f,.f,.f,.f,.f,.f,.f,.f,.f,.f,.f,.f,.f,.f,.f,.f,.f,.f,.f,.f,.f,.f,.f,.f,.f,.f,.f,.f,.f,.f,.t,.t,.t,.f,.f,.f,.f,.f,.f,.f,.f,.f,.f,.f,.f,.f,.f,.f,.f,.f,.f,.f,.f,.f,.f,.f,.f,.f,.f,.f,.f,.f,.f,.f,.f,.f,.f,.f,.f] (fun j=>[(44,aa .i64 j)]) s.a1[k].a6.length (u0 s.a1[k].a6) rfl (by simp) (fun j hj _=> ?_) (fun _ hq=> ?_)
    ·have he:=hc.2.2 _ (Zf hj)
     have e4:=bP he.1
     have e5:=bP he.2.1
     have e6:=jQ s.a1[k].a6[j].ak
     have e7:=mG (c:=s.a1[k]) hc.2.1 s.a1[k].a6[j].aR s.a1[k].a6[j].ah
     have hs:=wP (p:=C9 s.a1[k].a6[j].aR s.a1[k].a6[j].ah) hj (by simp[C9])
     have hz:=Z3.e.eq_1 s.a1[k].a6[j]
     have ao:u0 s.a1[k].a6 j=(!(dg s.a1[k].a6[j].aR)||(!(dg s.a1[k].a6[j].ah)||(!(qW s.a1[k].a6[j].ak)||gH j (iE (C9 s.a1[k].a6[j].aR s.a1[k].a6[j].ah) s.a1[k].a6)))):=by simp[u0,hj]
     rw[ao,<-hs]
     generalize dQ (C9 s.a1[k].a6[j].aR s.a1[k].a6[j].ah) s.a1[k].a6=F at e7⊢
     obtain⟨g,hg⟩:∃g,(F==(j:Int))=g:=⟨_,rfl⟩
     rw[hg]
     simp +contextual (maxSteps:=9^9) [dG,hj,hz,e4,e5,e6,e7,hg,aL hc.2.1 hj,bd hj,hD]
    ·rw[hD]at hq;cases hq
 ·simp(maxSteps:=9^9) [de,hp]
end Gi
