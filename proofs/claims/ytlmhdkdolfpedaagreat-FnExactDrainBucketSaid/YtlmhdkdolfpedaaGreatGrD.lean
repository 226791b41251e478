/- Of this proof. -/
import Derived.Test.YtlmhdkdolfpedaaGreatGmB
import Derived.Test.YtlmhdkdolfpedaaGreatGmD
import Derived.Test.YtlmhdkdolfpedaaGreatGkp
import Derived.Test.YtlmhdkdolfpedaaGreatGlO
import Derived.Test.YtlmhdkdolfpedaaGreatGks
set_option linter.all false
namespace Gi
open Go Go.RowKit
set_option maxHeartbeats 8000000
set_option maxRecDepth 4000
attribute [local simp] start qY dX eX fi gx fh gv gC gB sE sO sF sP sG sQ sH sR sI sS sJ sU sK sV sM sW sN sX V.cells plain dM iZ isInt isStr isBool bin ez je eA jf gy un asList L.view cy V.view viewL dd cu eD dN ee comp cV dS eV dV dC dz dA cG ct df cq cF cO cA dx du cI dD dF V.flat L.flat fb ft dK putAt thaw thawL thawT V.ow gA fk fm eB gz eC fj freezeVs freezeLs freezeL V.mut L.mut cN fI iE dj dQ cZ fK ed dE ew L.bC cT fA ep fD ej eG wp_seq wp_block dk fq eE dO eF wp_skip wp_exit wp_ret eJ eM eP eO eS eT eR dU cM L.bA cY cW cX fo dI storeD de hJ co eK cJ nI L.bE L.closed V.closed PV.bare PV.flat
abbrev wN (w:X0)(bs:List Q1):List L:=[.pv (.int .i64 w.aj), .pv (.bool w.aN), .pv (.int .i64 w.aQ),nd 24 (bs.map Q1.e), .down 11 (w.aL.map X8.e), .pv (.int .i64 w.aI), .down 4 (w.aJ.aJ.map X5.e), .down 3 (w.aO.aW.map X9.e),nd 4 (w.aK.map X4.e),nd 5 (w.a5.map Q3.e)]
abbrev wO (w:X0)(bs:List Q1):List L:=[.pv (.int .i64 w.aj), .pv (.bool w.aN), .pv (.int .i64 w.aQ),oW 24 (bs.map Q1.e), .own 11 (w.aL.map X8.e), .pv (.int .i64 w.aI), .own 4 (w.aJ.aJ.map X5.e), .own 3 (w.aO.aW.map X9.e), .own 4 (w.aK.map X4.e), .own 5 (w.a5.map Q3.e)]
def J7 (s:Q5):List L:=[.pv (.str s.aG),qm (s.a1.map Q2.e), .pv (.int .i64 s.aS)]
def abm (x:Q5×Bool):fb (NT x)= .b8 [(true,J7 x.1),(false,[.pv (.bool x.2)])]:=by simp[fb, ↓dx,ft,J7]
def NY (s:Q5):fb (.agg [.pv (.str s.aG),nd 4 (s.a1.map Q2.e), .pv (.int .i64 s.aS)])= .agg (J7 s):=by simp[fb, ↓du,ft,J7]
def kB (s:Q5)(k:Y7):X6:=match s.a1[(fO (Fj k) s.a1).toNat]? with
 |some x=>if 0<=fO (Fj k) s.a1 then x.au else⟨[]⟩
 |none=>⟨[]⟩
def Uh {α:Type}{p:α->Bool}{xs:List α}(h:0<=fO p xs):(fO p xs).toNat<xs.length:=by rcases Ai p xs with e|⟨k,hk,e,_⟩;rw[e]at h;omega;rw[e];simpa using hk
def UI {s:Q5}{k:Y7}(h:0<=fO (Fj k) s.a1):∃x,s.a1[(fO (Fj k) s.a1).toNat]? =some x/\ kB s k=x.au:=by refine⟨_,Zk (Uh h),?_⟩;unfold kB;rw[Zk (Uh h)];simp only[if_pos h]
def UH {s:Q5}{k:Y7}(h:¬0<=fO (Fj k) s.a1):kB s k=⟨[]⟩:=by unfold kB;split<;>simp[h]
def JQ {B:Nat}{s:Q5}(h:s.Ok B)(k:Y7):(kB s k).Ok B:=by unfold kB;split;rename_i x e;split;exact(h.2.1.2 x (Zn e)).2;exact⟨YA _,fun f m=>by simp at m⟩;exact⟨YA _,fun f m=>by simp at m⟩
def rgI {n a b:Int}:rg n a b=true↔a<=n/\ n<=b:=by simp[rg,dZ]
def afu {fs:List Q8}(h:gJ fs=true):fs.length<=6/\ ∀f∈fs,f.aG.length<=8/\ 0<=f.n/\ f.n<=1000000000000:=by simp only[gJ,Zg,ZB]at h;have hl:=of_decide_eq_false h.2;refine⟨by omega,fun f m=> ?_⟩;obtain⟨j,hj,rfl⟩:=Yb.1 m;have:=tq h.1 hj;simp only[Pa,hj,show j-1<fs.length by omega,Zk,ZR,Ya,rgI]at this;have q:=this.1;simp only[fU,vi,Zg,rgI]at q;exact⟨by omega,this.2.1.1,by omega⟩
def aaT {B:Nat}(hB:16<=B){fs:List Q8}(h:gJ fs=true):(⟨fs⟩:X6).Ok B:=by obtain⟨h1,h2⟩:=afu h;refine⟨by simp only;omega,fun f m=> ?_⟩;obtain⟨q1,q2,q3⟩:=h2 f m;exact⟨by omega,by unfold nV;omega⟩
def NX {B:Nat}(hB:16<=B){r:X6}(h:r.Ok B)(nm:List UInt8)(n:Int):(⟨(setR r.fs nm n).1⟩:X6).Ok B:=by
 unfold setR;cases c:gJ r.fs&&gJ (yb r.fs nm n)with
 |false=>exact h
 |true=>rw[Zg]at c;exact aaT hB c.2
def acz {B:Nat}(hB:17<=B){s:Q5}(h:s.Ok B){k:Y7}(hk:k.Ok B){r:X6}(hr:r.Ok B):(AS s k r).1.Ok B:=by
 unfold AS;cases gj s&&(nA k&&gJ r.fs)with
 |false=>exact h
 |true=>
  simp only[cond_true];split;exact⟨h.1,NZ h hk hr _,h.2.2⟩;split;exact h;rename_i hl;have ak:=NE h hk hr;have hlen:(t8 s k r).length=s.a1.length+1:=by have:=DD s.a1 k;simp[t8];omega
  refine⟨h.1,⟨by simp only;omega,fun x m=> ?_⟩,O9 h.2.2 hk.2.1⟩;simp only[t8,Ye,ZF]at m;rcases m with m|rfl|m;exact h.2.1.2 x (ZA m);exact⟨hk,hr⟩;exact h.2.1.2 x (Yc m)
def vt (s:Q5)(w:Q4):Q5×Bool:=cond (setR (kB s w.aZ).fs w.aU w.n).2 (AS s w.aZ ⟨(setR (kB s w.aZ).fs w.aU w.n).1⟩) (s,false)
def UO {B:Nat}(hB:17<=B){s:Q5}(h:s.Ok B){w:Q4}(hw:w.Ok B):(vt s w).1.Ok B:=by
 unfold vt;cases(setR (kB s w.aZ).fs w.aU w.n).2 with
 |false=>exact h
 |true=>exact acz hB h hw.2.2.1 (NX (by omega) (JQ h _) _ _)
def Tv {s:Q5}{w:Q4}(h:(vt s w).2=false):(vt s w).1=s:=by
 unfold vt at h⊢;cases c:(setR (kB s w.aZ).fs w.aU w.n).2 with
 |false=>rfl
 |true=>
  rw[c]at h;simp only[cond_true]at h⊢;unfold AS at h⊢;cases d:gj s&&(nA w.aZ&&gJ (setR (kB s w.aZ).fs w.aU w.n).1)with
  |false=>rw[cond_false]
  |true=>rw[d]at h;simp only[cond_true]at h⊢;split at h;cases h;split at h;rename_i h1 h2;rw[if_neg h1,if_pos h2];cases h
def abn (x:List Q8×Bool):fb (Fw x)= .b8 [(true,[.pv (.lst (x.1.map Q8.e))]),(false,[.pv (.bool x.2)])]:=by simp[fb,ft]
def tb {B:Nat}(ad:17<=B)(hB:B<=1048576){s:Q5}(h:s.Ok B){w:Q4}(hw:w.Ok B):cf Ph cL 326 [s.v, .agg (w.e.map .pv)]=some (sC (vt s w)):=by
 have hl:s.a1.length<=1048576:=Zc h.2.1.1 hB;have a6:=JQ h w.aZ;have e1:=jH hB h;have e2:=xc (s:=s) (by unfold maxLen;omega) w.aZ;have e3:cf Ph cL 341 [.agg [.pv (.lst ((kB s w.aZ).fs.map Q8.e))],fY w.aU,ce .i64 w.n]=some (Fw (setR (kB s w.aZ).fs w.aU w.n)):=E9 hB a6 hw.2.2.2.1 hw.2.2.2.2;have e4:cf Ph cL 342 [s.v,w.aZ.v, .agg [.pv (.lst ((setR (kB s w.aZ).fs w.aU w.n).1.map Q8.e))]]=some (sC (AS s w.aZ ⟨(setR (kB s w.aZ).fs w.aU w.n).1⟩)):=Hf hB h hw.2.2.1 (NX (by omega) a6 _ _);have b1:(!(dZ (fO (Fj w.aZ) s.a1) 0))=decide (0<=fO (Fj w.aZ) s.a1):=by unfold dZ;by_cases q:0<=fO (Fj w.aZ) s.a1<;>simp[q];omega
 have ht:=UI (s:=s) (k:=w.aZ);have hf:=UH (s:=s) (k:=w.aZ);unfold vt;generalize AS s w.aZ ⟨(setR (kB s w.aZ).fs w.aU w.n).1⟩=p at*;generalize setR (kB s w.aZ).fs w.aU w.n=sr at*;generalize kB s w.aZ=rc at*;generalize fO (Fj w.aZ) s.a1=i at*;obtain⟨ae,b⟩:=sr;obtain⟨p1,p2⟩:=p;simp only[sC]at e3 e4⊢;by_cases q:0<=i;obtain⟨x,hi,hx⟩:=ht q;have a2:=Q2.e.eq_1 x;rw[<-hx]at a2;have hm:(s.a1.map Q2.e)[i.toNat]? =some x.e:=by rw[Zp,hi];rfl
 cases b;rcases jK 4 (s.a1.map Q2.e)with⟨_,u,_⟩|⟨_,u,_⟩<;>rw[u]at e1<;>(refine ca rfl ?_;simp(maxSteps:=9^9) [gh,Q4.e.eq_1,e1,e2,e3,b1,q,hm,a2,u]);rcases jK 4 (p1.a1.map Q2.e)with⟨_,u,_⟩|⟨_,u,_⟩<;>rw[u]at e4<;>(refine ca rfl ?_;simp(maxSteps:=9^9) [gh,Q4.e.eq_1,e2,e3,e4,b1,q,hm,a2,u]);have hx:=hf q;rw[hx]at e3;simp only[Zy]at e3;cases b;rcases jK 4 (s.a1.map Q2.e)with⟨_,u,_⟩|⟨_,u,_⟩<;>rw[u]at e1<;>(refine ca rfl ?_;simp(maxSteps:=9^9) [gh,Q4.e.eq_1,e1,e2,e3,b1,q,u]);rcases jK 4 (p1.a1.map Q2.e)with⟨_,u,_⟩|⟨_,u,_⟩<;>rw[u]at e4<;>(refine ca rfl ?_;simp(maxSteps:=9^9) [gh,Q4.e.eq_1,e2,e3,e4,b1,q,u])
def te {B:Nat}(ad:17<=B)(hB:B<=1048576){s:Q5}(h:s.Ok B){w:Q4}(hw:w.Ok B):cf Ph cL 323 [s.v, .agg (w.e.map .pv)]=some (.b8 [(true,J7 (vt s w).1),(false,[.pv (.bool (vt s w).2)])]):=by
 have hl:s.a1.length<=1048576:=Zc h.2.1.1 hB;have a6:=JQ h w.aZ;have e1:=lZ hB h;have e2:=xp (s:=s) (by unfold maxLen;omega) w.aZ;have e3:cf Ph cL 338 [.agg [.pv (.lst ((kB s w.aZ).fs.map Q8.e))],fY w.aU,ce .i64 w.n]=some (Fw (setR (kB s w.aZ).fs w.aU w.n)):=FD hB a6 hw.2.2.2.1 hw.2.2.2.2;have e4:cf Ph cL 339 [s.v,w.aZ.v, .agg [.pv (.lst ((setR (kB s w.aZ).fs w.aU w.n).1.map Q8.e))]]=some (NT (AS s w.aZ ⟨(setR (kB s w.aZ).fs w.aU w.n).1⟩)):=Hn hB h hw.2.2.1 (NX (by omega) a6 _ _);have e5:=abm (AS s w.aZ ⟨(setR (kB s w.aZ).fs w.aU w.n).1⟩);have e6:=NY s;have e7:=abn (setR (kB s w.aZ).fs w.aU w.n);have b1:(!(dZ (fO (Fj w.aZ) s.a1) 0))=decide (0<=fO (Fj w.aZ) s.a1):=by unfold dZ;by_cases q:0<=fO (Fj w.aZ) s.a1<;>simp[q];omega
 have ht:=UI (s:=s) (k:=w.aZ);have hf:=UH (s:=s) (k:=w.aZ);unfold vt;generalize NT (AS s w.aZ ⟨(setR (kB s w.aZ).fs w.aU w.n).1⟩)=pr at*;generalize AS s w.aZ ⟨(setR (kB s w.aZ).fs w.aU w.n).1⟩=p at*;generalize Fw (setR (kB s w.aZ).fs w.aU w.n)=rr at*;generalize setR (kB s w.aZ).fs w.aU w.n=sr at*;generalize hn:(V.agg [.pv (.str s.aG),nd 4 (s.a1.map Q2.e), .pv (.int .i64 s.aS)])=nv at*;generalize kB s w.aZ=rc at*;generalize fO (Fj w.aZ) s.a1=i at*;simp only[J7]at e5 e6⊢;clear hn;obtain⟨ae,b⟩:=sr;simp only at e3 e4 e7;by_cases q:0<=i;obtain⟨x,hi,hx⟩:=ht q;have a2:=Q2.e.eq_1 x;rw[<-hx]at a2;have hm:(s.a1.map Q2.e)[i.toNat]? =some x.e:=by rw[Zp,hi];rfl
 refine ca rfl ?_;cases b<;>simp(maxSteps:=9^9) [jV,Q4.e.eq_1,e1,e2,e3,e4,b1,q,hm,a2, ↓e5, ↓e6, ↓e7, ↓cF, ↓ct, ↓cG, ↓cq];have hx:=hf q;rw[hx]at e3;simp only[Zy]at e3;refine ca rfl ?_;cases b<;>simp(maxSteps:=9^9) [jV,Q4.e.eq_1,e1,e2,e3,e4,b1,q, ↓e5, ↓e6, ↓e7, ↓cF, ↓ct, ↓cG, ↓cq]
def noW :Q4:=⟨0,0,⟨0,0,[]⟩,[],0⟩
def xN (o:Y0):Q4×Bool:=match o.aA with
 |[]=>(noW,false)
 |w::_=>(w,true)
abbrev fwV (x:Q4×Bool):V:= .b8 [(true,x.1.e.map .pv),(false,[.pv (.bool x.2)])]
def ve (o:Y0)(hl:o.aA.length<=maxLen):cf Ph cL 679 [o.v]=some (fwV (xN o)):=by
 obtain⟨d,n,ws⟩:=o;unfold xN;refine ca rfl ?_;cases ws with
 |nil=>simp(maxSteps:=9^9) [nw,noW,Q4.e.eq_1]
 |cons w ws=>
  have hx:=Q4.e.eq_1 w;have h1:¬((ws.length:Int)+1=0):=by omega
  simp(maxSteps:=9^9) [nw,hx,h1]
def B8 (o:Y0)(hl:o.aA.length<=maxLen):cf Ph cL 675 [o.v]=some (fwV (xN o)):=by
 obtain⟨d,n,ws⟩:=o;unfold xN;refine ca rfl ?_;cases ws with
 |nil=>simp(maxSteps:=9^9) [ny,noW,Q4.e.eq_1]
 |cons w ws=>
  have hx:=Q4.e.eq_1 w;have h1:¬((ws.length:Int)+1=0):=by omega
  simp(maxSteps:=9^9) [ny,hx,h1]
def pw (k:Nat):Int:=((2^k:Nat):Int)
def boT (t:Int):Nat:=min t.toNat 6
def boX (t:Int):Int:=pw (boT t)
def aal {t:Int}{k:Nat}(h:k<boT t):dZ (k:Int) t=true/\ dZ (pw k) 64=true/\ IntKind.i64.wrap (pw k*2)=pw (k+1)/\ IntKind.i64.wrap (2*pw k)=pw (k+1)/\ IntKind.i64.wrap ((k:Int)+1)=(k:Int)+1:=by
 unfold boT at h;have hk:k<6:=by omega
 refine⟨ji (by omega),?_⟩;rcases k with _|_|_|_|_|_|k;decide;decide;decide;decide;decide;decide;omega
def T8 (t:Int):(dZ (boT t:Int) t&&dZ (pw (boT t)) 64)=false:=by
 unfold boT;by_cases h:t.toNat<=6;rw[Nat.min_eq_left h];have:dZ (t.toNat:Int) t=false:=iN (by omega);rw[this];rfl;rw[Nat.min_eq_right (by omega)];have:dZ (pw 6) 64=false:=by decide
 rw[this,ZY]
def Dm (t:Int):cf Ph cL 681 [ce .i64 t]=some (ce .i64 (boX t)):=by
 have he:=T8 t;have hs:= @aal t;unfold boX;refine ca rfl ?_;simp(maxSteps:=9^9) [ro];refine fB dG Cl.fin (boT t) [.t,.f,.f,.t,.t,.f,.f,.f,.f,.f,.f,.f,.f,.f,.f,.f,.f] (fun k=>[(3,ce .i64 (pw k)),(4,ce .i64 k)]) (fun k=>[]) rfl (by simp[pw]) (fun k hk=> ?_) ?_;obtain⟨q1,q2,q3,q4,q5⟩:=hs hk;simp(maxSteps:=9^9) [mj,q1,q2,q3,q4,q5]
 ·generalize boT t=m at he⊢;generalize pw m=p at he⊢;cases q1:dZ (m:Int) t<;>cases q2:dZ p 64<;>rw[q1,q2]at he<;>first|exact absurd he (by decide)|simp(maxSteps:=9^9) [mj,q1,q2]
def DL (t:Int):cf Ph cL 678 [ce .i64 t]=some (ce .i64 (boX t)):=by
 have he:=T8 t;have hs:= @aal t;unfold boX;refine ca rfl ?_;simp(maxSteps:=9^9) [rV];refine fB dG Cl.fin (boT t) [.t,.f,.f,.t,.t,.f,.f,.f,.f,.f,.f,.f,.f,.f,.f,.f,.f] (fun k=>[(3,ce .i64 (pw k)),(4,ce .i64 k)]) (fun k=>[]) rfl (by simp[pw]) (fun k hk=> ?_) ?_;obtain⟨q1,q2,q3,q4,q5⟩:=hs hk;simp(maxSteps:=9^9) [mp,q1,q2,q3,q4,q5]
 ·generalize boT t=m at he⊢;generalize pw m=p at he⊢;cases q1:dZ (m:Int) t<;>cases q2:dZ p 64<;>rw[q1,q2]at he<;>first|exact absurd he (by decide)|simp(maxSteps:=9^9) [mp,q1,q2]
def oX (d:Int):List Q7->Nat
 |[]=>0
 |a::l=>if a.aY<d then oX d l+1 else 0
def Ap (d:Int):∀l:List Q7,oX d l<=l.length
 |[]=>Zi _
 |a::l=>by have:=Ap d l;unfold oX;split;simp only[Zo];omega;exact YA _
def HQ {d:Int}:∀{l:List Q7}{j:Nat}(hj:j<l.length),j<oX d l->(l[j]'hj).aY<d
 |[],j,hj,h=>by simp at hj
 |a::l,j,hj,h=>by
  unfold oX at h;split at h;rename_i q;cases j with
  |zero=>exact q
  |succ j=>exact HQ (l:=l) (by simpa using hj) (by omega)
  omega
def HO {d:Int}:∀{l:List Q7}(h:oX d l<l.length),¬(l[oX d l]'h).aY<d
 |[],h=>by simp at h
 |a::l,h=>by
  by_cases q:a.aY<d;have e:oX d (a::l)=oX d l+1:=by simp only[oX,if_pos q]
  have h':oX d l<l.length:=by rw[e]at h;simpa using h
  have:=HO h';simp only[e,YV];exact this;have e:oX d (a::l)=0:=by simp only[oX,if_neg q]
  simp only[e,Yy];exact q
def xk (l:List Q7)(d q:Int):List Q7:=match l[oX d l]? with
 |some a=>if a.aY=d then l.set (oX d l) ⟨d,q⟩else l.take (oX d l)++⟨d,q⟩::l.drop (oX d l)
 |none=>l.take (oX d l)++⟨d,q⟩::l.drop (oX d l)
def Hv {l:List Q7}(hl:l.length<=1048576)(d q:Int):cf Ph cL 690 [eQ (l.map Q7.e),ce .i64 d,ce .i64 q]=some (.one (.own 2 ((xk l d q).map Q7.e))):=by
 have hw:=fL (e:=Q7.e) (z:=2) (fun _=>rfl) l;have m0:=gS (m:=l.length) (z:=16) (by omega) (by omega);have hp:=Ap d l;have b1:= @HQ d l;have b2:= @HO d l;unfold xk;generalize oX d l=p at hp b1 b2⊢;have m1:=gS (m:=p) (z:=16) (by omega) (by omega);have m2:=gS (m:=p+1) (z:=16) (by omega) (by omega);have m3:=gS (m:=l.length+1) (z:=16) (by omega) (by omega);have w2:((l.map Q7.e).take p).all (fun e=>e.length==2)=true:=by rw[<-List.map_take];exact fL (e:=Q7.e) (z:=2) (fun _=>rfl) _
 have w3:((l.map Q7.e).drop p).all (fun e=>e.length==2)=true:=by rw[<-List.map_drop];exact fL (e:=Q7.e) (z:=2) (fun _=>rfl) _
 have t1:List.take (l.length-p) ((l.map Q7.e).drop p)=(l.map Q7.e).drop p:=Zs (by simp);have t2:p+1+(l.length-p)=l.length+1:=by omega
 refine ca rfl ?_;simp(maxSteps:=9^9) [uR,hw,m0];refine cP dG Cl.fin [.t,.t,.t,.f,.f,.f,.f,.t,.t,.f,.f,.f,.f,.f,.f,.f,.f,.f,.f,.f,.f,.f,.f,.f,.f,.f,.f,.f,.f,.f,.f,.f,.f,.f,.f,.f,.f,.f,.f,.f,.f,.f,.f,.f,.f,.f,.f,.f,.f,.f,.f,.f,.f,.f,.f,.f,.f,.f,.f,.f] (fun k=>[(8,ce .i64 k)]) p (fun _=>false) rfl (by simp) (fun j hj _=> ?_) (fun _ _=> ?_);have a8:j<l.length:=by omega
 have l1:=ji (b1 a8 hj);simp +contextual (maxSteps:=9^9) [j8,a8,l1,da (n:=l.length) (by unfold maxLen;omega) a8,dw a8,Q7.e.eq_1 l[j]];by_cases hlt:p<l.length;have l1:=iN (Int.not_lt.1 (b2 hlt));have hx:=Q7.e.eq_1 l[p];rw[Zk hlt];by_cases hd:l[p].aY=d;simp only[if_pos hd];have hm:(l.map Q7.e).set p [.int .i64 d, .int .i64 q]=(l.set p ⟨d,q⟩).map Q7.e:=by rw[YJ];rfl
 generalize l.set p ⟨d,q⟩=F at hm⊢;have l2:dZ d d=false:=iN (Int.le_refl _);simp +contextual (maxSteps:=9^9) [j8,hlt,hx,l1,l2,dw hlt,hd,hm,hw];simp only[if_neg hd];simp +contextual (maxSteps:=9^9) [j8,hlt,hx,l1,dw hlt,hd,hw,hp,m0,m1,m2,m3,w2,w3,t1,t2,Q7.e];obtain rfl:p=l.length:=by omega
 have hn:l[l.length]? =none:=ZT (Zi _);rw[hn];have tl:List.take l.length (l.map Q7.e)=l.map Q7.e:=Zs (by simp);simp +contextual (maxSteps:=9^9) [j8,hw,m0,m1,m2,m3,w2,w3,tl,Q7.e]
def Fi (d:Int)(a:Q7):Bool:=a.aY==d
def jW (s:Q3)(d:Int):Int:=match s.a7.find? (Fi d)with
 |some a=>a.an
 |none=>0
def NI {s:Q3}{d:Int}{k:Nat}(hk:k<s.a7.length)(h:fO (Fi d) s.a7=(k:Int)):jW s d=s.a7[k].an:=by
 unfold jW;rcases mQ (Fi d) s.a7 with⟨q1,q2⟩|⟨j,hj,q1,q2⟩;omega;obtain rfl:j=k:=by omega
 rw[q2]
def NH {s:Q3}{d:Int}(h:fO (Fi d) s.a7= -1):jW s d=0:=by unfold jW;rcases mQ (Fi d) s.a7 with⟨q1,q2⟩|⟨j,hj,q1,q2⟩;rw[q2];omega
def yk {s:Q3}(h:s.a7.length<=maxLen)(d:Int):cf Ph cL 148 [s.v,ce .i64 d]=some (ce .i64 (jW s d)):=by
 have e1:=B2 (e:=Q7.e) (p:=Fi d) (xs:=s.a7) (k:=211) (z:=2) (kc:=212) (caps:=[[.int .i64 d]]) rfl h (fun _=>rfl) (fun x _=>by
  refine ca rfl ?_
  simp +contextual (maxSteps:=9^9) [kT,Q7.e.eq_1,wR,Fi])
 have e2:cf Ph cL 176 [s.v,ce .i64 d]=some (ce .i64 (fO (Fi d) s.a7)):=by refine ca rfl ?_;simp +contextual (maxSteps:=9^9) [mK,nN,tZ,e1]
 rcases mQ (Fi d) s.a7 with⟨q1,q2⟩|⟨j,hj,q1,q2⟩;have l0:dZ (-1) 0=true:=rfl;rw[NH q1];rw[q1]at e2;refine ca rfl ?_;simp(maxSteps:=9^9) [nQ,e2,l0];have l0:dZ (j:Int) 0=false:=iN (by omega);have hx:=Q7.e.eq_1 s.a7[j];rw[NI hj q1];rw[q1]at e2;refine ca rfl ?_;simp(maxSteps:=9^9) [nQ,e2,l0,hj,hx]
def yq {s:Q3}(h:s.a7.length<=maxLen)(d:Int):cf Ph cL 147 [s.v,ce .i64 d]=some (ce .i64 (jW s d)):=by
 refine ca rfl ?_;simp +contextual (maxSteps:=9^9) [uH];refine cP dG Cl.fin [.f,.t,.t,.f,.f,.t,.f,.f,.f,.f,.f,.f,.f,.f,.f,.f,.f,.f,.f,.f,.f,.f,.f,.f,.f,.f,.f] (fun k=>[(5,ce .i64 k)]) s.a7.length (kE (Fi d) s.a7) rfl (by simp) (fun k hk hj=> ?_) (fun hj _=> ?_);have hf:=wB hk hj;have hx:=Q7.e.eq_1 s.a7[k];have hs:(Fi d s.a7[k])=(s.a7[k].aY==d):=rfl;cases hg:Fi d s.a7[k];rw[hg]at hs;simp(maxSteps:=9^9) [lH,kE,hk,hg,<-hs,hx,da h hk,dw hk];have aa:=NI hk (hf hg);have ha:kE (Fi d) s.a7 k=true:=by simp only[kE,hk,Zk,hg]
 rw[hg]at hs;generalize jW s d=F at aa⊢;generalize kE (Fi d) s.a7 k=A at ha⊢;simp(maxSteps:=9^9) [lH,ha,hk,<-hs,aa,hx,da h hk,dw hk];simp +contextual (maxSteps:=9^9) [lH,NH (wA hj)]
def V2 (q:Int)(w:Q4):Bool:=dZ q w.an
def wM (o:Y0)(q:Int):Y0×Int:=bif mM o then(⟨o.aY,o.ag,o.aA.filter (V2 q)⟩,(o.aA.length:Int)-((o.aA.filter (V2 q)).length:Nat))else(o,0)
def ac0 {α:Type}{e:α->List PV}{call:Nat->List V->Option V}{c:Nat}{caps:List V}{p:α->Bool}:∀{xs:List α},(∀x∈xs,call c (.agg ((e x).map .pv)::caps)=some (cK (!(p x))))->iM call c caps (xs.map e)=some ((xs.filter p).map e)
 |[],_=>rfl
 |x::xs,h=>by have ih:=ac0 (xs:=xs) fun y hy=>h y (Ym _ hy);have hx:=h x Yw;rw[Zt,iM,hx,ih];cases hp:p x<;>simp[cK,YS,hp]
abbrev Tk (x:Y0×Int):V:= .b8 [(true,[.pv (.int .i64 x.1.aY), .pv (.int .i64 x.1.ag), .own 7 (x.1.aA.map Q4.e)]),(false,[.pv (.int .i64 x.2)])]
def vQ {B:Nat}(hB:B<=1048576){o:Y0}(h:o.Ok B)(q:Int):cf Ph cL 673 [o.v,ce .i64 q]=some (Tk (wM o q)):=by
 have hl:o.aA.length<=1048576:=Zc h.2.2.1 hB;have e1:=vf hB h;have e2:=oA (Y0.Ok.mono (show B<=maxLen by unfold maxLen;omega) h);have c2:iM (cf Ph cL) 689 [wR [.int .i64 q]] (o.aA.map Q4.e)=some ((o.aA.filter (V2 q)).map Q4.e):=ac0 (p:=V2 q) fun x hx=>by refine ca rfl ?_;simp(maxSteps:=9^9) [pH,Q4.e.eq_1 x,wR,V2,leI]
 have hf:(o.aA.filter (V2 q)).length<=o.aA.length:=YC _ _;have w1:IntKind.i64.wrap ((o.aA.length:Int)-((o.aA.filter (V2 q)).length:Nat))=(o.aA.length:Int)-((o.aA.filter (V2 q)).length:Nat):=by rw[IntKind.wrap_i64];omega
 unfold wM;cases c1:mM o<;>rw[c1]at e2;simp only[cond_false];refine ca rfl ?_;simp(maxSteps:=9^9) [lK,e1,e2];simp only[cond_true];refine ca rfl ?_;simp(maxSteps:=9^9) [lK,e1,e2,c2,nN,tZ,FA,oL,w1]
def acv {o:Y0}(h:mM o=true){k:Nat}(hk:k<o.aA.length):o.aA[k].an=o.ag-(o.aA.length:Int)+(k:Int):=by simp only[mM,Zg,ZB,vo]at h;obtain⟨_,h2,h3,h4⟩:=h;have h3:=of_decide_eq_false h3;have:=tq h4 hk;simp only[Ve,hk,Zk,ZR,Ya,beq_iff_eq]at this;rw[this.2.2,IntKind.wrap_i64,IntKind.wrap_i64];omega
def FV {q:Int}:∀(ws:List Q4)(a:Int),(∀k(hk:k<ws.length),ws[k].an=a+(k:Int))->∀n,n<=ws.length->(∀k(hk:k<ws.length),k<n->ws[k].an<=q)->(∀(hn:n<ws.length),q<ws[n].an)->ws.filter (V2 q)=ws.drop n
 |[],a,_,n,_,_,_=>by simp
 |w::ws,a,hs,n,hn,h1,h2=>by
  have h0:=hs 0 (by simp);have af:∀k(hk:k<ws.length),ws[k].an=(a+1)+(k:Int):=fun k hk=>by have:=hs (k+1) (by simp;omega);simp only[YV]at this;rw[this];push_cast;omega
  simp only[Yy]at h0;cases n with
  |zero=>
   have hq:=h2 (by simp);simp only[Yy]at hq;have all:∀x∈w::ws,V2 q x=true:=by intro x m;obtain⟨j,hj,rfl⟩:=Yb.1 m;have:=hs j hj;unfold V2;exact ji (by omega)
   rw[List.filter_eq_self.2 all,List.drop_zero]
  |succ n=>have hq:=h1 0 (by simp) (by omega);simp only[Yy]at hq;have hw:V2 q w=false:=iN hq;rw[YS,hw,List.drop_succ_cons];simp only[Zz,if_false];refine FV ws (a+1) af n (by simp only[Zo]at hn;omega) (fun k hk al=> ?_) (fun ao=> ?_);have:=h1 (k+1) (by simp;omega) (by omega);simpa using this;have:=h2 (by simp;omega);simpa using this
def MG (o:Y0)(q:Int)(k:Nat):Option Nat:=match o.aA[k]? with
 |some w=>bif dZ q w.an then none else some (k+1)
 |none=>none
def akI (o:Y0)(q:Int)(k:Nat):Prop:=k<=o.aA.length/\ ∀j(hj:j<o.aA.length),j<k->o.aA[j].an<=q
def vV {B:Nat}(hB:B<=1048576){o:Y0}(h:o.Ok B)(q:Int):cf Ph cL 670 [o.v,ce .i64 q]=some (Tk (wM o q)):=by
 have hl:o.aA.length<=1048576:=Zc h.2.2.1 hB;have hlm:o.aA.length<=maxLen:=by unfold maxLen;omega
 have e1:=yr hB h;have e2:=so (Y0.Ok.mono (show B<=maxLen by unfold maxLen;omega) h);unfold wM;cases c1:mM o<;>rw[c1]at e2;simp only[cond_false];refine ca rfl ?_;simp(maxSteps:=9^9) [lP,e1,e2];simp only[cond_true];refine ca rfl ?_;simp(maxSteps:=9^9) [lP,e1,e2];refine T2 dG Cl.fin [.f,.t,.t,.f,.t,.f,.t,.t,.f,.f,.f,.f,.f,.f,.f,.f,.f,.f,.f,.f,.f,.f,.f,.f,.f,.f,.f,.f,.f,.f,.f,.f,.f,.f,.f,.f,.f,.f,.f,.f] (fun a=>[(7,ce .i64 (a:Nat))]) (fun a=>[.box [.pv (.int .i64 o.aY), .pv (.int .i64 o.ag), .pv (.lst (o.aA.map Q4.e))], .box [.pv (.int .i64 0), .pv (.int .i64 0), .nil], .arr 7 (o.aA.map Q4.e), .box [.pv (.int .i64 o.aY), .pv (.int .i64 o.ag), .arr 2]]) (MG o q) (fun a=>o.aA.length-a) (akI o q) 0 ⟨by omega,fun j hj h0=>by omega⟩ rfl (by simp) (fun k b ia ha=> ?_) (fun k ia ha=> ?_);unfold MG at ha;by_cases hk:k<o.aA.length;simp only[Zk hk]at ha;cases q1:dZ q o.aA[k].an<;>rw[q1]at ha<;>simp only[cond_true,cond_false]at ha;cases ha;have hx:=Q4.e.eq_1 o.aA[k];have hq:=of_decide_eq_false q1;refine⟨by omega,⟨by omega,fun j hj ab=> ?_⟩,?_⟩;rcases Nat.lt_or_ge j k with h'|h';exact ia.2 j hj h';obtain rfl:j=k:=by omega
 omega;simp(maxSteps:=9^9) [ki,hk,hx,leI,q1,da hlm hk,dw hk];cases ha;rw[ZT (by omega)]at ha;cases ha;have hn:o.aA.filter (V2 q)=o.aA.drop k:=FV o.aA (o.ag-(o.aA.length:Int)) (fun j hj=>acv c1 hj) k ia.1 (fun j hj ab=>ia.2 j hj ab) (fun hk=>by
  unfold MG at ha
  simp only[Zk hk]at ha
  cases q1:dZ q o.aA[k].an<;>rw[q1]at ha<;>simp only[cond_true,cond_false]at ha
  ·cases ha
  ·exact of_decide_eq_true q1)
 have ah:=ia.1;rw[hn];have hd:(o.aA.length:Int)-((o.aA.drop k).length:Nat)=(k:Int):=by rw[YD];omega
 rw[hd];simp only[Tk];rw[List.map_drop];have hR:(o.aA.map Q4.e).length=o.aA.length:=by simp
 have m1:=gS (m:=((o.aA.map Q4.e).drop k).length) (z:=72) (by rw[YD];omega) (by omega);have wd:((o.aA.map Q4.e).all fun r=>r.length==7)=true:=fL (e:=Q4.e) (fun _=>rfl) _;have t1:((o.aA.map Q4.e).drop k).take (o.aA.length-k)=(o.aA.map Q4.e).drop k:=Zs (by rw[YD,Zr];exact Zi _);have t2:∀x∈(o.aA.map Q4.e).drop k,x.length=7:=fun x m=>by obtain⟨y,_,rfl⟩:=ZV.1 (Yc m);rfl
 have t3:(o.aA.length-k)*72<=140737488355328:=by omega
 have t4:o.aA.length<=9223372036854775807+k:=by omega
 have t5:∀x:Q4,x.e.length=7:=fun _=>rfl;by_cases hk:k<o.aA.length;have q1:dZ q o.aA[k].an=true:=by cases q1:dZ q o.aA[k].an;exact absurd ha (by simp[MG,Zk hk,q1]);rfl
 have hx:=Q4.e.eq_1 o.aA[k];have lk:=dw hk;simp(maxSteps:=9^9) [ki,hk,hx,leI,q1,lk,ah,t1,eq_true t2,t3,t4,t5,eG];obtain rfl:k=o.aA.length:=by omega
 simp(maxSteps:=9^9) [ki,leI,t5,eG]
def W5 (rs:List Z9)(r:V)(e:Ex)(Z:St):Prop:=(e= .normal \/e= .ret)/\ (dd Z rs).map fb=some r
def jz {fn:List Z9}{r:V}{Z:St}:W5 fn r .ret Z=((dd Z fn).map fb=some r):=by simp[W5]
def nJ {fn:List Z9}{r:V}{Z:St}:W5 fn r .normal Z=((dd Z fn).map fb=some r):=by simp[W5]
def Pe {Φ:Nat->Option AFn}{ext:Nat->List V->Option V}{k:Nat}{fn:AFn}{xz:List V}{r:V}(hk:Φ k=some fn)(h:wp (cf Φ ext) (W5 fn.results r) [] (cD (cf Φ ext) cR fn.body (start fn xz))):∃v,cf Φ ext k xz=some v/\ fb v=r:=by
 cases hx:cD (cf Φ ext) cR fn.body (start fn xz)with
 |none=>rw[hx,oG]at h;exact h.elim
 |some x=>
  obtain⟨e,Z⟩:=x;rw[hx,eJ]at h;obtain⟨h1,h2⟩:=h;cases q:dd Z fn.results with
  |none=>rw[q]at h2;cases h2
  |some v=>rw[q]at h2;refine⟨v,ca hk ?_,by simpa using h2⟩;rw[hx,eJ];exact⟨h1,q⟩
def adu (z:Nat)(rows:List (List PV)):(rows=[]/\ nd z rows= .nil/\ qm rows= .nil) \/(rows≠[]/\ nd z rows= .down z rows/\ qm rows= .pv (.lst rows)):=by
 cases rows with
 |nil=>exact .inl ⟨rfl,rfl,rfl⟩
 |cons x xs=>exact .inr ⟨by simp,rfl,rfl⟩
def Fh {s:Q3}(h:s.a7.length<=maxLen)(d:Int):cf Ph cL 176 [s.v,ce .i64 d]=some (ce .i64 (fO (Fi d) s.a7)):=by
 have e1:=B2 (e:=Q7.e) (p:=Fi d) (xs:=s.a7) (k:=211) (z:=2) (kc:=212) (caps:=[[.int .i64 d]]) rfl h (fun _=>rfl) (fun x _=>by
  refine ca rfl ?_
  simp +contextual (maxSteps:=9^9) [kT,Q7.e.eq_1,wR,Fi])
 refine ca rfl ?_;simp +contextual (maxSteps:=9^9) [mK,nN,tZ,e1]
def UR {s:Q3}(h:kq s=true){k:Nat}(hk:k<s.a7.length):(0<=s.a7[k].an/\ s.a7[k].an<=1000000)/\ (0<k->(s.a7[k-1]'(by omega)).aY<s.a7[k].aY):=by simp only[kq,Zg,ZB]at h;have:=tq h.1 hk;simp only[Vc,hk,show k-1<s.a7.length by omega,Zk,ZR,Ya,vo]at this;refine⟨this.2.1,fun h0=> ?_⟩;have q:=this.2.2;have l0:dZ 0 (k:Int)=true:=ji (by omega);rw[l0,Yi]at q;exact of_decide_eq_true (by simpa[dZ]using q)
def N6 {s:Q3}(h:kq s=true):s.a7.length<=60:=by simp only[kq,Zg,ZB]at h;have:=of_decide_eq_false h.2.2.2.2;omega
def UQ {s:Q3}(h:kq s=true):∀(b:Nat)(hb:b<s.a7.length)(a:Nat)(ha:a<s.a7.length),a<b->s.a7[a].aY<s.a7[b].aY
 |0,_,_,_,ai=>by omega
 |b+1,hb,a,ha,ai=>by have:=(UR h hb).2 (by omega);simp only[Qj]at this;by_cases q:a=b;subst q;exact this;exact Int.lt_trans (UQ h b (by omega) a ha (by omega)) this
def zJ {s:Q3}(h:kq s=true)(d q:Int):
 (∃(j:Nat)(hj:j<s.a7.length),fO (Fi d) s.a7=(j:Int)/\ s.a7[j].aY=d/\ xk s.a7 d q=s.a7.set j ⟨d,q⟩/\ jW s d=s.a7[j].an) \/
 (fO (Fi d) s.a7= -1/\ xk s.a7 d q=s.a7.take (oX d s.a7)++⟨d,q⟩::s.a7.drop (oX d s.a7)/\ jW s d=0):=by
 rcases mQ (Fi d) s.a7 with⟨q1,q2⟩|⟨j,hj,q1,q2⟩;refine .inr ⟨q1,?_,NH q1⟩;unfold xk;split;rename_i a e;have hm:=Zn e;have:=Qk.1 q2 a hm;rw[if_neg (by simpa[Fi]using this)];rfl;refine .inl ⟨j,hj,q1,?_⟩;have hd:s.a7[j].aY=d:=by simpa[Fi]using List.find?_some q2
 refine⟨hd,?_,NI hj q1⟩;have hp:oX d s.a7=j:=by have p1:= @HQ d s.a7;have p2:= @HO d s.a7;generalize oX d s.a7=p at p1 p2;rcases QU p j with c|c|c;have:=UQ h j hj p (by omega) c;exact absurd (by omega) (p2 (by omega));exact c;have:=p1 hj c;omega
 unfold xk;rw[hp,Zk hj];simp only[if_pos hd]
def RH {s:Q3}(h:kq s=true)(d:Int):0<=jW s d/\ jW s d<=1000000:=by rcases zJ h d 0 with⟨j,hj,_,_,_,q⟩|⟨_,_,q⟩;rw[q];exact(UR h hj).1;rw[q];omega
def vU (s:Q3)(w:Q4):Q3×Int:=
 bif kq s&&AO w then
  bif dZ (fO (Fi w.aY) s.a7) 0&& !(dZ s.a7.length 60)then(s,4)
  else bif !(dZ (jW s w.aY) w.an)then(s,2)
  else bif dZ (jW s w.aY+1) w.an then(s,3)
  else(⟨(vt s.aF w).1,xk s.a7 w.aY w.an,s.aD++[w]⟩,1)
 else(s,4)
def NW {B:Nat}(hB:100<=B){s:Q3}(h:s.Ok B){w:Q4}(hw:w.Ok B)(hc:s.aD.length+1<=B):(vU s w).1.Ok B:=by
 unfold vU;cases c1:kq s;exact h;cases c2:AO w;exact h;simp only[Yj,cond_true];cases c3:dZ (fO (Fi w.aY) s.a7) 0&& !(dZ s.a7.length 60);cases c4: !(dZ (jW s w.aY) w.an);cases c5:dZ (jW s w.aY+1) w.an;simp only[cond_false];have hl:=N6 c1;have hX:∀y∈[(⟨w.aY,w.an⟩:Q7)],y.Ok B:=fun y m=>by rw[Qi]at m;subst m;exact⟨hw.1,hw.2.1⟩
 have hY:(⟨w.aY,w.an⟩:Q7).Ok B:=hX _ (Qi.2 rfl);refine⟨UO (by omega) h.1 hw,?_,by simp only[Zv,Zo,Zx];omega,fun y m=> ?_⟩;have h2:=h.2.1.2;rcases zJ c1 w.aY w.an with⟨j,hj,_,_,q,_⟩|⟨_,q,_⟩;rw[q];refine⟨by simp only[ZC];omega,fun y m=> ?_⟩;rcases ZK m with m|rfl;exact h2 y m;exact hY;rw[q];have hp:=Ap w.aY s.a7;refine⟨by simp only[Zv,Zo,ZH,YD];omega,fun y m=> ?_⟩;rw[Ye,ZF]at m;rcases m with m|rfl|m;exact h2 y (ZA m);exact hY;exact h2 y (Yc m);rw[Ye,Qi]at m;rcases m with m|rfl;exact h.2.2.2 y m;exact hw;exact h;exact h;exact h
end Gi
