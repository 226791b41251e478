/- Of this proof. -/
import Derived.Test.YtpnolnkjijmfjaaGreatGmB
import Derived.Test.YtpnolnkjijmfjaaGreatGmD
import Derived.Test.YtpnolnkjijmfjaaGreatGkp
import Derived.Test.YtpnolnkjijmfjaaGreatGlO
import Derived.Test.YtpnolnkjijmfjaaGreatGks
set_option linter.all false
namespace Gi
open Go Go.RowKit
set_option maxHeartbeats 8000000
set_option maxRecDepth 4000
attribute [local simp] start qt dY fa fh gj fg gi gr gq rB rY rE rZ rH r8 rI r9 rJ sa rS sd rU se rV sf rW sh V.cells plain dP ja isInt isStr isBool bin eu i7 ew i9 gl un asList L.view cy V.view viewL dd cu eC dN eh comp cU dS eV dW dD dA dC cF ct df co cE cO cA dx du cH dE dF V.flat L.flat fe fv dK putAt thaw thawL thawT V.ow gn fj fk ez gm eA fi freezeVs freezeLs freezeL V.mut L.mut cN fx iI dj dQ cZ fI ed dH eB L.bD cQ fy ej fE ep eH wp_seq wp_block dh fo eD dO eE wp_skip wp_exit wp_ret eG eM eP eN eT eU eS dV cM L.bB cX cV cW fm dI storeD dg gZ cq eK cJ nP L.bG L.closed V.closed PV.bare PV.flat
abbrev wN (w:Q5)(bs:List Q1):List L:=[.pv (.int .i64 w.ak), .pv (.bool w.aN), .pv (.int .i64 w.aQ),nd 24 (bs.map Q1.e), .down 11 (w.aL.map X6.e), .pv (.int .i64 w.aI), .down 4 (w.aJ.aJ.map X5.e), .down 3 (w.aO.aX.map X9.e),nd 4 (w.aK.map X3.e),nd 5 (w.a5.map Q2.e)]
abbrev wO (w:Q5)(bs:List Q1):List L:=[.pv (.int .i64 w.ak), .pv (.bool w.aN), .pv (.int .i64 w.aQ),pm 24 (bs.map Q1.e), .own 11 (w.aL.map X6.e), .pv (.int .i64 w.aI), .own 4 (w.aJ.aJ.map X5.e), .own 3 (w.aO.aX.map X9.e), .own 4 (w.aK.map X3.e), .own 5 (w.a5.map Q2.e)]
def Kw (s:Q6):List L:=[.pv (.str s.aG),nQ (s.a1.map Q3.e), .pv (.int .i64 s.aS)]
def abR (x:Q6×Bool):fe (Oh x)= .b8 [(true,Kw x.1),(false,[.pv (.bool x.2)])]:=by simp[fe, ↓dx,fv,Kw]
def Oq (s:Q6):fe (.agg [.pv (.str s.aG),nd 4 (s.a1.map Q3.e), .pv (.int .i64 s.aS)])= .agg (Kw s):=by simp[fe, ↓du,fv,Kw]
def kH (s:Q6)(k:Y7):X7:=match s.a1[(fP (FH k) s.a1).toNat]? with
 |some x=>if 0<=fP (FH k) s.a1 then x.au else⟨[]⟩
 |none=>⟨[]⟩
def UG {α:Type}{p:α->Bool}{xs:List α}(h:0<=fP p xs):(fP p xs).toNat<xs.length:=by rcases AB p xs with e|⟨k,hk,e,_⟩;rw[e]at h;omega;rw[e];simpa using hk
def Va {s:Q6}{k:Y7}(h:0<=fP (FH k) s.a1):∃x,s.a1[(fP (FH k) s.a1).toNat]? =some x/\ kH s k=x.au:=by refine⟨_,Zj (UG h),?_⟩;unfold kH;rw[Zj (UG h)];simp only[if_pos h]
def U9 {s:Q6}{k:Y7}(h:¬0<=fP (FH k) s.a1):kH s k=⟨[]⟩:=by unfold kH;split<;>simp[h]
def Ke {B:Nat}{s:Q6}(h:s.Ok B)(k:Y7):(kH s k).Ok B:=by unfold kH;split;rename_i x e;split;exact(h.2.1.2 x (Zn e)).2;exact⟨YB _,fun f m=>by simp at m⟩;exact⟨YB _,fun f m=>by simp at m⟩
def rgI {n a b:Int}:rg n a b=true↔a<=n/\ n<=b:=by simp[rg,dZ]
def af7 {fs:List Q9}(h:gL fs=true):fs.length<=6/\ ∀f∈fs,f.aG.length<=8/\ 0<=f.n/\ f.n<=1000000000000:=by simp only[gL,Zg,Zz]at h;have hl:=of_decide_eq_false h.2;refine⟨by omega,fun f m=> ?_⟩;obtain⟨j,hj,rfl⟩:=Yb.1 m;have:=tJ h.1 hj;simp only[PD,hj,show j-1<fs.length by omega,Zj,ZR,Ya,rgI]at this;have q:=this.1;simp only[fV,vz,Zg,rgI]at q;exact⟨by omega,this.2.1.1,by omega⟩
def abn {B:Nat}(hB:16<=B){fs:List Q9}(h:gL fs=true):(⟨fs⟩:X7).Ok B:=by obtain⟨h1,h2⟩:=af7 h;refine⟨by simp only;omega,fun f m=> ?_⟩;obtain⟨q1,q2,q3⟩:=h2 f m;exact⟨by omega,by unfold og;omega⟩
def Oo {B:Nat}(hB:16<=B){r:X7}(h:r.Ok B)(nm:List UInt8)(n:Int):(⟨(setR r.fs nm n).1⟩:X7).Ok B:=by
 unfold setR;cases c:gL r.fs&&gL (yv r.fs nm n)with
 |false=>exact h
 |true=>rw[Zg]at c;exact abn hB c.2
def ac8 {B:Nat}(hB:17<=B){s:Q6}(h:s.Ok B){k:Y7}(hk:k.Ok B){r:X7}(hr:r.Ok B):(Bd s k r).1.Ok B:=by
 unfold Bd;cases gy s&&(nI k&&gL r.fs)with
 |false=>exact h
 |true=>
  simp only[cond_true];split;exact⟨h.1,Ot h hk hr _,h.2.2⟩;split;exact h;rename_i hl;have aj:=NY h hk hr;have hlen:(um s k r).length=s.a1.length+1:=by have:=DW s.a1 k;simp[um];omega
  refine⟨h.1,⟨by simp only;omega,fun x m=> ?_⟩,PC h.2.2 hk.2.1⟩;simp only[um,Ye,ZG]at m;rcases m with m|rfl|m;exact h.2.1.2 x (ZB m);exact⟨hk,hr⟩;exact h.2.1.2 x (Yc m)
def vH (s:Q6)(w:Q4):Q6×Bool:=cond (setR (kH s w.aZ).fs w.aU w.n).2 (Bd s w.aZ ⟨(setR (kH s w.aZ).fs w.aU w.n).1⟩) (s,false)
def Vh {B:Nat}(hB:17<=B){s:Q6}(h:s.Ok B){w:Q4}(hw:w.Ok B):(vH s w).1.Ok B:=by
 unfold vH;cases(setR (kH s w.aZ).fs w.aU w.n).2 with
 |false=>exact h
 |true=>exact ac8 hB h hw.2.2.1 (Oo (by omega) (Ke h _) _ _)
def TU {s:Q6}{w:Q4}(h:(vH s w).2=false):(vH s w).1=s:=by
 unfold vH at h⊢;cases c:(setR (kH s w.aZ).fs w.aU w.n).2 with
 |false=>rfl
 |true=>
  rw[c]at h;simp only[cond_true]at h⊢;unfold Bd at h⊢;cases d:gy s&&(nI w.aZ&&gL (setR (kH s w.aZ).fs w.aU w.n).1)with
  |false=>rw[cond_false]
  |true=>rw[d]at h;simp only[cond_true]at h⊢;split at h;cases h;split at h;rename_i h1 h2;rw[if_neg h1,if_pos h2];cases h
def abS (x:List Q9×Bool):fe (FS x)= .b8 [(true,[.pv (.lst (x.1.map Q9.e))]),(false,[.pv (.bool x.2)])]:=by simp[fe,fv]
def tv {B:Nat}(ad:17<=B)(hB:B<=1048576){s:Q6}(h:s.Ok B){w:Q4}(hw:w.Ok B):cf Ph cK 326 [s.v, .agg (w.e.map .pv)]=some (tm (vH s w)):=by
 have hl:s.a1.length<=1048576:=Zc h.2.1.1 hB;have a6:=Ke h w.aZ;have e1:=jM hB h;have e2:=xt (s:=s) (by unfold maxLen;omega) w.aZ;have e3:cf Ph cK 341 [.agg [.pv (.lst ((kH s w.aZ).fs.map Q9.e))],fZ w.aU,ce .i64 w.n]=some (FS (setR (kH s w.aZ).fs w.aU w.n)):=Fy hB a6 hw.2.2.2.1 hw.2.2.2.2;have e4:cf Ph cK 342 [s.v,w.aZ.v, .agg [.pv (.lst ((setR (kH s w.aZ).fs w.aU w.n).1.map Q9.e))]]=some (tm (Bd s w.aZ ⟨(setR (kH s w.aZ).fs w.aU w.n).1⟩)):=HD hB h hw.2.2.1 (Oo (by omega) a6 _ _);have b1:(!(dZ (fP (FH w.aZ) s.a1) 0))=decide (0<=fP (FH w.aZ) s.a1):=by unfold dZ;by_cases q:0<=fP (FH w.aZ) s.a1<;>simp[q];omega
 have ht:=Va (s:=s) (k:=w.aZ);have hf:=U9 (s:=s) (k:=w.aZ);unfold vH;generalize Bd s w.aZ ⟨(setR (kH s w.aZ).fs w.aU w.n).1⟩=p at*;generalize setR (kH s w.aZ).fs w.aU w.n=sr at*;generalize kH s w.aZ=rc at*;generalize fP (FH w.aZ) s.a1=i at*;obtain⟨ae,b⟩:=sr;obtain⟨p1,p2⟩:=p;simp only[tm]at e3 e4⊢;by_cases q:0<=i;obtain⟨x,hi,hx⟩:=ht q;have a2:=Q3.e.eq_1 x;rw[<-hx]at a2;have hm:(s.a1.map Q3.e)[i.toNat]? =some x.e:=by rw[Zp,hi];rfl
 cases b;rcases jg 4 (s.a1.map Q3.e)with⟨_,u,_⟩|⟨_,u,_⟩<;>rw[u]at e1<;>(refine ca rfl ?_;simp(maxSteps:=9^9) [gv,Q4.e.eq_1,e1,e2,e3,b1,q,hm,a2,u]);rcases jg 4 (p1.a1.map Q3.e)with⟨_,u,_⟩|⟨_,u,_⟩<;>rw[u]at e4<;>(refine ca rfl ?_;simp(maxSteps:=9^9) [gv,Q4.e.eq_1,e2,e3,e4,b1,q,hm,a2,u]);have hx:=hf q;rw[hx]at e3;simp only[Zy]at e3;cases b;rcases jg 4 (s.a1.map Q3.e)with⟨_,u,_⟩|⟨_,u,_⟩<;>rw[u]at e1<;>(refine ca rfl ?_;simp(maxSteps:=9^9) [gv,Q4.e.eq_1,e1,e2,e3,b1,q,u]);rcases jg 4 (p1.a1.map Q3.e)with⟨_,u,_⟩|⟨_,u,_⟩<;>rw[u]at e4<;>(refine ca rfl ?_;simp(maxSteps:=9^9) [gv,Q4.e.eq_1,e2,e3,e4,b1,q,u])
def tx {B:Nat}(ad:17<=B)(hB:B<=1048576){s:Q6}(h:s.Ok B){w:Q4}(hw:w.Ok B):cf Ph cK 323 [s.v, .agg (w.e.map .pv)]=some (.b8 [(true,Kw (vH s w).1),(false,[.pv (.bool (vH s w).2)])]):=by
 have hl:s.a1.length<=1048576:=Zc h.2.1.1 hB;have a6:=Ke h w.aZ;have e1:=mj hB h;have e2:=xJ (s:=s) (by unfold maxLen;omega) w.aZ;have e3:cf Ph cK 338 [.agg [.pv (.lst ((kH s w.aZ).fs.map Q9.e))],fZ w.aU,ce .i64 w.n]=some (FS (setR (kH s w.aZ).fs w.aU w.n)):=FZ hB a6 hw.2.2.2.1 hw.2.2.2.2;have e4:cf Ph cK 339 [s.v,w.aZ.v, .agg [.pv (.lst ((setR (kH s w.aZ).fs w.aU w.n).1.map Q9.e))]]=some (Oh (Bd s w.aZ ⟨(setR (kH s w.aZ).fs w.aU w.n).1⟩)):=HL hB h hw.2.2.1 (Oo (by omega) a6 _ _);have e5:=abR (Bd s w.aZ ⟨(setR (kH s w.aZ).fs w.aU w.n).1⟩);have e6:=Oq s;have e7:=abS (setR (kH s w.aZ).fs w.aU w.n);have b1:(!(dZ (fP (FH w.aZ) s.a1) 0))=decide (0<=fP (FH w.aZ) s.a1):=by unfold dZ;by_cases q:0<=fP (FH w.aZ) s.a1<;>simp[q];omega
 have ht:=Va (s:=s) (k:=w.aZ);have hf:=U9 (s:=s) (k:=w.aZ);unfold vH;generalize Oh (Bd s w.aZ ⟨(setR (kH s w.aZ).fs w.aU w.n).1⟩)=pr at*;generalize Bd s w.aZ ⟨(setR (kH s w.aZ).fs w.aU w.n).1⟩=p at*;generalize FS (setR (kH s w.aZ).fs w.aU w.n)=rr at*;generalize setR (kH s w.aZ).fs w.aU w.n=sr at*;generalize hn:(V.agg [.pv (.str s.aG),nd 4 (s.a1.map Q3.e), .pv (.int .i64 s.aS)])=nv at*;generalize kH s w.aZ=rc at*;generalize fP (FH w.aZ) s.a1=i at*;simp only[Kw]at e5 e6⊢;clear hn;obtain⟨ae,b⟩:=sr;simp only at e3 e4 e7;by_cases q:0<=i;obtain⟨x,hi,hx⟩:=ht q;have a2:=Q3.e.eq_1 x;rw[<-hx]at a2;have hm:(s.a1.map Q3.e)[i.toNat]? =some x.e:=by rw[Zp,hi];rfl
 refine ca rfl ?_;cases b<;>simp(maxSteps:=9^9) [j3,Q4.e.eq_1,e1,e2,e3,e4,b1,q,hm,a2, ↓e5, ↓e6, ↓e7, ↓cE, ↓ct, ↓cF, ↓co];have hx:=hf q;rw[hx]at e3;simp only[Zy]at e3;refine ca rfl ?_;cases b<;>simp(maxSteps:=9^9) [j3,Q4.e.eq_1,e1,e2,e3,e4,b1,q, ↓e5, ↓e6, ↓e7, ↓cE, ↓ct, ↓cF, ↓co]
def noW :Q4:=⟨0,0,⟨0,0,[]⟩,[],0⟩
def ye (o:Y0):Q4×Bool:=match o.aA with
 |[]=>(noW,false)
 |w::_=>(w,true)
abbrev fwV (x:Q4×Bool):V:= .b8 [(true,x.1.e.map .pv),(false,[.pv (.bool x.2)])]
def vt (o:Y0)(hl:o.aA.length<=maxLen):cf Ph cK 679 [o.v]=some (fwV (ye o)):=by
 obtain⟨d,n,ws⟩:=o;unfold ye;refine ca rfl ?_;cases ws with
 |nil=>simp(maxSteps:=9^9) [nG,noW,Q4.e.eq_1]
 |cons w ws=>
  have hx:=Q4.e.eq_1 w;have h1:¬((ws.length:Int)+1=0):=by omega
  simp(maxSteps:=9^9) [nG,hx,h1]
def Ct (o:Y0)(hl:o.aA.length<=maxLen):cf Ph cK 675 [o.v]=some (fwV (ye o)):=by
 obtain⟨d,n,ws⟩:=o;unfold ye;refine ca rfl ?_;cases ws with
 |nil=>simp(maxSteps:=9^9) [nH,noW,Q4.e.eq_1]
 |cons w ws=>
  have hx:=Q4.e.eq_1 w;have h1:¬((ws.length:Int)+1=0):=by omega
  simp(maxSteps:=9^9) [nH,hx,h1]
def pw (k:Nat):Int:=((2^k:Nat):Int)
def boT (t:Int):Nat:=min t.toNat 6
def boX (t:Int):Int:=pw (boT t)
def aaP {t:Int}{k:Nat}(h:k<boT t):dZ (k:Int) t=true/\ dZ (pw k) 64=true/\ IntKind.i64.wrap (pw k*2)=pw (k+1)/\ IntKind.i64.wrap (2*pw k)=pw (k+1)/\ IntKind.i64.wrap ((k:Int)+1)=(k:Int)+1:=by
 unfold boT at h;have hk:k<6:=by omega
 refine⟨jl (by omega),?_⟩;rcases k with _|_|_|_|_|_|k;decide;decide;decide;decide;decide;decide;omega
def Uv (t:Int):(dZ (boT t:Int) t&&dZ (pw (boT t)) 64)=false:=by
 unfold boT;by_cases h:t.toNat<=6;rw[Nat.min_eq_left h];have:dZ (t.toNat:Int) t=false:=iG (by omega);rw[this];rfl;rw[Nat.min_eq_right (by omega)];have:dZ (pw 6) 64=false:=by decide
 rw[this,ZY]
def DE (t:Int):cf Ph cK 681 [ce .i64 t]=some (ce .i64 (boX t)):=by
 have he:=Uv t;have hs:= @aaP t;unfold boX;refine ca rfl ?_;simp(maxSteps:=9^9) [sy];refine eX dz Cl.fin (boT t) [.t,.f,.f,.t,.t,.f,.f,.f,.f,.f,.f,.f,.f,.f,.f,.f,.f] (fun k=>[(3,ce .i64 (pw k)),(4,ce .i64 k)]) (fun k=>[]) rfl (by simp[pw]) (fun k hk=> ?_) ?_;obtain⟨q1,q2,q3,q4,q5⟩:=hs hk;simp(maxSteps:=9^9) [mB,q1,q2,q3,q4,q5]
 ·generalize boT t=m at he⊢;generalize pw m=p at he⊢;cases q1:dZ (m:Int) t<;>cases q2:dZ p 64<;>rw[q1,q2]at he<;>first|exact absurd he (by decide)|simp(maxSteps:=9^9) [mB,q1,q2]
def D4 (t:Int):cf Ph cK 678 [ce .i64 t]=some (ce .i64 (boX t)):=by
 have he:=Uv t;have hs:= @aaP t;unfold boX;refine ca rfl ?_;simp(maxSteps:=9^9) [sO];refine eX dz Cl.fin (boT t) [.t,.f,.f,.t,.t,.f,.f,.f,.f,.f,.f,.f,.f,.f,.f,.f,.f] (fun k=>[(3,ce .i64 (pw k)),(4,ce .i64 k)]) (fun k=>[]) rfl (by simp[pw]) (fun k hk=> ?_) ?_;obtain⟨q1,q2,q3,q4,q5⟩:=hs hk;simp(maxSteps:=9^9) [mF,q1,q2,q3,q4,q5]
 ·generalize boT t=m at he⊢;generalize pw m=p at he⊢;cases q1:dZ (m:Int) t<;>cases q2:dZ p 64<;>rw[q1,q2]at he<;>first|exact absurd he (by decide)|simp(maxSteps:=9^9) [mF,q1,q2]
def pe (d:Int):List Q8->Nat
 |[]=>0
 |a::l=>if a.aY<d then pe d l+1 else 0
def AI (d:Int):∀l:List Q8,pe d l<=l.length
 |[]=>Zi _
 |a::l=>by have:=AI d l;unfold pe;split;simp only[Zo];omega;exact YB _
def Ig {d:Int}:∀{l:List Q8}{j:Nat}(hj:j<l.length),j<pe d l->(l[j]'hj).aY<d
 |[],j,hj,h=>by simp at hj
 |a::l,j,hj,h=>by
  unfold pe at h;split at h;rename_i q;cases j with
  |zero=>exact q
  |succ j=>exact Ig (l:=l) (by simpa using hj) (by omega)
  omega
def If {d:Int}:∀{l:List Q8}(h:pe d l<l.length),¬(l[pe d l]'h).aY<d
 |[],h=>by simp at h
 |a::l,h=>by
  by_cases q:a.aY<d;have e:pe d (a::l)=pe d l+1:=by simp only[pe,if_pos q]
  have h':pe d l<l.length:=by rw[e]at h;simpa using h
  have:=If h';simp only[e,YV];exact this;have e:pe d (a::l)=0:=by simp only[pe,if_neg q]
  simp only[e,Yz];exact q
def xC (l:List Q8)(d q:Int):List Q8:=match l[pe d l]? with
 |some a=>if a.aY=d then l.set (pe d l) ⟨d,q⟩else l.take (pe d l)++⟨d,q⟩::l.drop (pe d l)
 |none=>l.take (pe d l)++⟨d,q⟩::l.drop (pe d l)
def HY {l:List Q8}(hl:l.length<=1048576)(d q:Int):cf Ph cK 690 [eW (l.map Q8.e),ce .i64 d,ce .i64 q]=some (.one (.own 2 ((xC l d q).map Q8.e))):=by
 have hw:=fM (e:=Q8.e) (z:=2) (fun _=>rfl) l;have m0:=gU (m:=l.length) (z:=16) (by omega) (by omega);have hp:=AI d l;have b1:= @Ig d l;have b2:= @If d l;unfold xC;generalize pe d l=p at hp b1 b2⊢;have m1:=gU (m:=p) (z:=16) (by omega) (by omega);have m2:=gU (m:=p+1) (z:=16) (by omega) (by omega);have m3:=gU (m:=l.length+1) (z:=16) (by omega) (by omega);have w2:((l.map Q8.e).take p).all (fun e=>e.length==2)=true:=by rw[<-List.map_take];exact fM (e:=Q8.e) (z:=2) (fun _=>rfl) _
 have w3:((l.map Q8.e).drop p).all (fun e=>e.length==2)=true:=by rw[<-List.map_drop];exact fM (e:=Q8.e) (z:=2) (fun _=>rfl) _
 have t1:List.take (l.length-p) ((l.map Q8.e).drop p)=(l.map Q8.e).drop p:=Zs (by simp);have t2:p+1+(l.length-p)=l.length+1:=by omega
 refine ca rfl ?_;simp(maxSteps:=9^9) [vf,hw,m0];refine cP dz Cl.fin [.t,.t,.t,.f,.f,.f,.f,.t,.t,.f,.f,.f,.f,.f,.f,.f,.f,.f,.f,.f,.f,.f,.f,.f,.f,.f,.f,.f,.f,.f,.f,.f,.f,.f,.f,.f,.f,.f,.f,.f,.f,.f,.f,.f,.f,.f,.f,.f,.f,.f,.f,.f,.f,.f,.f,.f,.f,.f,.f,.f] (fun k=>[(8,ce .i64 k)]) p (fun _=>false) rfl (by simp) (fun j hj _=> ?_) (fun _ _=> ?_);have a8:j<l.length:=by omega
 have l1:=jl (b1 a8 hj);simp +contextual (maxSteps:=9^9) [kl,a8,l1,cY (n:=l.length) (by unfold maxLen;omega) a8,dw a8,Q8.e.eq_1 l[j]];by_cases hlt:p<l.length;have l1:=iG (Int.not_lt.1 (b2 hlt));have hx:=Q8.e.eq_1 l[p];rw[Zj hlt];by_cases hd:l[p].aY=d;simp only[if_pos hd];have hm:(l.map Q8.e).set p [.int .i64 d, .int .i64 q]=(l.set p ⟨d,q⟩).map Q8.e:=by rw[YK];rfl
 generalize l.set p ⟨d,q⟩=F at hm⊢;have l2:dZ d d=false:=iG (Int.le_refl _);simp +contextual (maxSteps:=9^9) [kl,hlt,hx,l1,l2,dw hlt,hd,hm,hw];simp only[if_neg hd];simp +contextual (maxSteps:=9^9) [kl,hlt,hx,l1,dw hlt,hd,hw,hp,m0,m1,m2,m3,w2,w3,t1,t2,Q8.e];obtain rfl:p=l.length:=by omega
 have hn:l[l.length]? =none:=ZT (Zi _);rw[hn];have tl:List.take l.length (l.map Q8.e)=l.map Q8.e:=Zs (by simp);simp +contextual (maxSteps:=9^9) [kl,hw,m0,m1,m2,m3,w2,w3,tl,Q8.e]
def FG (d:Int)(a:Q8):Bool:=a.aY==d
def j4 (s:Q2)(d:Int):Int:=match s.a7.find? (FG d)with
 |some a=>a.an
 |none=>0
def N5 {s:Q2}{d:Int}{k:Nat}(hk:k<s.a7.length)(h:fP (FG d) s.a7=(k:Int)):j4 s d=s.a7[k].an:=by
 unfold j4;rcases mZ (FG d) s.a7 with⟨q1,q2⟩|⟨j,hj,q1,q2⟩;omega;obtain rfl:j=k:=by omega
 rw[q2]
def N4 {s:Q2}{d:Int}(h:fP (FG d) s.a7= -1):j4 s d=0:=by unfold j4;rcases mZ (FG d) s.a7 with⟨q1,q2⟩|⟨j,hj,q1,q2⟩;rw[q2];omega
def yF {s:Q2}(h:s.a7.length<=maxLen)(d:Int):cf Ph cK 148 [s.v,ce .i64 d]=some (ce .i64 (j4 s d)):=by
 have e1:=Cm (e:=Q8.e) (p:=FG d) (xs:=s.a7) (k:=211) (z:=2) (kc:=212) (caps:=[[.int .i64 d]]) rfl h (fun _=>rfl) (fun x _=>by
  refine ca rfl ?_
  simp +contextual (maxSteps:=9^9) [k7,Q8.e.eq_1,xg,FG])
 have e2:cf Ph cK 176 [s.v,ce .i64 d]=some (ce .i64 (fP (FG d) s.a7)):=by refine ca rfl ?_;simp +contextual (maxSteps:=9^9) [mU,nW,uj,e1]
 rcases mZ (FG d) s.a7 with⟨q1,q2⟩|⟨j,hj,q1,q2⟩;have l0:dZ (-1) 0=true:=rfl;rw[N4 q1];rw[q1]at e2;refine ca rfl ?_;simp(maxSteps:=9^9) [nZ,e2,l0];have l0:dZ (j:Int) 0=false:=iG (by omega);have hx:=Q8.e.eq_1 s.a7[j];rw[N5 hj q1];rw[q1]at e2;refine ca rfl ?_;simp(maxSteps:=9^9) [nZ,e2,l0,hj,hx]
def yK {s:Q2}(h:s.a7.length<=maxLen)(d:Int):cf Ph cK 147 [s.v,ce .i64 d]=some (ce .i64 (j4 s d)):=by
 refine ca rfl ?_;simp +contextual (maxSteps:=9^9) [uT];refine cP dz Cl.fin [.f,.t,.t,.f,.f,.t,.f,.f,.f,.f,.f,.f,.f,.f,.f,.f,.f,.f,.f,.f,.f,.f,.f,.f,.f,.f,.f] (fun k=>[(5,ce .i64 k)]) s.a7.length (kK (FG d) s.a7) rfl (by simp) (fun k hk hj=> ?_) (fun hj _=> ?_);have hf:=wV hk hj;have hx:=Q8.e.eq_1 s.a7[k];have hs:(FG d s.a7[k])=(s.a7[k].aY==d):=rfl;cases hg:FG d s.a7[k];rw[hg]at hs;simp(maxSteps:=9^9) [lP,kK,hk,hg,<-hs,hx,cY h hk,dw hk];have aa:=N5 hk (hf hg);have ha:kK (FG d) s.a7 k=true:=by simp only[kK,hk,Zj,hg]
 rw[hg]at hs;generalize j4 s d=F at aa⊢;generalize kK (FG d) s.a7 k=A at ha⊢;simp(maxSteps:=9^9) [lP,ha,hk,<-hs,aa,hx,cY h hk,dw hk];simp +contextual (maxSteps:=9^9) [lP,N4 (wU hj)]
def Ww (q:Int)(w:Q4):Bool:=dZ q w.an
def xe (o:Y0)(q:Int):Y0×Int:=bif mW o then(⟨o.aY,o.ag,o.aA.filter (Ww q)⟩,(o.aA.length:Int)-((o.aA.filter (Ww q)).length:Nat))else(o,0)
def adB {α:Type}{e:α->List PV}{call:Nat->List V->Option V}{c:Nat}{caps:List V}{p:α->Bool}:∀{xs:List α},(∀x∈xs,call c (.agg ((e x).map .pv)::caps)=some (cL (!(p x))))->iR call c caps (xs.map e)=some ((xs.filter p).map e)
 |[],_=>rfl
 |x::xs,h=>by have ih:=adB (xs:=xs) fun y hy=>h y (Ym _ hy);have hx:=h x Yw;rw[Zt,iR,hx,ih];cases hp:p x<;>simp[cL,YT,hp]
abbrev TK (x:Y0×Int):V:= .b8 [(true,[.pv (.int .i64 x.1.aY), .pv (.int .i64 x.1.ag), .own 7 (x.1.aA.map Q4.e)]),(false,[.pv (.int .i64 x.2)])]
def wg {B:Nat}(hB:B<=1048576){o:Y0}(h:o.Ok B)(q:Int):cf Ph cK 673 [o.v,ce .i64 q]=some (TK (xe o q)):=by
 have hl:o.aA.length<=1048576:=Zc h.2.2.1 hB;have e1:=vw hB h;have e2:=oJ (Y0.Ok.mono (show B<=maxLen by unfold maxLen;omega) h);have c2:iR (cf Ph cK) 689 [xg [.int .i64 q]] (o.aA.map Q4.e)=some ((o.aA.filter (Ww q)).map Q4.e):=adB (p:=Ww q) fun x hx=>by refine ca rfl ?_;simp(maxSteps:=9^9) [pR,Q4.e.eq_1 x,xg,Ww,leI]
 have hf:(o.aA.filter (Ww q)).length<=o.aA.length:=YD _ _;have w1:IntKind.i64.wrap ((o.aA.length:Int)-((o.aA.filter (Ww q)).length:Nat))=(o.aA.length:Int)-((o.aA.filter (Ww q)).length:Nat):=by rw[IntKind.wrap_i64];omega
 unfold xe;cases c1:mW o<;>rw[c1]at e2;simp only[cond_false];refine ca rfl ?_;simp(maxSteps:=9^9) [lS,e1,e2];simp only[cond_true];refine ca rfl ?_;simp(maxSteps:=9^9) [lS,e1,e2,c2,nW,uj,FW,oU,w1]
def ac4 {o:Y0}(h:mW o=true){k:Nat}(hk:k<o.aA.length):o.aA[k].an=o.ag-(o.aA.length:Int)+(k:Int):=by simp only[mW,Zg,Zz,vE]at h;obtain⟨_,h2,h3,h4⟩:=h;have h3:=of_decide_eq_false h3;have:=tJ h4 hk;simp only[VI,hk,Zj,ZR,Ya,beq_iff_eq]at this;rw[this.2.2,IntKind.wrap_i64,IntKind.wrap_i64];omega
def Gp {q:Int}:∀(ws:List Q4)(a:Int),(∀k(hk:k<ws.length),ws[k].an=a+(k:Int))->∀n,n<=ws.length->(∀k(hk:k<ws.length),k<n->ws[k].an<=q)->(∀(hn:n<ws.length),q<ws[n].an)->ws.filter (Ww q)=ws.drop n
 |[],a,_,n,_,_,_=>by simp
 |w::ws,a,hs,n,hn,h1,h2=>by
  have h0:=hs 0 (by simp);have af:∀k(hk:k<ws.length),ws[k].an=(a+1)+(k:Int):=fun k hk=>by have:=hs (k+1) (by simp;omega);simp only[YV]at this;rw[this];push_cast;omega
  simp only[Yz]at h0;cases n with
  |zero=>
   have hq:=h2 (by simp);simp only[Yz]at hq;have all:∀x∈w::ws,Ww q x=true:=by intro x m;obtain⟨j,hj,rfl⟩:=Yb.1 m;have:=hs j hj;unfold Ww;exact jl (by omega)
   rw[List.filter_eq_self.2 all,List.drop_zero]
  |succ n=>have hq:=h1 0 (by simp) (by omega);simp only[Yz]at hq;have hw:Ww q w=false:=iG hq;rw[YT,hw,List.drop_succ_cons];simp only[ZA,if_false];refine Gp ws (a+1) af n (by simp only[Zo]at hn;omega) (fun k hk al=> ?_) (fun ao=> ?_);have:=h1 (k+1) (by simp;omega) (by omega);simpa using this;have:=h2 (by simp;omega);simpa using this
def M5 (o:Y0)(q:Int)(k:Nat):Option Nat:=match o.aA[k]? with
 |some w=>bif dZ q w.an then none else some (k+1)
 |none=>none
def akI (o:Y0)(q:Int)(k:Nat):Prop:=k<=o.aA.length/\ ∀j(hj:j<o.aA.length),j<k->o.aA[j].an<=q
def wn {B:Nat}(hB:B<=1048576){o:Y0}(h:o.Ok B)(q:Int):cf Ph cK 670 [o.v,ce .i64 q]=some (TK (xe o q)):=by
 have hl:o.aA.length<=1048576:=Zc h.2.2.1 hB;have hlm:o.aA.length<=maxLen:=by unfold maxLen;omega
 have e1:=yM hB h;have e2:=te (Y0.Ok.mono (show B<=maxLen by unfold maxLen;omega) h);unfold xe;cases c1:mW o<;>rw[c1]at e2;simp only[cond_false];refine ca rfl ?_;simp(maxSteps:=9^9) [lY,e1,e2];simp only[cond_true];refine ca rfl ?_;simp(maxSteps:=9^9) [lY,e1,e2];refine Up dz Cl.fin [.f,.t,.t,.f,.t,.f,.t,.t,.f,.f,.f,.f,.f,.f,.f,.f,.f,.f,.f,.f,.f,.f,.f,.f,.f,.f,.f,.f,.f,.f,.f,.f,.f,.f,.f,.f,.f,.f,.f,.f] (fun a=>[(7,ce .i64 (a:Nat))]) (fun a=>[.box [.pv (.int .i64 o.aY), .pv (.int .i64 o.ag), .pv (.lst (o.aA.map Q4.e))], .box [.pv (.int .i64 0), .pv (.int .i64 0), .nil], .arr 7 (o.aA.map Q4.e), .box [.pv (.int .i64 o.aY), .pv (.int .i64 o.ag), .arr 2]]) (M5 o q) (fun a=>o.aA.length-a) (akI o q) 0 ⟨by omega,fun j hj h0=>by omega⟩ rfl (by simp) (fun k b ia ha=> ?_) (fun k ia ha=> ?_);unfold M5 at ha;by_cases hk:k<o.aA.length;simp only[Zj hk]at ha;cases q1:dZ q o.aA[k].an<;>rw[q1]at ha<;>simp only[cond_true,cond_false]at ha;cases ha;have hx:=Q4.e.eq_1 o.aA[k];have hq:=of_decide_eq_false q1;refine⟨by omega,⟨by omega,fun j hj ab=> ?_⟩,?_⟩;rcases Qp j k with h'|h';exact ia.2 j hj h';obtain rfl:j=k:=by omega
 omega;simp(maxSteps:=9^9) [ku,hk,hx,leI,q1,cY hlm hk,dw hk];cases ha;rw[ZT (by omega)]at ha;cases ha;have hn:o.aA.filter (Ww q)=o.aA.drop k:=Gp o.aA (o.ag-(o.aA.length:Int)) (fun j hj=>ac4 c1 hj) k ia.1 (fun j hj ab=>ia.2 j hj ab) (fun hk=>by
  unfold M5 at ha
  simp only[Zj hk]at ha
  cases q1:dZ q o.aA[k].an<;>rw[q1]at ha<;>simp only[cond_true,cond_false]at ha
  ·cases ha
  ·exact of_decide_eq_true q1)
 have ah:=ia.1;rw[hn];have hd:(o.aA.length:Int)-((o.aA.drop k).length:Nat)=(k:Int):=by rw[YE];omega
 rw[hd];simp only[TK];rw[List.map_drop];have hR:(o.aA.map Q4.e).length=o.aA.length:=by simp
 have m1:=gU (m:=((o.aA.map Q4.e).drop k).length) (z:=72) (by rw[YE];omega) (by omega);have wd:((o.aA.map Q4.e).all fun r=>r.length==7)=true:=fM (e:=Q4.e) (fun _=>rfl) _;have t1:((o.aA.map Q4.e).drop k).take (o.aA.length-k)=(o.aA.map Q4.e).drop k:=Zs (by rw[YE,Zr];exact Zi _);have t2:∀x∈(o.aA.map Q4.e).drop k,x.length=7:=fun x m=>by obtain⟨y,_,rfl⟩:=ZV.1 (Yc m);rfl
 have t3:(o.aA.length-k)*72<=140737488355328:=by omega
 have t4:o.aA.length<=9223372036854775807+k:=by omega
 have t5:∀x:Q4,x.e.length=7:=fun _=>rfl;by_cases hk:k<o.aA.length;have q1:dZ q o.aA[k].an=true:=by cases q1:dZ q o.aA[k].an;exact absurd ha (by simp[M5,Zj hk,q1]);rfl
 have hx:=Q4.e.eq_1 o.aA[k];have lk:=dw hk;simp(maxSteps:=9^9) [ku,hk,hx,leI,q1,lk,ah,t1,eq_true t2,t3,t4,t5,eH];obtain rfl:k=o.aA.length:=by omega
 simp(maxSteps:=9^9) [ku,leI,t5,eH]
def aaz (rs:List Z9)(r:V)(e:Ex)(Z:St):Prop:=(e= .normal \/e= .ret)/\ (dd Z rs).map fe=some r
def jC {fn:List Z9}{r:V}{Z:St}:aaz fn r .ret Z=((dd Z fn).map fe=some r):=by simp[aaz]
def nS {fn:List Z9}{r:V}{Z:St}:aaz fn r .normal Z=((dd Z fn).map fe=some r):=by simp[aaz]
def PH {Φ:Nat->Option AFn}{ext:Nat->List V->Option V}{k:Nat}{fn:AFn}{xz:List V}{r:V}(hk:Φ k=some fn)(h:wp (cf Φ ext) (aaz fn.results r) [] (cD (cf Φ ext) cS fn.body (start fn xz))):∃v,cf Φ ext k xz=some v/\ fe v=r:=by
 cases hx:cD (cf Φ ext) cS fn.body (start fn xz)with
 |none=>rw[hx,oO]at h;exact h.elim
 |some x=>
  obtain⟨e,Z⟩:=x;rw[hx,eG]at h;obtain⟨h1,h2⟩:=h;cases q:dd Z fn.results with
  |none=>rw[q]at h2;cases h2
  |some v=>rw[q]at h2;refine⟨v,ca hk ?_,by simpa using h2⟩;rw[hx,eG];exact⟨h1,q⟩
def ad7 (z:Nat)(rows:List (List PV)):(rows=[]/\ nd z rows= .nil/\ nQ rows= .nil) \/(rows≠[]/\ nd z rows= .down z rows/\ nQ rows= .pv (.lst rows)):=by
 cases rows with
 |nil=>exact .inl ⟨rfl,rfl,rfl⟩
 |cons x xs=>exact .inr ⟨by simp,rfl,rfl⟩
def FF {s:Q2}(h:s.a7.length<=maxLen)(d:Int):cf Ph cK 176 [s.v,ce .i64 d]=some (ce .i64 (fP (FG d) s.a7)):=by
 have e1:=Cm (e:=Q8.e) (p:=FG d) (xs:=s.a7) (k:=211) (z:=2) (kc:=212) (caps:=[[.int .i64 d]]) rfl h (fun _=>rfl) (fun x _=>by
  refine ca rfl ?_
  simp +contextual (maxSteps:=9^9) [k7,Q8.e.eq_1,xg,FG])
 refine ca rfl ?_;simp +contextual (maxSteps:=9^9) [mU,nW,uj,e1]
def Vk {s:Q2}(h:kC s=true){k:Nat}(hk:k<s.a7.length):(0<=s.a7[k].an/\ s.a7[k].an<=1000000)/\ (0<k->(s.a7[k-1]'(by omega)).aY<s.a7[k].aY):=by simp only[kC,Zg,Zz]at h;have:=tJ h.1 hk;simp only[VG,hk,show k-1<s.a7.length by omega,Zj,ZR,Ya,vE]at this;refine⟨this.2.1,fun h0=> ?_⟩;have q:=this.2.2;have l0:dZ 0 (k:Int)=true:=jl (by omega);rw[l0,Yj]at q;exact of_decide_eq_true (by simpa[dZ]using q)
def Ox {s:Q2}(h:kC s=true):s.a7.length<=60:=by simp only[kC,Zg,Zz]at h;have:=of_decide_eq_false h.2.2.2.2;omega
def Vj {s:Q2}(h:kC s=true):∀(b:Nat)(hb:b<s.a7.length)(a:Nat)(ha:a<s.a7.length),a<b->s.a7[a].aY<s.a7[b].aY
 |0,_,_,_,ai=>by omega
 |b+1,hb,a,ha,ai=>by have:=(Vk h hb).2 (by omega);simp only[Qj]at this;by_cases q:a=b;subst q;exact this;exact Int.lt_trans (Vj h b (by omega) a ha (by omega)) this
def Ac {s:Q2}(h:kC s=true)(d q:Int):
 (∃(j:Nat)(hj:j<s.a7.length),fP (FG d) s.a7=(j:Int)/\ s.a7[j].aY=d/\ xC s.a7 d q=s.a7.set j ⟨d,q⟩/\ j4 s d=s.a7[j].an) \/
 (fP (FG d) s.a7= -1/\ xC s.a7 d q=s.a7.take (pe d s.a7)++⟨d,q⟩::s.a7.drop (pe d s.a7)/\ j4 s d=0):=by
 rcases mZ (FG d) s.a7 with⟨q1,q2⟩|⟨j,hj,q1,q2⟩;refine .inr ⟨q1,?_,N4 q1⟩;unfold xC;split;rename_i a e;have hm:=Zn e;have:=Qk.1 q2 a hm;rw[if_neg (by simpa[FG]using this)];rfl;refine .inl ⟨j,hj,q1,?_⟩;have hd:s.a7[j].aY=d:=by simpa[FG]using List.find?_some q2
 refine⟨hd,?_,N5 hj q1⟩;have hp:pe d s.a7=j:=by have p1:= @Ig d s.a7;have p2:= @If d s.a7;generalize pe d s.a7=p at p1 p2;rcases QV p j with c|c|c;have:=Vj h j hj p (by omega) c;exact absurd (by omega) (p2 (by omega));exact c;have:=p1 hj c;omega
 unfold xC;rw[hp,Zj hj];simp only[if_pos hd]
def Sa {s:Q2}(h:kC s=true)(d:Int):0<=j4 s d/\ j4 s d<=1000000:=by rcases Ac h d 0 with⟨j,hj,_,_,_,q⟩|⟨_,_,q⟩;rw[q];exact(Vk h hj).1;rw[q];omega
def wm (s:Q2)(w:Q4):Q2×Int:=
 bif kC s&&Ba w then
  bif dZ (fP (FG w.aY) s.a7) 0&& !(dZ s.a7.length 60)then(s,4)
  else bif !(dZ (j4 s w.aY) w.an)then(s,2)
  else bif dZ (j4 s w.aY+1) w.an then(s,3)
  else(⟨(vH s.aF w).1,xC s.a7 w.aY w.an,s.aD++[w]⟩,1)
 else(s,4)
def Ol {B:Nat}(hB:100<=B){s:Q2}(h:s.Ok B){w:Q4}(hw:w.Ok B)(hc:s.aD.length+1<=B):(wm s w).1.Ok B:=by
 unfold wm;cases c1:kC s;exact h;cases c2:Ba w;exact h;simp only[Yk,cond_true];cases c3:dZ (fP (FG w.aY) s.a7) 0&& !(dZ s.a7.length 60);cases c4: !(dZ (j4 s w.aY) w.an);cases c5:dZ (j4 s w.aY+1) w.an;simp only[cond_false];have hl:=Ox c1;have hX:∀y∈[(⟨w.aY,w.an⟩:Q8)],y.Ok B:=fun y m=>by rw[Qi]at m;subst m;exact⟨hw.1,hw.2.1⟩
 have hY:(⟨w.aY,w.an⟩:Q8).Ok B:=hX _ (Qi.2 rfl);refine⟨Vh (by omega) h.1 hw,?_,by simp only[Zv,Zo,Zx];omega,fun y m=> ?_⟩;have h2:=h.2.1.2;rcases Ac c1 w.aY w.an with⟨j,hj,_,_,q,_⟩|⟨_,q,_⟩;rw[q];refine⟨by simp only[ZC];omega,fun y m=> ?_⟩;rcases ZF m with m|rfl;exact h2 y m;exact hY;rw[q];have hp:=AI w.aY s.a7;refine⟨by simp only[Zv,Zo,ZI,YE];omega,fun y m=> ?_⟩;rw[Ye,ZG]at m;rcases m with m|rfl|m;exact h2 y (ZB m);exact hY;exact h2 y (Yc m);rw[Ye,Qi]at m;rcases m with m|rfl;exact h.2.2.2 y m;exact hw;exact h;exact h;exact h
end Gi
