/- Of this proof. -/
import Derived.Test.YtlmhdkdolfpedaaGreatGkh
set_option linter.all false
namespace Gi
open Go Go.RowKit
set_option maxHeartbeats 8000000
set_option maxRecDepth 4000
attribute [local simp] start qY dX eX fi gx fh gv gC gB sE sO sF sP sG sQ sH sR sI sS sJ sU sK sV sM sW sN sX V.cells plain dM iZ isInt isStr isBool bin ez je eA jf gy un asList L.view cy V.view viewL dd cu eD dN ee comp cV dS eV dV dC dz dA cG ct df cq cF cO cA dx du cI dD dF V.flat L.flat fb ft dK putAt thaw thawL thawT V.ow gA fk fm eB gz eC fj freezeVs freezeLs freezeL V.mut L.mut cN fI iE dj dQ cZ fK ed dE ew L.bC cT fA ep fD ej eG wp_seq wp_block dk fq eE dO eF wp_skip wp_exit wp_ret eJ eM eP eO eS eT eR dU cM L.bA cY cW cX fo dI storeD de hJ co eK cJ nI L.bE L.closed V.closed PV.bare PV.flat
def Hn {B:Nat}(hB:B<=1048576){s:Q5}(h:s.Ok B){k:Y7}(hk:k.Ok B){r:X6}(hr:r.Ok B):cf Ph cL 339 [s.v,k.v,r.v]=some (NT (AS s k r)):=by
 have hM:B+1<=maxLen:=by unfold maxLen;omega
 have hl:s.a1.length<=1048576:=Zc h.2.1.1 hB;have e1:=lZ hB h;have e2:=pE (Q5.Ok.mono (by omega) h);have e3:=pf (Y7.Ok.mono (by omega) hk);have e4:=xp (s:=s) (by unfold maxLen;omega) k;have e5:=vu hB hr;have e8:=lY (X6.Ok.mono (show B<=maxLen by omega) hr);have O:=jK 4 (s.a1.map Q2.e);unfold AS;refine ca rfl ?_;cases c1:gj s<;>rw[c1]at e2;rcases O with⟨_,q1,q2⟩|⟨_,q1,q2⟩<;>rw[q1]at e1<;>simp(maxSteps:=9^9) [iK,e1,e2,q2];cases c2:nA k<;>rw[c2]at e3;rcases O with⟨_,q1,q2⟩|⟨_,q1,q2⟩<;>rw[q1]at e1<;>simp(maxSteps:=9^9) [iK,e1,e2,e3,q2];cases c3:gJ r.fs<;>rw[c3]at e8;rcases O with⟨_,q1,q2⟩|⟨_,q1,q2⟩<;>rw[q1]at e1<;>simp(maxSteps:=9^9) [iK,e1,e2,e3,e8,q2];have l0:dZ (-1) 0=true:=rfl;rcases Ai (Fj k) s.a1 with hf|⟨j,hj,hf,hq⟩<;>rw[hf]at e4⊢;by_cases aM:16<=s.a1.length;have av:dZ (s.a1.length:Int) 16=false:=iN (by omega);rcases O with⟨q,q1,q2⟩|⟨_,q1,q2⟩;have:=congrArg List.length q;simp only[Zr,Zx]at this;omega;rw[q1]at e1;simp(maxSteps:=9^9) [iK,e1,e2,e3,e4,e8,l0,av,aM,q2];have av:dZ (s.a1.length:Int) 16=true:=ji (by omega);rw[if_neg (by decide),if_neg aM];have hA:=O8 s k;obtain⟨g1,h1⟩:∃g,(k.aX==1)=g:=⟨_,rfl⟩;rw[h1]at hA;have aN:dZ s.aS 0=false/\ dZ 1000000 s.aS=false:=by simp only[gj,rg,Zg,ZB]at c1;exact c1.2.2.2
 have ax:IntKind.i64.wrap (s.aS+1)=s.aS+1:=by have q1:=of_decide_eq_false aN.1;have q2:=of_decide_eq_false aN.2;rw[IntKind.wrap_i64];omega
 have aR:dZ k.n (s.aS+1)= !(dZ s.aS k.n):=by unfold dZ;rw[Qg];simp;omega
 have e9:=eN k.n (s.aS+1) 1000000;rw[rg,aR]at e9;have a2:=P4 s k r;have hp:=DD s.a1 k;have b1:= @NR s.a1 k;have b2:= @NQ s.a1 k;have O2:=jK 4 ((t8 s k r).map Q2.e);rcases O2 with⟨q,_⟩|⟨_,_,q3⟩;rw[a2]at q;simp at q;generalize t8 s k r=F at a2 q3⊢;generalize AP s.a1 k=p at a2 hp b1 b2;have m1:=gS (m:=s.a1.length+1) (z:=56) (by omega) (by omega);have m2:=gS (m:=p) (z:=56) (by omega) (by omega);have m3:=gS (m:=p+1) (z:=56) (by omega) (by omega);have w2:((s.a1.map Q2.e).take p).all (fun e=>e.length==4)=true:=by rw[<-List.map_take];exact fL (e:=Q2.e) (z:=4) (fun _=>rfl) _
 have w3:((s.a1.map Q2.e).drop p).all (fun e=>e.length==4)=true:=by rw[<-List.map_drop];exact fL (e:=Q2.e) (z:=4) (fun _=>rfl) _
 have t1:List.take (s.a1.length-p) ((s.a1.map Q2.e).drop p)=(s.a1.map Q2.e).drop p:=Zs (by simp);have t2:p+1+(s.a1.length-p)=s.a1.length+1:=by omega
 have w4:=fL (e:=Q2.e) (z:=4) (fun _=>rfl) s.a1;rcases O with⟨q0,q1,q2⟩|⟨q0,q1,q2⟩<;>rw[q1]at e1;have ak:s.a1=[]:=by simpa using q0
 rw[ak]at a2 hp;have aT:p=0:=by simpa using hp
 subst aT;simp only[Zy,Qc,QW,Zj]at a2;simp(maxSteps:=9^9) [iK,e1,e2,e3,e4,e8,l0,av];rw[xA];have aV:dZ 0 0=false:=rfl;have hF:F.length=1:=by have:=congrArg List.length a2;simpa using this
 have wF:∀x:Q2,x.e.length=4:=fun _=>rfl;simp +contextual (maxSteps:=9^9) [j7,e5,ak,aV,hF,wF,<-a2,hA,h1,q3,ax,e9]<;>(cases g1<;>cases dZ s.aS k.n<;>cases dZ 1000000 k.n<;>simp);simp(maxSteps:=9^9) [iK,e1,e2,e3,e4,e8,l0,av];refine cP dG Cl.fin [.f,.f,.f,.t,.t,.t,.t,.f,.t,.f,.t,.f,.f,.f,.f,.f,.f,.f,.f,.f,.f,.f,.f,.f,.f,.f,.f,.f,.f,.f,.f,.f,.f,.f,.f,.f,.f,.f,.f,.f,.f,.f,.f,.f,.f,.f,.f,.f,.f,.f,.f,.f,.f,.f,.f,.f,.f,.f,.f,.f,.f,.f,.f,.f,.f,.f,.f,.f,.f,.f,.f,.f,.f,.f,.f,.f,.f,.f,.f,.f,.f,.f,.f,.f,.f,.f,.f,.f,.f,.f,.f,.f,.f,.f,.f,.f,.f,.f,.f,.f] (fun k=>[(10,ce .i64 k)]) p (fun _=>false) rfl (by simp) (fun j hj _=> ?_) (fun _ _=> ?_);have a8:j<s.a1.length:=by omega
 have l1:=ji (b1 hj a8);have e7:=lC (Y7.Ok.mono (show B<=maxLen by omega) (h.2.1.2 _ (Zf a8)).1) (Y7.Ok.mono (by omega) hk);simp +contextual (maxSteps:=9^9) [j7,a8,l1,e7,da (n:=s.a1.length) (by unfold maxLen;omega) a8,dw a8,Q2.e.eq_1 s.a1[j]];by_cases hlt:p<s.a1.length;have l1:=iN (Int.not_lt.1 (b2 hlt));have hx:=Q2.e.eq_1 s.a1[p];have e7:=lC (Y7.Ok.mono (show B<=maxLen by omega) (h.2.1.2 _ (Zf hlt)).1) (Y7.Ok.mono (by omega) hk);simp +contextual (maxSteps:=9^9) [j7,hlt,hx,l1,e7,hp,m1,m2,m3,w2,w3,w4,t1,t2,dw hlt,e5,<-a2,hA,h1,q3,ax,e9]<;>(cases g1<;>cases dZ s.aS k.n<;>cases dZ 1000000 k.n<;>simp);obtain rfl:p=s.a1.length:=by omega
 have aO:(s.a1.map Q2.e).take s.a1.length++[[.int .i64 k.aX, .int .i64 k.n, .str k.ad, .lst (r.fs.map Q8.e)]]=F.map Q2.e:=by rw[a2];simp
 have hd:(s.a1.map Q2.e).drop s.a1.length=[]:=Yu (by simp);have hF:F.length=s.a1.length+1:=by have:=congrArg List.length aO;simpa using this.symm
 simp +contextual (maxSteps:=9^9) [j7,m1,m2,m3,w2,w3,w4,e5,hd, ↓aO,hF,hA,h1,q3,ax,e9]<;>(cases g1<;>cases dZ s.aS k.n<;>cases dZ 1000000 k.n<;>simp);have aW:=NF.1 hq;have hx:=Q2.e.eq_1 s.a1[j];have hm:(s.a1.map Q2.e).set j [.int .i64 s.a1[j].aZ.aX, .int .i64 s.a1[j].aZ.n, .str s.a1[j].aZ.ad, .lst (r.fs.map Q8.e)]=(s.a1.set j ⟨k,r⟩).map Q2.e:=by rw[YJ,aW];rfl
 have aP:s.a1.map Q2.e≠[]:=by intro e;have:=congrArg List.length e;simp only[Zr,Zx]at this;omega
 have O2:=jK 4 ((s.a1.set j ⟨k,r⟩).map Q2.e);rw[<-hm]at O2;rcases O with⟨q,_⟩|⟨_,q1,q2⟩;exact absurd q aP;rcases O2 with⟨q,_⟩|⟨_,_,q3⟩;exact absurd (by simpa using q) aP;rw[hm]at q3;rw[q1]at e1;simp only[Int.toNat_natCast];generalize s.a1.set j ⟨k,r⟩=F at hm q3⊢;simp(maxSteps:=9^9) [iK,e1,e2,e3,e4,e5,e8,q2,q3,hm,hx,hj,xX]
def gN (f:List UInt8)(x:Q2):Int×Bool:=vH x.au.fs f
def Bd (f:List UInt8)(a b:Q2):Bool:=dZ (gN f a).1 (gN f b).1||((gN f a).1==(gN f b).1&&dZ (wU a.aZ b.aZ) 0)
def Vy (f:List UInt8)(x:Q2)(out:List Q2):Nat->Nat
 |0=>0
 |n+1=>match out[n]? with
  |none=>n+1
  |some y=>cond (Bd f x y) (Vy f x out n) (n+1)
def M4 {f:List UInt8}{x:Q2}{out:List Q2}:∀n,Vy f x out n<=n
 |0=>Zi _
 |n+1=>by
  unfold Vy;cases out[n]? with
  |none=>exact Zi _
  |some y=>
   cases h:Bd f x y with
   |true=>simp only[h,cond_true];exact Nat.le_succ_of_le (M4 n)
   |false=>simp only[h,cond_false];exact Zi _
def If {f:List UInt8}{x:Q2}{out:List Q2}:∀n,n<=out.length->∀p,Vy f x out n<=p->∀(hp:p<n)(ho:p<out.length),Bd f x out[p]=true
 |0,_,p,_,hp,_=>by omega
 |n+1,hn,p,h,hp,ho=>by
  unfold Vy at h;have aw:n<out.length:=by omega
  rw[Zk aw]at h;simp only at h;cases q:Bd f x out[n]with
  |true=>rw[q,cond_true]at h;by_cases e:p=n;subst e;exact q;exact If n (by omega) p h (by omega) ho
  |false=>rw[q,cond_false]at h;omega
def Ig {f:List UInt8}{x:Q2}{out:List Q2}:∀n,n<=out.length->∀j,Vy f x out n=j+1->∃h:j<out.length,Bd f x out[j]=false
 |0,_,j,h=>by simp[Vy]at h
 |n+1,hn,j,h=>by
  unfold Vy at h;have aw:n<out.length:=by omega
  rw[Zk aw]at h;simp only at h;cases q:Bd f x out[n]with
  |true=>rw[q,cond_true]at h;exact Ig n (by omega) j h
  |false=>
   rw[q,cond_false]at h;obtain rfl:n=j:=by omega
   exact⟨aw,q⟩
def Jw (out:List Q2)(x:Q2)(p:Nat):List Q2:=out.take p++x::out.drop p
def pB (f:List UInt8)(out:List Q2)(x:Q2):List Q2:=cond (gN f x).2 (Jw out x (Vy f x out out.length)) out
def sa (f:List UInt8)(xs:List Q2):List Q2:=xs.foldl (pB f) []
def Mb {f:List UInt8}{xs:List Q2}{k:Nat}(hk:k<xs.length):sa f (xs.take (k+1))=pB f (sa f (xs.take k)) xs[k]:=by unfold sa;rw[ZQ hk,Qn];rfl
def Mc (out:List Q2)(x:Q2)(p:Nat):(Jw out x p).map Q2.e=(out.map Q2.e).take p++x.e::(out.map Q2.e).drop p:=by simp[Jw,List.map_take,List.map_drop]
def VZ {out:List Q2}{x y:Q2}{p:Nat}(h:y∈Jw out x p):y=x \/y∈out:=by unfold Jw at h;rcases Ye.1 h with h|h;exact .inr (ZA h);rcases ZF.1 h with h|h;exact .inl h;exact .inr (Yc h)
def VY (out:List Q2)(x:Q2){p:Nat}(h:p<=out.length):(Jw out x p).length=out.length+1:=by simp[Jw];omega
def P1 {f:List UInt8}{out:List Q2}{x y:Q2}(h:y∈pB f out x):y=x \/y∈out:=by
 unfold pB at h;cases q:(gN f x).2 with
 |true=>rw[q,cond_true]at h;exact VZ h
 |false=>rw[q,cond_false]at h;exact .inr h
def A7 {f:List UInt8}:∀(xs out:List Q2)(y:Q2),y∈xs.foldl (pB f) out->y∈xs \/y∈out
 |[],out,y,h=> .inr h
 |x::xs,out,y,h=>by rcases A7 xs (pB f out x) y h with h|h;exact .inl (Ym _ h);rcases P1 h with rfl|h;exact .inl Yw;exact .inr h
def Dl {f:List UInt8}{xs:List Q2}{y:Q2}(h:y∈sa f xs):y∈xs:=by rcases A7 xs [] y h with h|h;exact h;cases h
def P0 {f:List UInt8}{out:List Q2}{x:Q2}:(pB f out x).length<=out.length+1:=by
 unfold pB;cases(gN f x).2 with
 |true=>rw[cond_true,VY _ _ (M4 _)];exact Zi _
 |false=>rw[cond_false];omega
def A6 {f:List UInt8}:∀(xs out:List Q2),(xs.foldl (pB f) out).length<=out.length+xs.length
 |[],out=>by simp
 |x::xs,out=>by have h1:=A6 (f:=f) xs (pB f out x);have h2:=P0 (f:=f) (out:=out) (x:=x);simp only[YW,Zo];omega
def Dk (f:List UInt8)(xs:List Q2):(sa f xs).length<=xs.length:=by have:=A6 (f:=f) xs [];simpa[sa]using this
def ym (l:List Q2)(k:Nat):Y7:=match l[k]? with
 |some x=>x.aZ
 |none=>⟨0,0,[]⟩
def ufP (f:List UInt8)(l:List Q2)(k:Nat):Bool:=match l[k]?,l[k+1]? with
 |some a,some b=>(gN f a).1==(gN f b).1
 |_,_=>false
def abB {f:List UInt8}{l:List Q2}{k:Nat}(hk:k+1<l.length):ufP f l k=((gN f (l[k]'(by omega))).1==(gN f l[k+1]).1):=by
 have:k<l.length:=by omega
 simp[ufP,hk,this]
def ufT (f:List UInt8)(l:List Q2):Y7×Y7×Bool:=match(List.range (l.length-1)).find? (ufP f l)with
 |some k=>(ym l k,ym l (k+1),true)
 |none=>(⟨0,0,[]⟩,⟨0,0,[]⟩,false)
def Sk {f:List UInt8}{l:List Q2}{k:Nat}(hk:k<l.length-1)(h:ufP f l k=true)(hn:∀j,j<k->ufP f l j=false):ufT f l=(ym l k,ym l (k+1),true):=by
 have:(List.range (l.length-1)).find? (ufP f l)=some k:=by rw[List.find?_range_eq_some];exact⟨h,QO.2 hk,fun j hj=>by simp[hn j hj]⟩
 simp only[ufT,this]
def Sj {f:List UInt8}{l:List Q2}(hn:∀j,j<l.length-1->ufP f l j=false):ufT f l=(⟨0,0,[]⟩,⟨0,0,[]⟩,false):=by
 have:(List.range (l.length-1)).find? (ufP f l)=none:=by rw[List.find?_range_eq_none];exact fun j hj=>by simp[hn j hj]
 simp only[ufT,this]
def ufV (t:Y7×Y7×Bool):V:= .b8 [(true,[.pv (.int .i64 t.1.aX), .pv (.int .i64 t.1.n), .pv (.str t.1.ad)]),(true,[.pv (.int .i64 t.2.1.aX), .pv (.int .i64 t.2.1.n), .pv (.str t.2.1.ad)]),(false,[.pv (.bool t.2.2)])]
section
variable {B:Nat}{f:List UInt8}
def ND {f:List UInt8}{a b:Q2}(ha:a.Ok maxLen)(hb:b.Ok maxLen):cf Ph cL 415 [a.v,b.v,fY f]=some (cK (Bd f a b)):=by have e1:=lV ha.2.1 f;have e2:=lV hb.2.1 f;have e3:=lB ha.1 hb.1;unfold Bd gN;generalize vH a.au.fs f=u at e1⊢;generalize vH b.au.fs f=v at e2⊢;obtain⟨w,hw⟩:∃w,(u.1==v.1)=w:=⟨_,rfl⟩;rw[hw];refine ca rfl ?_;simp +contextual (maxSteps:=9^9) [pU,e1,e2,e3,hw]
def N5 {f:List UInt8}{a b:Q2}(ha:a.Ok maxLen)(hb:b.Ok maxLen):cf Ph cL 414 [a.v,b.v,fY f]=some (cK (Bd f a b)):=by have e1:=lX ha.2.1 f;have e2:=lX hb.2.1 f;have e3:=lC ha.1 hb.1;unfold Bd gN;generalize vH a.au.fs f=u at e1⊢;generalize vH b.au.fs f=v at e2⊢;obtain⟨w,hw⟩:∃w,(u.1==v.1)=w:=⟨_,rfl⟩;rw[hw];refine ca rfl ?_;simp +contextual (maxSteps:=9^9) [wy,e1,e2,e3,hw]
end
def He {B:Nat}(a5:B<=1048576){s:Q5}(h:s.Ok B)(f:List UInt8):cf Ph cL 413 [s.v,fY f]=some (.one (.own 4 ((sa f s.a1).map Q2.e))):=by
 have hB:B<=maxLen:=by unfold maxLen;omega
 have hl:s.a1.length<=1048576:=Zc h.2.1.1 a5;have al:=h.2.1.2;refine ca rfl ?_;simp(maxSteps:=9^9) [uz];refine fB dG Cl.fin s.a1.length [.f,.t,.f,.f,.f,.t,.f,.f,.f,.f,.f,.f,.f,.t,.t,.t,.f,.f,.f,.f,.f,.f,.f,.f,.f,.f,.f,.f,.f,.f,.f,.f,.f,.f,.f,.f,.f,.f,.f,.f,.f,.f,.f,.f,.f,.f,.f,.f,.f,.f,.f,.f] (fun k=>[(5, .one (.arr 0)),(15,ce .i64 k)]) (fun k=>[.arr 4 ((sa f (s.a1.take k)).map Q2.e)]) rfl ?_ ?_ ?_;exact Kn.of [1] (by decide) (by simp[show sa f []=[]from rfl]) (by simp)
 ·intro k hk;have hx:=Q2.e.eq_1 s.a1[k];have an:=al _ (Zf hk);have ao:=Q2.Ok.mono hB an;have f1:=lV (r:=s.a1[k].au) ao.2.1 f;have f2:=xd a5 an;have ay:=Zc (Dk f (s.a1.take k)) (by rw[ZH];exact Nat.min_le_left _ _);have hoo:∀y∈sa f (s.a1.take k),y.Ok B:=fun y hy=>al y (ZA (Dl hy));try dsimp only
  rw[Mb hk];generalize sa f (s.a1.take k)=out at ay hoo⊢;unfold pB;have aq:∀q(hq:q<out.length),_:=fun q hq=>ND (f:=f) ao (Q2.Ok.mono hB (hoo _ (Zf hq)));have az:gN f s.a1[k]=vH s.a1[k].au.fs f:=rfl;rw[az];generalize vH s.a1[k].au.fs f=u at f1⊢;obtain⟨u1,u2⟩:=u;cases u2;simp only[cond_false];simp(maxSteps:=9^9) [lE,hk,da (n:=s.a1.length) (by unfold maxLen;omega) hk,dw hk,hx,f1]
  ·simp only[cond_true];have aj:=M4 (f:=f) (x:=s.a1[k]) (out:=out) out.length;have ae:=If (f:=f) (x:=s.a1[k]) (out:=out) out.length (Zi _);have af:=Ig (f:=f) (x:=s.a1[k]) (out:=out) out.length (Zi _);have hm:=Mc out s.a1[k] (Vy f s.a1[k] out out.length);rw[hm,hx];clear hm;have m1:=gS (m:=out.length+1) (z:=56) (by omega) (by omega);generalize Vy f s.a1[k] out out.length=d at aj ae af⊢;simp(maxSteps:=9^9) [lE,hk,da (n:=s.a1.length) (by unfold maxLen;omega) hk,dw hk,hx,f1];refine U3 dG Cl.kn (out.length-d) [.f,.t,.f,.f,.f,.t,.f,.t,.f,.f,.t,.f,.f,.t,.t,.t,.f,.f,.f,.f,.f,.f,.f,.f,.f,.f,.f,.f,.f,.f,.f,.f,.f,.f,.f,.f,.f,.f,.f,.f,.f,.f,.f,.f,.f,.f,.f,.f,.f,.f,.f,.f] (fun j=>[(10,ce .i64 ((out.length-j:Nat):Int))]) (fun _=>[.arr 4 (out.map Q2.e), .box [.pv (.int .i64 s.a1[k].aZ.aX), .pv (.int .i64 s.a1[k].aZ.n), .pv (.str s.a1[k].aZ.ad), .pv (.lst (s.a1[k].au.fs.map Q8.e))]]) 2 rfl ?_ ?_ ?_ ?_;simp
   ·intro j hj;obtain⟨q,hq⟩:∃q,out.length-j=q+1:=⟨out.length-j-1,by omega⟩;have aA:out.length-(j+1)=q:=by omega
    have a6:q<out.length:=by omega
    have l1:=aq q a6;rw[ae q (by omega) a6 a6]at l1;have hy:=Q2.e.eq_1 out[q];have w4:dZ 0 ((q:Int)+1)=true:=ji (by omega);have w5:IntKind.i64.wrap ((q:Int)+1-1)=(q:Int):=by rw[IntKind.wrap_i64];omega
    have w6:IntKind.i64.wrap (q:Int)=(q:Int):=by rw[IntKind.wrap_i64];omega
    try dsimp only
    rw[hq,aA];clear ae af;simp(maxSteps:=9^9) [j3,hk,hx,hy,a6,l1,w4,w5,w6]
   ·have hz:out.length-(out.length-d)=d:=by omega
    try dsimp only
    rw[hz];cases d with
    |zero=>simp(maxSteps:=9^9) [j3,show dZ 0 0=false from rfl]
    |succ q=>
     obtain⟨a6,aB⟩:=af q rfl;have l1:=aq q a6;rw[aB]at l1;have hy:=Q2.e.eq_1 out[q];have w4:dZ 0 ((q:Int)+1)=true:=ji (by omega);have w5:IntKind.i64.wrap ((q:Int)+1-1)=(q:Int):=by rw[IntKind.wrap_i64];omega
     have w6:IntKind.i64.wrap (q:Int)=(q:Int):=by rw[IntKind.wrap_i64];omega
     simp(maxSteps:=9^9) [j3,hk,hx,hy,a6,l1,w4,w5,w6]
   ·have hz:out.length-(out.length-d)=d:=by omega
    try dsimp only
    rw[hz];have aD:(d:Int)<=(out.length:Int):=by omega
    simp(maxSteps:=9^9) [f2,hk,hx,da (n:=s.a1.length) (by unfold maxLen;omega) hk,aj,aD,m1,-fI];exact Kn.of [4] (by decide) (by simp) (by simp)
 ·try dsimp only
  rw[Yd];simp(maxSteps:=9^9) [lE]
def Hm {B:Nat}(a5:B<=1048576){s:Q5}(h:s.Ok B)(f:List UInt8):cf Ph cL 409 [s.v,fY f]=some (.one (.own 4 ((sa f s.a1).map Q2.e))):=by
 have hB:B<=maxLen:=by unfold maxLen;omega
 have hl:s.a1.length<=1048576:=Zc h.2.1.1 a5;have al:=h.2.1.2;refine ca rfl ?_;simp(maxSteps:=9^9) [uF];refine fB dG Cl.fin s.a1.length [.f,.t,.t,.f,.f,.t,.t,.f,.f,.f,.f,.f,.f,.f,.f,.f,.f,.f,.f,.f,.f,.f,.f,.f,.f,.f,.f,.f,.f,.f,.f,.f,.f,.f,.f,.f,.f,.f,.f,.f,.f,.f,.f,.f,.f,.f,.f,.f,.f,.f,.f,.f,.f,.f,.f,.f,.f,.f,.f,.f,.f,.f,.f,.f,.f,.f,.f,.f,.f,.f,.f,.f] (fun k=>[(5, .one (.arr 1)),(6,ce .i64 k)]) (fun k=>[.box [.pv (.str s.aG), .pv (.lst (s.a1.map Q2.e)), .pv (.int .i64 s.aS)], .arr 4 ((sa f (s.a1.take k)).map Q2.e)]) rfl ?_ ?_ ?_;exact Kn.of [0,1] (by decide) (by simp[show sa f []=[]from rfl]) (by simp)
 ·intro k hk;have hx:=Q2.e.eq_1 s.a1[k];have an:=al _ (Zf hk);have ao:=Q2.Ok.mono hB an;have f1:=lX (r:=s.a1[k].au) ao.2.1 f;have f2:=zI a5 an;have ay:=Zc (Dk f (s.a1.take k)) (by rw[ZH];exact Nat.min_le_left _ _);have hoo:∀y∈sa f (s.a1.take k),y.Ok B:=fun y hy=>al y (ZA (Dl hy));try dsimp only
  rw[Mb hk];generalize sa f (s.a1.take k)=out at ay hoo⊢;unfold pB;have aq:∀q(hq:q<out.length),_:=fun q hq=>N5 (f:=f) ao (Q2.Ok.mono hB (hoo _ (Zf hq)));have az:gN f s.a1[k]=vH s.a1[k].au.fs f:=rfl;rw[az];generalize vH s.a1[k].au.fs f=u at f1⊢;obtain⟨u1,u2⟩:=u;cases u2;simp only[cond_false];simp(maxSteps:=9^9) [lG,hk,da (n:=s.a1.length) (by unfold maxLen;omega) hk,dw hk,hx,f1]
  ·simp only[cond_true];have aj:=M4 (f:=f) (x:=s.a1[k]) (out:=out) out.length;have ae:=If (f:=f) (x:=s.a1[k]) (out:=out) out.length (Zi _);have af:=Ig (f:=f) (x:=s.a1[k]) (out:=out) out.length (Zi _);have hm:=Mc out s.a1[k] (Vy f s.a1[k] out out.length);rw[hm,hx];clear hm;have m1:=gS (m:=out.length+1) (z:=56) (by omega) (by omega);generalize Vy f s.a1[k] out out.length=d at aj ae af⊢;simp(maxSteps:=9^9) [lG,hk,da (n:=s.a1.length) (by unfold maxLen;omega) hk,dw hk,hx,f1];refine U3 dG Cl.kn (out.length-d) [.f,.t,.t,.f,.f,.t,.t,.f,.f,.t,.f,.f,.f,.f,.f,.f,.f,.f,.f,.f,.f,.f,.f,.f,.f,.f,.f,.f,.f,.f,.f,.f,.f,.f,.f,.f,.f,.f,.f,.f,.f,.f,.f,.f,.f,.f,.f,.f,.f,.f,.f,.f,.f,.f,.f,.f,.f,.f,.f,.f,.f,.f,.f,.f,.f,.f,.f,.f,.f,.f,.f,.f] (fun j=>[(9,ce .i64 ((out.length-j:Nat):Int))]) (fun _=>[.box [.pv (.str s.aG), .pv (.lst (s.a1.map Q2.e)), .pv (.int .i64 s.aS)], .arr 4 (out.map Q2.e)]) 2 rfl ?_ ?_ ?_ ?_;simp
   ·intro j hj;obtain⟨q,hq⟩:∃q,out.length-j=q+1:=⟨out.length-j-1,by omega⟩;have aA:out.length-(j+1)=q:=by omega
    have a6:q<out.length:=by omega
    have l1:=aq q a6;rw[ae q (by omega) a6 a6]at l1;have hy:=Q2.e.eq_1 out[q];have w4:dZ 0 ((q:Int)+1)=true:=ji (by omega);have w5:IntKind.i64.wrap ((q:Int)+1-1)=(q:Int):=by rw[IntKind.wrap_i64];omega
    have w6:IntKind.i64.wrap (q:Int)=(q:Int):=by rw[IntKind.wrap_i64];omega
    try dsimp only
    rw[hq,aA];clear ae af;simp(maxSteps:=9^9) [j6,hk,hx,hy,a6,l1,w4,w5,w6]
   ·have hz:out.length-(out.length-d)=d:=by omega
    try dsimp only
    rw[hz];cases d with
    |zero=>simp(maxSteps:=9^9) [j6,show dZ 0 0=false from rfl]
    |succ q=>
     obtain⟨a6,aB⟩:=af q rfl;have l1:=aq q a6;rw[aB]at l1;have hy:=Q2.e.eq_1 out[q];have w4:dZ 0 ((q:Int)+1)=true:=ji (by omega);have w5:IntKind.i64.wrap ((q:Int)+1-1)=(q:Int):=by rw[IntKind.wrap_i64];omega
     have w6:IntKind.i64.wrap (q:Int)=(q:Int):=by rw[IntKind.wrap_i64];omega
     simp(maxSteps:=9^9) [j6,hk,hx,hy,a6,l1,w4,w5,w6]
   ·have hz:out.length-(out.length-d)=d:=by omega
    try dsimp only
    rw[hz];have aD:(d:Int)<=(out.length:Int):=by omega
    have t1:((out.map Q2.e).take d).all (fun e=>e.length==4)=true:=by rw[<-List.map_take];exact fL (e:=Q2.e) (z:=4) (fun _=>rfl) _
    have t2:((out.map Q2.e).drop d).all (fun e=>e.length==4)=true:=by rw[<-List.map_drop];exact fL (e:=Q2.e) (z:=4) (fun _=>rfl) _
    have t3:=fL (e:=Q2.e) (z:=4) (fun _=>rfl) out;have n1:min d out.length=d:=Nat.min_eq_left aj;have n3:d+1+(out.length-d)=out.length+1:=by omega
    have m2:=gS (m:=d+1) (z:=56) (by omega) (by omega);have m3:=gS (m:=d) (z:=56) (by omega) (by omega);have n4:List.take (out.length-d) (List.drop d (List.map Q2.e out))=List.drop d (List.map Q2.e out):=Zs (by simp);simp(maxSteps:=9^9) [n4,f2,hk,hx,da (n:=s.a1.length) (by unfold maxLen;omega) hk,aj,aD,t1,t2,t3,n1,n3,m1,m2,m3,-fI];exact Kn.of [0,7] (by decide) (by simp) (by simp)
 ·try dsimp only
  rw[Yd];simp(maxSteps:=9^9) [lG]
def AI {B:Nat}(a5:B<=1048576){s:Q5}(h:s.Ok B)(f:List UInt8):cf Ph cL 406 [s.v,fY f]=some (ufV (ufT f (sa f s.a1))):=by
 have hB:B<=maxLen:=by unfold maxLen;omega
 have e1:=He a5 h f;have aH:=Zc (Dk f s.a1) (Zc h.2.1.1 a5);have hoo:∀y∈sa f s.a1,y.Ok maxLen:=fun y hy=>Q2.Ok.mono hB (h.2.1.2 y (Dl hy));refine ca rfl ?_;generalize sa f s.a1=l at e1 aH hoo⊢;unfold ufV;simp(maxSteps:=9^9) [pO,e1];refine cP dG Cl.fin [.f,.t,.f,.f,.t,.t,.f,.t,.t,.f,.f,.f,.f,.f,.f,.f,.f,.f,.f,.f,.f,.f,.f,.f,.f,.f,.f,.f,.f,.f,.f,.f,.f,.f,.f,.f,.f,.f,.f,.f,.f,.f,.f,.f,.f,.f,.f,.f,.f,.f,.f,.f,.f,.f,.f,.f,.f,.f,.f] (fun k=>[(8,ce .i64 ((k:Int)+1))]) (l.length-1) (ufP f l) rfl (by simp) (fun k hk hn=> ?_) (fun hp _=> ?_);have a7:k+1<l.length:=by omega
 have ab:k<l.length:=by omega
 obtain⟨i1,i2,i3,i4,i5,i6⟩:=sZ (n:=l.length) (by unfold maxLen;omega) a7;have f1:=lV (r:=l[k].au) (hoo _ (Zf ab)).2.1 f;have f2:=lV (r:=l[k+1].au) (hoo _ (Zf a7)).2.1 f;have hx:=Q2.e.eq_1 l[k];have hy:=Q2.e.eq_1 l[k+1];have hq:=Sk (f:=f) hk;have ag:=abB (f:=f) a7;unfold gN at ag;have ka:ym l k=l[k].aZ:=by simp[ym,ab]
 have kb:ym l (k+1)=l[k+1].aZ:=by simp[ym,a7]
 rw[ag];rw[ag,ka,kb]at hq;generalize vH l[k].au.fs f=u at f1 hq⊢;generalize vH l[k+1].au.fs f=v at f2 hq⊢;cases hc:(u.1==v.1);simp(maxSteps:=9^9) [jA,ab,a7,hx,hy,i1,i2,i4,i5,i6,ji i6,f1,f2,hc];rw[hq hc hn];simp(maxSteps:=9^9) [jA,ab,a7,hx,hy,i1,i2,i4,i5,i6,ji i6,f1,f2,hc];rw[Sj hp];have aI:dZ (((l.length-1:Nat):Int)+1) (l.length:Int)=false:=iN (by omega);simp(maxSteps:=9^9) [jA,aI]
def AY {B:Nat}(a5:B<=1048576){s:Q5}(h:s.Ok B)(f:List UInt8):cf Ph cL 401 [s.v,fY f]=some (ufV (ufT f (sa f s.a1))):=by
 have hB:B<=maxLen:=by unfold maxLen;omega
 have e1:=Hm a5 h f;have aH:=Zc (Dk f s.a1) (Zc h.2.1.1 a5);have hoo:∀y∈sa f s.a1,y.Ok maxLen:=fun y hy=>Q2.Ok.mono hB (h.2.1.2 y (Dl hy));refine ca rfl ?_;generalize sa f s.a1=l at e1 aH hoo⊢;unfold ufV;simp(maxSteps:=9^9) [p4,e1];refine cP dG Cl.fin [.f,.t,.f,.f,.t,.t,.f,.t,.t,.f,.f,.f,.f,.f,.f,.f,.f,.f,.f,.f,.f,.f,.f,.f,.f,.f,.f,.f,.f,.f,.f,.f,.f,.f,.f,.f,.f,.f,.f,.f,.f,.f,.f,.f,.f,.f,.f,.f,.f,.f,.f,.f,.f,.f,.f,.f,.f,.f,.f] (fun k=>[(8,ce .i64 ((k:Int)+1))]) (l.length-1) (ufP f l) rfl (by simp) (fun k hk hn=> ?_) (fun hp _=> ?_);have a7:k+1<l.length:=by omega
 have ab:k<l.length:=by omega
 obtain⟨i1,i2,i3,i4,i5,i6⟩:=sZ (n:=l.length) (by unfold maxLen;omega) a7;have f1:=lX (r:=l[k].au) (hoo _ (Zf ab)).2.1 f;have f2:=lX (r:=l[k+1].au) (hoo _ (Zf a7)).2.1 f;have hx:=Q2.e.eq_1 l[k];have hy:=Q2.e.eq_1 l[k+1];have hq:=Sk (f:=f) hk;have ag:=abB (f:=f) a7;unfold gN at ag;have ka:ym l k=l[k].aZ:=by simp[ym,ab]
 have kb:ym l (k+1)=l[k+1].aZ:=by simp[ym,a7]
 rw[ag];rw[ag,ka,kb]at hq;generalize vH l[k].au.fs f=u at f1 hq⊢;generalize vH l[k+1].au.fs f=v at f2 hq⊢;cases hc:(u.1==v.1);simp(maxSteps:=9^9) [jB,ab,a7,hx,hy,i1,i2,i4,i5,i6,ji i6,f1,f2,hc];rw[hq hc hn];simp(maxSteps:=9^9) [jB,ab,a7,hx,hy,i1,i2,i4,i5,i6,ji i6,f1,f2,hc];rw[Sj hp];have aI:dZ (((l.length-1:Nat):Int)+1) (l.length:Int)=false:=iN (by omega);simp(maxSteps:=9^9) [jB,aI]
def aah (ss:List Q5)(k:Nat):Bool:=match ss[k]?,ss[k-1]? with
 |some x,some y=> !(gj x)||(dZ 0 k&& !(Op.bytesLess y.aG x.aG))
 |_,_=>false
def vp (a b:Q9):Bool:=a.aF==b.aF&&a.aU==b.aU
def JX (a b:Q9):vp a b=vp b a:=by unfold vp;rw[Bool.beq_comm (a:=a.aF),Bool.beq_comm (a:=a.aU)]
def Pr (us:List Q9)(k:Nat):Bool:=match us[k]? with
 |some u=>jP k (kE (vp u) us)
 |none=>false
def Ky (ss:List Q5)(us:List Q9)(k:Nat):Bool:=match us[k]? with
 |some u=>match ss.find? (isS u.aF)with
  |some s=> !(fU u.aU)||(Pr us k||(ufT u.aU (sa u.aU s.a1)).2.2)
  |none=>true
 |none=>false
def Ta (d:Y2):Bool:=fU d.aG&&(rg d.aC 0 1000&&(!(dZ 4 d.a9.length)&&(!(dZ 4 d.aE.length)&&(!(jP d.a9.length (aah d.a9))&& !(jP d.aE.length (Ky d.a9 d.aE))))))
def mQ {α:Type}(p:α->Bool)(xs:List α):(fO p xs= -1/\ xs.find? p=none) \/∃j,∃hj:j<xs.length,fO p xs=(j:Int)/\ xs.find? p=some xs[j]:=by
 unfold fO;cases h:xs.findIdx? p with
 |none=>exact .inl ⟨rfl,by rw[YB]at h;rw[Qk];exact fun x hx=>by simp[h x hx]⟩
 |some i=>rw[ZS]at h;obtain⟨h1,h2,h3⟩:=h;refine .inr ⟨i,h1,rfl,?_⟩;rw[YT];exact⟨h2,i,h1,rfl,fun j hj=>by simpa using h3 j hj⟩
def VM {p:Q9->Bool}{us:List Q9}{k:Nat}(hk:k<us.length):(!(dZ (fO p (us.take k)) 0))=jP k (kE p us):=by
 have aQ:∀j,j<k->kE p (us.take k) j=kE p us j:=fun j hj=>by simp[kE,ZL,hj]
 rcases Ai p (us.take k)with h|⟨j,hj,h1,h2⟩;rw[h,ji (by omega)];refine(MJ fun j hj=> ?_).symm;have a8:j<(us.take k).length:=by simp;omega
 rw[<-aQ j hj];have:=Ui h _ (Zf a8);simp only[kE,Zk a8];exact this;have a8:j<k:=by simp at hj;omega
 rw[h1,iN (by omega)];refine(aad a8 ?_).symm;rw[<-aQ j a8];simp only[kE,Zk hj];exact h2
def Jt {us:List Q9}(hl:us.length<=maxLen)(x:Q9):cf Ph cL 412 [eQ (us.map Q9.e),x.v]=some (ce .i64 (fO (vp x) us)):=by refine ca rfl ?_;simp +contextual (maxSteps:=9^9) [gG];refine cP dG Cl.fin [.t,.f,.f,.t,.f,.f,.f,.t,.t,.f,.f,.f,.f,.f,.f,.f,.f,.f,.f] (fun k=>[(8,ce .i64 k)]) us.length (kE (vp x) us) rfl (by simp) (fun k hk hj=> ?_) (fun hj _=> ?_);have hf:=wB hk hj;simp +contextual (maxSteps:=9^9) [fv,kE,vp,hk,hf,da hl hk,dw hk,Q9.e.eq_1 us[k],t7,Ue];simp +contextual (maxSteps:=9^9) [fv,wA hj]
def Dn {us:List Q9}(hl:us.length<=maxLen)(x:Q9):cf Ph cL 405 [eQ (us.map Q9.e),x.v]=some (cK (!(dZ (fO (vp x) us) 0))):=by have e1:=Jt hl x;refine ca rfl ?_;simp +contextual (maxSteps:=9^9) [fZ,e1]
def BU {B:Nat}(a5:B<=1048576){d:Y2}(h:d.Ok B):cf Ph cL 397 [d.v]=some (cK (Ta d)):=by
 have hB:B<=maxLen:=by unfold maxLen;omega
 obtain⟨hn,hv,⟨aJ,hs⟩,aK,hu⟩:=h;have e1:=eL (Zc hn hB);have e2:=dR d.aC 0 1000;have ah:d.a9.length<=maxLen:=Zc aJ hB;have aa:d.aE.length<=maxLen:=Zc aK hB;unfold Ta;refine ca rfl ?_;cases c1:fU d.aG<;>rw[c1]at e1;simp(maxSteps:=9^9) [iJ,e1];cases c2:rg d.aC 0 1000<;>rw[c2]at e2;simp(maxSteps:=9^9) [iJ,e1,e2];cases c3:dZ 4 d.a9.length;rotate_left;simp(maxSteps:=9^9) [iJ,e1,e2,c3];cases c4:dZ 4 d.aE.length;rotate_left;simp(maxSteps:=9^9) [iJ,e1,e2,c3,c4];simp(maxSteps:=9^9) [iJ,e1,e2,c3,c4];refine cP dG Cl.fin [.f,.t,.f,.f,.f,.f,.f,.f,.f,.f,.f,.f,.f,.f,.f,.f,.f,.f,.f,.f,.f,.f,.f,.f,.f,.f,.f,.f,.f,.f,.f,.f,.f,.f,.t,.t,.t,.f,.f,.f,.f,.f,.f,.f,.f,.f,.f,.f,.f,.f,.f,.f,.f,.f,.f,.f,.f,.f,.f,.f,.f,.f,.f,.f,.f,.f,.f,.f,.f,.f,.f,.f,.f,.f,.f,.f,.f,.f,.f,.f,.f,.f,.f,.f,.f,.f,.f,.f,.f,.f,.f,.f,.f,.f,.f,.f,.f,.f,.f,.f,.f,.f,.f] (fun k=>[(36,ce .i64 k)]) d.a9.length (aah d.a9) rfl (by simp) (fun k hk _=> ?_) (fun _ hp=> ?_);obtain⟨q1,q2⟩:=AQ ah hk;have e3:=kJ (Q5.Ok.mono hB (hs _ (Zf hk)));simp +contextual (maxSteps:=9^9) [jQ,aah,hk,q1,q2,da ah hk,dw hk,Q5.e.eq_1 d.a9[k],Q5.e.eq_1 d.a9[k-1],e3];simp(maxSteps:=9^9) [jQ,hp];refine cP dG Cl.fin [.f,.t,.f,.f,.f,.f,.f,.f,.f,.f,.f,.f,.f,.f,.f,.f,.f,.f,.f,.f,.f,.f,.f,.f,.f,.f,.f,.f,.f,.f,.f,.f,.f,.f,.f,.f,.f,.f,.f,.f,.f,.f,.f,.f,.f,.f,.f,.f,.f,.f,.f,.f,.f,.f,.f,.f,.f,.f,.f,.f,.f,.f,.t,.t,.t,.f,.f,.f,.f,.f,.f,.f,.f,.f,.f,.f,.f,.f,.f,.f,.f,.f,.f,.f,.f,.f,.f,.f,.f,.f,.f,.f,.f,.f,.f,.f,.f,.f,.f,.f,.f,.f,.f] (fun k=>[(64,ce .i64 k)]) d.aE.length (Ky d.a9 d.aE) rfl (by simp) (fun k hk _=> ?_) (fun _ hp=> ?_);have e3:=Dp (d:=d) ah d.aE[k].aF;have e4:=eL (Zc (hu _ (Zf hk)).2 hB);have e5:=Dn (us:=d.aE.take k) (by rw[ZH];omega) d.aE[k];rw[VM hk]at e5;have ai:Pr d.aE k=jP k (kE (vp d.aE[k]) d.aE):=by simp[Pr,hk]
 rw[<-ai]at e5;rw[List.map_take]at e5;have hx:=Q9.e.eq_1 d.aE[k];have w:=fL (e:=Q9.e) (z:=2) (fun _=>rfl) d.aE;rcases mQ (isS d.aE[k].aF) d.a9 with⟨h1,h2⟩|⟨j,hj,h1,h2⟩<;>rw[h1]at e3;rw[show Ky d.a9 d.aE k=true by simp[Ky,hk,h2]];simp +contextual (maxSteps:=9^9) [jR,hk,e3,hx,da aa hk,dw hk,show dZ (-1) 0=true from rfl];have e6:=AI a5 (hs _ (Zf hj)) d.aE[k].aU;have hy:=Q5.e.eq_1 d.a9[j];rw[show Ky d.a9 d.aE k=(!(fU d.aE[k].aU)||(Pr d.aE k||(ufT d.aE[k].aU (sa d.aE[k].aU d.a9[j].a1)).2.2)) by simp[Ky,hk,h2]];generalize ufT d.aE[k].aU (sa d.aE[k].aU d.a9[j].a1)=T at e6⊢;unfold ufV at e6;generalize fU d.aE[k].aU=N at e4⊢;generalize Pr d.aE k=D at e5⊢;simp +contextual (maxSteps:=9^9) [jR,hk,hj,e3,e4,e5,e6,hx,hy,w,YU hk,da aa hk,dw hk,xX];simp(maxSteps:=9^9) [jR,hp]
def Cl.imp {call:Nat->List V->Option V}(hc:vG call){Q:Ex->St->Prop}(hQ:Cl Q){ks:List Fr}(hz:kz ks=true){A:Prop}:Cl (fun e X=>A->wp call Q ks (some (e,X))):=fun e Z X k h a=>abI hc hQ hz k (h a)
def Ca {B:Nat}(a5:B<=1048576){d:Y2}(h:d.Ok B):cf Ph cL 393 [d.v]=some (cK (Ta d)):=by
 have hB:B<=maxLen:=by unfold maxLen;omega
 obtain⟨hn,hv,⟨aJ,hs⟩,aK,hu⟩:=h;have e1:=fR (Zc hn hB);have e2:=eN d.aC 0 1000;have ah:d.a9.length<=maxLen:=Zc aJ hB;have aa:d.aE.length<=maxLen:=Zc aK hB;unfold Ta;refine ca rfl ?_;simp(maxSteps:=9^9) [qG];refine cP dG Cl.fin [.f,.t,.f,.t,.f,.f,.f,.f,.f,.f,.f,.f,.f,.f,.f,.f,.f,.f,.f,.f,.f,.f,.f,.f,.f,.f,.f,.f,.f,.f,.f,.f,.f,.f,.f,.f,.f,.f,.f,.f,.f,.f,.f,.f,.f,.f,.f,.f,.f,.f,.f,.f,.f,.f,.f,.f,.f,.f,.f,.f,.f,.f,.f,.f,.f,.f,.f,.f,.f,.f,.f,.f,.f,.f,.f,.f,.f,.f,.f,.f,.f,.f,.f,.f,.f,.f,.f,.f,.f,.f,.f,.f,.f,.f,.f,.f,.f,.f,.f,.f,.f,.f,.f,.f,.f,.f,.f,.f,.f,.f,.f,.f,.f,.f,.f,.f,.f,.f,.f,.f,.f,.f,.f,.f] (fun k=>[(3,ce .i64 k)]) d.a9.length (aah d.a9) rfl (by simp) (fun k hk _=> ?_) (fun _ hp=> ?_);obtain⟨q1,q2⟩:=AQ ah hk;have e3:=pE (Q5.Ok.mono hB (hs _ (Zf hk)));simp +contextual (maxSteps:=9^9) [iS,aah,hk,q1,q2,da ah hk,dw hk,Q5.e.eq_1 d.a9[k],Q5.e.eq_1 d.a9[k-1],e3]
 ·simp(maxSteps:=9^9) [iS,hp];refine cP dG Cl.fin [.f,.t,.f,.f,.t,.f,.f,.f,.f,.f,.f,.f,.f,.f,.f,.f,.f,.f,.f,.f,.f,.f,.f,.f,.f,.f,.f,.f,.f,.f,.f,.f,.f,.f,.f,.f,.f,.f,.f,.f,.f,.f,.f,.f,.f,.f,.f,.f,.f,.f,.f,.f,.f,.f,.f,.f,.f,.f,.f,.f,.f,.f,.f,.f,.f,.f,.f,.f,.f,.f,.f,.f,.f,.f,.f,.f,.f,.f,.f,.f,.f,.f,.f,.f,.f,.f,.f,.f,.f,.f,.f,.f,.f,.f,.f,.f,.f,.f,.f,.f,.f,.f,.f,.f,.f,.f,.f,.f,.f,.f,.f,.f,.f,.f,.f,.f,.f,.f,.f,.f,.f,.f,.f,.f] (fun k=>[(4,ce .i64 k)]) d.aE.length (Ky d.a9 d.aE) rfl (by simp) (fun k hk _=> ?_) (fun _ hp=> ?_)
  ·have e3:=DN (d:=d) ah d.aE[k].aF;have e4:=fR (Zc (hu _ (Zf hk)).2 hB);have ai:Pr d.aE k=jP k (kE (vp d.aE[k]) d.aE):=by simp[Pr,hk]
   have hx:=Q9.e.eq_1 d.aE[k];rcases mQ (isS d.aE[k].aF) d.a9 with⟨h1,h2⟩|⟨j,hj,h1,h2⟩<;>rw[h1]at e3;rw[show Ky d.a9 d.aE k=true by simp[Ky,hk,h2]];simp +contextual (maxSteps:=9^9) [gP,hk,e3,hx,da aa hk,dw hk,show dZ (-1) 0=true from rfl]
   ·have e6:=AY a5 (hs _ (Zf hj)) d.aE[k].aU;have hy:=Q5.e.eq_1 d.a9[j];rw[show Ky d.a9 d.aE k=(!(fU d.aE[k].aU)||(Pr d.aE k||(ufT d.aE[k].aU (sa d.aE[k].aU d.a9[j].a1)).2.2)) by simp[Ky,hk,h2],ai];generalize ufT d.aE[k].aU (sa d.aE[k].aU d.a9[j].a1)=T at e6⊢;unfold ufV at e6;generalize fU d.aE[k].aU=N at e4⊢;cases N;simp +contextual (maxSteps:=9^9) [gP,hk,hj,e3,e4,e6,hx,hy,da aa hk,dw hk,xX];cases hT:T.2.2<;>rw[hT]at e6;rotate_left;simp +contextual (maxSteps:=9^9) [gP,hk,hj,e3,e4,e6,hx,hy,da aa hk,dw hk,xX];cases hD:jP k (kE (vp d.aE[k]) d.aE);simp(maxSteps:=9^9) [gP,hk,hj,e3,e4,e6,hx,hy,da aa hk,dw hk,xX];refine cP dG (Cl.kn) [.f,.t,.f,.f,.t,.f,.f,.f,.f,.t,.f,.f,.f,.f,.f,.f,.f,.f,.f,.f,.f,.f,.f,.f,.f,.f,.f,.f,.f,.f,.f,.f,.f,.f,.f,.f,.f,.f,.f,.f,.f,.f,.f,.f,.f,.f,.f,.f,.f,.f,.f,.f,.f,.f,.f,.f,.f,.f,.f,.f,.f,.f,.f,.f,.f,.f,.f,.f,.f,.f,.f,.f,.f,.f,.f,.f,.f,.f,.f,.f,.f,.f,.f,.f,.f,.f,.f,.f,.f,.f,.f,.f,.f,.f,.f,.f,.f,.f,.f,.f,.f,.f,.f,.f,.f,.f,.f,.f,.f,.f,.f,.f,.f,.f,.f,.f,.f,.f,.f,.f,.f,.f,.f,.f] (fun j=>[(9,ce .i64 j)]) k (kE (vp d.aE[k]) d.aE) rfl (by simp) (fun i hi _=> ?_) (fun _ hq=> ?_);have ar:i<d.aE.length:=by omega
    have aL:vp d.aE[k] d.aE[i]=(d.aE[i].aF==d.aE[k].aF&&d.aE[i].aU==d.aE[k].aU):=JX _ _;simp +contextual (maxSteps:=9^9) [iT,kE,aL,ar,hk,hx,Q9.e.eq_1 d.aE[i],t7,Ue,da aa ar,dw hi,hD];simp(maxSteps:=9^9) [iT,da aa hk];simp(maxSteps:=9^9) [gP,hk,hj,e3,e4,e6,hx,hy,da aa hk,dw hk,xX];refine cP dG (Cl.imp dG Cl.fin rfl) [.f,.t,.f,.f,.t,.f,.f,.f,.f,.t,.f,.f,.f,.f,.f,.f,.f,.f,.f,.f,.f,.f,.f,.f,.f,.f,.f,.f,.f,.f,.f,.f,.f,.f,.f,.f,.f,.f,.f,.f,.f,.f,.f,.f,.f,.f,.f,.f,.f,.f,.f,.f,.f,.f,.f,.f,.f,.f,.f,.f,.f,.f,.f,.f,.f,.f,.f,.f,.f,.f,.f,.f,.f,.f,.f,.f,.f,.f,.f,.f,.f,.f,.f,.f,.f,.f,.f,.f,.f,.f,.f,.f,.f,.f,.f,.f,.f,.f,.f,.f,.f,.f,.f,.f,.f,.f,.f,.f,.f,.f,.f,.f,.f,.f,.f,.f,.f,.f,.f,.f,.f,.f,.f,.f] (fun j=>[(9,ce .i64 j)]) k (kE (vp d.aE[k]) d.aE) rfl (by simp) (fun i hi _=> ?_) (fun _ hq=> ?_);have ar:i<d.aE.length:=by omega
    have aL:vp d.aE[k] d.aE[i]=(d.aE[i].aF==d.aE[k].aF&&d.aE[i].aU==d.aE[k].aU):=JX _ _;simp +contextual (maxSteps:=9^9) [iT,kE,aL,ar,hk,hx,Q9.e.eq_1 d.aE[i],t7,Ue,da aa ar,dw hi,hD];rw[hD]at hq;cases hq
  simp +contextual (maxSteps:=9^9) [gP,hp,e1,e2]
end Gi
