/- Of this proof. -/
import Derived.Test.YtpnolnkjijmfjaaGreatGkh
set_option linter.all false
namespace Gi
open Go Go.RowKit
set_option maxHeartbeats 8000000
set_option maxRecDepth 4000
attribute [local simp] start qt dY fa fh gj fg gi gr gq rB rY rE rZ rH r8 rI r9 rJ sa rS sd rU se rV sf rW sh V.cells plain dP ja isInt isStr isBool bin eu i7 ew i9 gl un asList L.view cy V.view viewL dd cu eC dN eh comp cU dS eV dW dD dA dC cF ct df co cE cO cA dx du cH dE dF V.flat L.flat fe fv dK putAt thaw thawL thawT V.ow gn fj fk ez gm eA fi freezeVs freezeLs freezeL V.mut L.mut cN fx iI dj dQ cZ fI ed dH eB L.bD cQ fy ej fE ep eH wp_seq wp_block dh fo eD dO eE wp_skip wp_exit wp_ret eG eM eP eN eT eU eS dV cM L.bB cX cV cW fm dI storeD dg gZ cq eK cJ nP L.bG L.closed V.closed PV.bare PV.flat
def HL {B:Nat}(hB:B<=1048576){s:Q6}(h:s.Ok B){k:Y7}(hk:k.Ok B){r:X7}(hr:r.Ok B):cf Ph cK 339 [s.v,k.v,r.v]=some (Oh (Bd s k r)):=by
 have hM:B+1<=maxLen:=by unfold maxLen;omega
 have hl:s.a1.length<=1048576:=Zc h.2.1.1 hB;have e1:=mj hB h;have e2:=pO (Q6.Ok.mono (by omega) h);have e3:=px (Y7.Ok.mono (by omega) hk);have e4:=xJ (s:=s) (by unfold maxLen;omega) k;have e5:=vJ hB hr;have e8:=mi (X7.Ok.mono (show B<=maxLen by omega) hr);have O:=jg 4 (s.a1.map Q3.e);unfold Bd;refine ca rfl ?_;cases c1:gy s<;>rw[c1]at e2;rcases O with⟨_,q1,q2⟩|⟨_,q1,q2⟩<;>rw[q1]at e1<;>simp(maxSteps:=9^9) [iP,e1,e2,q2];cases c2:nI k<;>rw[c2]at e3;rcases O with⟨_,q1,q2⟩|⟨_,q1,q2⟩<;>rw[q1]at e1<;>simp(maxSteps:=9^9) [iP,e1,e2,e3,q2];cases c3:gL r.fs<;>rw[c3]at e8;rcases O with⟨_,q1,q2⟩|⟨_,q1,q2⟩<;>rw[q1]at e1<;>simp(maxSteps:=9^9) [iP,e1,e2,e3,e8,q2];have l0:dZ (-1) 0=true:=rfl;rcases AB (FH k) s.a1 with hf|⟨j,hj,hf,hq⟩<;>rw[hf]at e4⊢;by_cases aM:16<=s.a1.length;have av:dZ (s.a1.length:Int) 16=false:=iG (by omega);rcases O with⟨q,q1,q2⟩|⟨_,q1,q2⟩;have:=congrArg List.length q;simp only[Zr,Zx]at this;omega;rw[q1]at e1;simp(maxSteps:=9^9) [iP,e1,e2,e3,e4,e8,l0,av,aM,q2];have av:dZ (s.a1.length:Int) 16=true:=jl (by omega);rw[if_neg (by decide),if_neg aM];have hA:=Pz s k;obtain⟨g1,h1⟩:∃g,(k.aW==1)=g:=⟨_,rfl⟩;rw[h1]at hA;have aN:dZ s.aS 0=false/\ dZ 1000000 s.aS=false:=by simp only[gy,rg,Zg,Zz]at c1;exact c1.2.2.2
 have ax:IntKind.i64.wrap (s.aS+1)=s.aS+1:=by have q1:=of_decide_eq_false aN.1;have q2:=of_decide_eq_false aN.2;rw[IntKind.wrap_i64];omega
 have aR:dZ k.n (s.aS+1)= !(dZ s.aS k.n):=by unfold dZ;rw[Qg];simp;omega
 have e9:=eQ k.n (s.aS+1) 1000000;rw[rg,aR]at e9;have a2:=Rt s k r;have hp:=DW s.a1 k;have b1:= @Of s.a1 k;have b2:= @Oe s.a1 k;have O2:=jg 4 ((um s k r).map Q3.e);rcases O2 with⟨q,_⟩|⟨_,_,q3⟩;rw[a2]at q;simp at q;generalize um s k r=F at a2 q3⊢;generalize Bb s.a1 k=p at a2 hp b1 b2;have m1:=gU (m:=s.a1.length+1) (z:=56) (by omega) (by omega);have m2:=gU (m:=p) (z:=56) (by omega) (by omega);have m3:=gU (m:=p+1) (z:=56) (by omega) (by omega);have w2:((s.a1.map Q3.e).take p).all (fun e=>e.length==4)=true:=by rw[<-List.map_take];exact fM (e:=Q3.e) (z:=4) (fun _=>rfl) _
 have w3:((s.a1.map Q3.e).drop p).all (fun e=>e.length==4)=true:=by rw[<-List.map_drop];exact fM (e:=Q3.e) (z:=4) (fun _=>rfl) _
 have t1:List.take (s.a1.length-p) ((s.a1.map Q3.e).drop p)=(s.a1.map Q3.e).drop p:=Zs (by simp);have t2:p+1+(s.a1.length-p)=s.a1.length+1:=by omega
 have w4:=fM (e:=Q3.e) (z:=4) (fun _=>rfl) s.a1;rcases O with⟨q0,q1,q2⟩|⟨q0,q1,q2⟩<;>rw[q1]at e1;have ak:s.a1=[]:=by simpa using q0
 rw[ak]at a2 hp;have aT:p=0:=by simpa using hp
 subst aT;simp only[Zy,Qc,QX,Zk]at a2;simp(maxSteps:=9^9) [iP,e1,e2,e3,e4,e8,l0,av];rw[xS];have aV:dZ 0 0=false:=rfl;have hF:F.length=1:=by have:=congrArg List.length a2;simpa using this
 have wF:∀x:Q3,x.e.length=4:=fun _=>rfl;simp +contextual (maxSteps:=9^9) [kj,e5,ak,aV,hF,wF,<-a2,hA,h1,q3,ax,e9]<;>(cases g1<;>cases dZ s.aS k.n<;>cases dZ 1000000 k.n<;>simp);simp(maxSteps:=9^9) [iP,e1,e2,e3,e4,e8,l0,av];refine cP dz Cl.fin [.f,.f,.f,.t,.t,.t,.t,.f,.t,.f,.t,.f,.f,.f,.f,.f,.f,.f,.f,.f,.f,.f,.f,.f,.f,.f,.f,.f,.f,.f,.f,.f,.f,.f,.f,.f,.f,.f,.f,.f,.f,.f,.f,.f,.f,.f,.f,.f,.f,.f,.f,.f,.f,.f,.f,.f,.f,.f,.f,.f,.f,.f,.f,.f,.f,.f,.f,.f,.f,.f,.f,.f,.f,.f,.f,.f,.f,.f,.f,.f,.f,.f,.f,.f,.f,.f,.f,.f,.f,.f,.f,.f,.f,.f,.f,.f,.f,.f,.f,.f] (fun k=>[(10,ce .i64 k)]) p (fun _=>false) rfl (by simp) (fun j hj _=> ?_) (fun _ _=> ?_);have a8:j<s.a1.length:=by omega
 have l1:=jl (b1 hj a8);have e7:=lK (Y7.Ok.mono (show B<=maxLen by omega) (h.2.1.2 _ (Zf a8)).1) (Y7.Ok.mono (by omega) hk);simp +contextual (maxSteps:=9^9) [kj,a8,l1,e7,cY (n:=s.a1.length) (by unfold maxLen;omega) a8,dw a8,Q3.e.eq_1 s.a1[j]];by_cases hlt:p<s.a1.length;have l1:=iG (Int.not_lt.1 (b2 hlt));have hx:=Q3.e.eq_1 s.a1[p];have e7:=lK (Y7.Ok.mono (show B<=maxLen by omega) (h.2.1.2 _ (Zf hlt)).1) (Y7.Ok.mono (by omega) hk);simp +contextual (maxSteps:=9^9) [kj,hlt,hx,l1,e7,hp,m1,m2,m3,w2,w3,w4,t1,t2,dw hlt,e5,<-a2,hA,h1,q3,ax,e9]<;>(cases g1<;>cases dZ s.aS k.n<;>cases dZ 1000000 k.n<;>simp);obtain rfl:p=s.a1.length:=by omega
 have aO:(s.a1.map Q3.e).take s.a1.length++[[.int .i64 k.aW, .int .i64 k.n, .str k.ad, .lst (r.fs.map Q9.e)]]=F.map Q3.e:=by rw[a2];simp
 have hd:(s.a1.map Q3.e).drop s.a1.length=[]:=Yu (by simp);have hF:F.length=s.a1.length+1:=by have:=congrArg List.length aO;simpa using this.symm
 simp +contextual (maxSteps:=9^9) [kj,m1,m2,m3,w2,w3,w4,e5,hd, ↓aO,hF,hA,h1,q3,ax,e9]<;>(cases g1<;>cases dZ s.aS k.n<;>cases dZ 1000000 k.n<;>simp);have aX:=NZ.1 hq;have hx:=Q3.e.eq_1 s.a1[j];have hm:(s.a1.map Q3.e).set j [.int .i64 s.a1[j].aZ.aW, .int .i64 s.a1[j].aZ.n, .str s.a1[j].aZ.ad, .lst (r.fs.map Q9.e)]=(s.a1.set j ⟨k,r⟩).map Q3.e:=by rw[YK,aX];rfl
 have aP:s.a1.map Q3.e≠[]:=by intro e;have:=congrArg List.length e;simp only[Zr,Zx]at this;omega
 have O2:=jg 4 ((s.a1.set j ⟨k,r⟩).map Q3.e);rw[<-hm]at O2;rcases O with⟨q,_⟩|⟨_,q1,q2⟩;exact absurd q aP;rcases O2 with⟨q,_⟩|⟨_,_,q3⟩;exact absurd (by simpa using q) aP;rw[hm]at q3;rw[q1]at e1;simp only[Int.toNat_natCast];generalize s.a1.set j ⟨k,r⟩=F at hm q3⊢;simp(maxSteps:=9^9) [iP,e1,e2,e3,e4,e5,e8,q2,q3,hm,hx,hj,yp]
def gN (f:List UInt8)(x:Q3):Int×Bool:=vV x.au.fs f
def Bx (f:List UInt8)(a b:Q3):Bool:=dZ (gN f a).1 (gN f b).1||((gN f a).1==(gN f b).1&&dZ (xj a.aZ b.aZ) 0)
def V3 (f:List UInt8)(x:Q3)(out:List Q3):Nat->Nat
 |0=>0
 |n+1=>match out[n]? with
  |none=>n+1
  |some y=>cond (Bx f x y) (V3 f x out n) (n+1)
def Nq {f:List UInt8}{x:Q3}{out:List Q3}:∀n,V3 f x out n<=n
 |0=>Zi _
 |n+1=>by
  unfold V3;cases out[n]? with
  |none=>exact Zi _
  |some y=>
   cases h:Bx f x y with
   |true=>simp only[h,cond_true];exact Nat.le_succ_of_le (Nq n)
   |false=>simp only[h,cond_false];exact Zi _
def IB {f:List UInt8}{x:Q3}{out:List Q3}:∀n,n<=out.length->∀p,V3 f x out n<=p->∀(hp:p<n)(ho:p<out.length),Bx f x out[p]=true
 |0,_,p,_,hp,_=>by omega
 |n+1,hn,p,h,hp,ho=>by
  unfold V3 at h;have aw:n<out.length:=by omega
  rw[Zj aw]at h;simp only at h;cases q:Bx f x out[n]with
  |true=>rw[q,cond_true]at h;by_cases e:p=n;subst e;exact q;exact IB n (by omega) p h (by omega) ho
  |false=>rw[q,cond_false]at h;omega
def IC {f:List UInt8}{x:Q3}{out:List Q3}:∀n,n<=out.length->∀j,V3 f x out n=j+1->∃h:j<out.length,Bx f x out[j]=false
 |0,_,j,h=>by simp[V3]at h
 |n+1,hn,j,h=>by
  unfold V3 at h;have aw:n<out.length:=by omega
  rw[Zj aw]at h;simp only at h;cases q:Bx f x out[n]with
  |true=>rw[q,cond_true]at h;exact IC n (by omega) j h
  |false=>
   rw[q,cond_false]at h;obtain rfl:n=j:=by omega
   exact⟨aw,q⟩
def JR (out:List Q3)(x:Q3)(p:Nat):List Q3:=out.take p++x::out.drop p
def pK (f:List UInt8)(out:List Q3)(x:Q3):List Q3:=cond (gN f x).2 (JR out x (V3 f x out out.length)) out
def sW (f:List UInt8)(xs:List Q3):List Q3:=xs.foldl (pK f) []
def MA {f:List UInt8}{xs:List Q3}{k:Nat}(hk:k<xs.length):sW f (xs.take (k+1))=pK f (sW f (xs.take k)) xs[k]:=by unfold sW;rw[ZQ hk,Qn];rfl
def MB (out:List Q3)(x:Q3)(p:Nat):(JR out x p).map Q3.e=(out.map Q3.e).take p++x.e::(out.map Q3.e).drop p:=by simp[JR,List.map_take,List.map_drop]
def Wt {out:List Q3}{x y:Q3}{p:Nat}(h:y∈JR out x p):y=x \/y∈out:=by unfold JR at h;rcases Ye.1 h with h|h;exact .inr (ZB h);rcases ZG.1 h with h|h;exact .inl h;exact .inr (Yc h)
def Ws (out:List Q3)(x:Q3){p:Nat}(h:p<=out.length):(JR out x p).length=out.length+1:=by simp[JR];omega
def Rq {f:List UInt8}{out:List Q3}{x y:Q3}(h:y∈pK f out x):y=x \/y∈out:=by
 unfold pK at h;cases q:(gN f x).2 with
 |true=>rw[q,cond_true]at h;exact Wt h
 |false=>rw[q,cond_false]at h;exact .inr h
def Br {f:List UInt8}:∀(xs out:List Q3)(y:Q3),y∈xs.foldl (pK f) out->y∈xs \/y∈out
 |[],out,y,h=> .inr h
 |x::xs,out,y,h=>by rcases Br xs (pK f out x) y h with h|h;exact .inl (Ym _ h);rcases Rq h with rfl|h;exact .inl Yw;exact .inr h
def DD {f:List UInt8}{xs:List Q3}{y:Q3}(h:y∈sW f xs):y∈xs:=by rcases Br xs [] y h with h|h;exact h;cases h
def Rp {f:List UInt8}{out:List Q3}{x:Q3}:(pK f out x).length<=out.length+1:=by
 unfold pK;cases(gN f x).2 with
 |true=>rw[cond_true,Ws _ _ (Nq _)];exact Zi _
 |false=>rw[cond_false];omega
def Bq {f:List UInt8}:∀(xs out:List Q3),(xs.foldl (pK f) out).length<=out.length+xs.length
 |[],out=>by simp
 |x::xs,out=>by have h1:=Bq (f:=f) xs (pK f out x);have h2:=Rp (f:=f) (out:=out) (x:=x);simp only[YW,Zo];omega
def DC (f:List UInt8)(xs:List Q3):(sW f xs).length<=xs.length:=by have:=Bq (f:=f) xs [];simpa[sW]using this
def yH (l:List Q3)(k:Nat):Y7:=match l[k]? with
 |some x=>x.aZ
 |none=>⟨0,0,[]⟩
def ufP (f:List UInt8)(l:List Q3)(k:Nat):Bool:=match l[k]?,l[k+1]? with
 |some a,some b=>(gN f a).1==(gN f b).1
 |_,_=>false
def ab5 {f:List UInt8}{l:List Q3}{k:Nat}(hk:k+1<l.length):ufP f l k=((gN f (l[k]'(by omega))).1==(gN f l[k+1]).1):=by
 have:k<l.length:=by omega
 simp[ufP,hk,this]
def ufT (f:List UInt8)(l:List Q3):Y7×Y7×Bool:=match(List.range (l.length-1)).find? (ufP f l)with
 |some k=>(yH l k,yH l (k+1),true)
 |none=>(⟨0,0,[]⟩,⟨0,0,[]⟩,false)
def SL {f:List UInt8}{l:List Q3}{k:Nat}(hk:k<l.length-1)(h:ufP f l k=true)(hn:∀j,j<k->ufP f l j=false):ufT f l=(yH l k,yH l (k+1),true):=by
 have:(List.range (l.length-1)).find? (ufP f l)=some k:=by rw[List.find?_range_eq_some];exact⟨h,QP.2 hk,fun j hj=>by simp[hn j hj]⟩
 simp only[ufT,this]
def SK {f:List UInt8}{l:List Q3}(hn:∀j,j<l.length-1->ufP f l j=false):ufT f l=(⟨0,0,[]⟩,⟨0,0,[]⟩,false):=by
 have:(List.range (l.length-1)).find? (ufP f l)=none:=by rw[List.find?_range_eq_none];exact fun j hj=>by simp[hn j hj]
 simp only[ufT,this]
def ufV (t:Y7×Y7×Bool):V:= .b8 [(true,[.pv (.int .i64 t.1.aW), .pv (.int .i64 t.1.n), .pv (.str t.1.ad)]),(true,[.pv (.int .i64 t.2.1.aW), .pv (.int .i64 t.2.1.n), .pv (.str t.2.1.ad)]),(false,[.pv (.bool t.2.2)])]
section
variable {B:Nat}{f:List UInt8}
def NX {f:List UInt8}{a b:Q3}(ha:a.Ok maxLen)(hb:b.Ok maxLen):cf Ph cK 415 [a.v,b.v,fZ f]=some (cL (Bx f a b)):=by have e1:=me ha.2.1 f;have e2:=me hb.2.1 f;have e3:=lJ ha.1 hb.1;unfold Bx gN;generalize vV a.au.fs f=u at e1⊢;generalize vV b.au.fs f=v at e2⊢;obtain⟨w,hw⟩:∃w,(u.1==v.1)=w:=⟨_,rfl⟩;rw[hw];refine ca rfl ?_;simp +contextual (maxSteps:=9^9) [p8,e1,e2,e3,hw]
def Ow {f:List UInt8}{a b:Q3}(ha:a.Ok maxLen)(hb:b.Ok maxLen):cf Ph cK 414 [a.v,b.v,fZ f]=some (cL (Bx f a b)):=by have e1:=mh ha.2.1 f;have e2:=mh hb.2.1 f;have e3:=lK ha.1 hb.1;unfold Bx gN;generalize vV a.au.fs f=u at e1⊢;generalize vV b.au.fs f=v at e2⊢;obtain⟨w,hw⟩:∃w,(u.1==v.1)=w:=⟨_,rfl⟩;rw[hw];refine ca rfl ?_;simp +contextual (maxSteps:=9^9) [wS,e1,e2,e3,hw]
end
def Hz {B:Nat}(a5:B<=1048576){s:Q6}(h:s.Ok B)(f:List UInt8):cf Ph cK 413 [s.v,fZ f]=some (.one (.own 4 ((sW f s.a1).map Q3.e))):=by
 have hB:B<=maxLen:=by unfold maxLen;omega
 have hl:s.a1.length<=1048576:=Zc h.2.1.1 a5;have al:=h.2.1.2;refine ca rfl ?_;simp(maxSteps:=9^9) [uL];refine eX dz Cl.fin s.a1.length [.f,.t,.f,.f,.f,.t,.f,.f,.f,.f,.f,.f,.f,.t,.t,.t,.f,.f,.f,.f,.f,.f,.f,.f,.f,.f,.f,.f,.f,.f,.f,.f,.f,.f,.f,.f,.f,.f,.f,.f,.f,.f,.f,.f,.f,.f,.f,.f,.f,.f,.f,.f] (fun k=>[(5, .one (.arr 0)),(15,ce .i64 k)]) (fun k=>[.arr 4 ((sW f (s.a1.take k)).map Q3.e)]) rfl ?_ ?_ ?_;exact Kn.of [1] (by decide) (by simp[show sW f []=[]from rfl]) (by simp)
 ·intro k hk;have hx:=Q3.e.eq_1 s.a1[k];have an:=al _ (Zf hk);have ao:=Q3.Ok.mono hB an;have f1:=me (r:=s.a1[k].au) ao.2.1 f;have f2:=xu a5 an;have ay:=Zc (DC f (s.a1.take k)) (by rw[ZI];exact Nat.min_le_left _ _);have hoo:∀y∈sW f (s.a1.take k),y.Ok B:=fun y hy=>al y (ZB (DD hy));try dsimp only
  rw[MA hk];generalize sW f (s.a1.take k)=out at ay hoo⊢;unfold pK;have aq:∀q(hq:q<out.length),_:=fun q hq=>NX (f:=f) ao (Q3.Ok.mono hB (hoo _ (Zf hq)));have az:gN f s.a1[k]=vV s.a1[k].au.fs f:=rfl;rw[az];generalize vV s.a1[k].au.fs f=u at f1⊢;obtain⟨u1,u2⟩:=u;cases u2;simp only[cond_false];simp(maxSteps:=9^9) [lM,hk,cY (n:=s.a1.length) (by unfold maxLen;omega) hk,dw hk,hx,f1]
  ·simp only[cond_true];have aj:=Nq (f:=f) (x:=s.a1[k]) (out:=out) out.length;have ae:=IB (f:=f) (x:=s.a1[k]) (out:=out) out.length (Zi _);have af:=IC (f:=f) (x:=s.a1[k]) (out:=out) out.length (Zi _);have hm:=MB out s.a1[k] (V3 f s.a1[k] out out.length);rw[hm,hx];clear hm;have m1:=gU (m:=out.length+1) (z:=56) (by omega) (by omega);generalize V3 f s.a1[k] out out.length=d at aj ae af⊢;simp(maxSteps:=9^9) [lM,hk,cY (n:=s.a1.length) (by unfold maxLen;omega) hk,dw hk,hx,f1];refine Vw dz Cl.kn (out.length-d) [.f,.t,.f,.f,.f,.t,.f,.t,.f,.f,.t,.f,.f,.t,.t,.t,.f,.f,.f,.f,.f,.f,.f,.f,.f,.f,.f,.f,.f,.f,.f,.f,.f,.f,.f,.f,.f,.f,.f,.f,.f,.f,.f,.f,.f,.f,.f,.f,.f,.f,.f,.f] (fun j=>[(10,ce .i64 ((out.length-j:Nat):Int))]) (fun _=>[.arr 4 (out.map Q3.e), .box [.pv (.int .i64 s.a1[k].aZ.aW), .pv (.int .i64 s.a1[k].aZ.n), .pv (.str s.a1[k].aZ.ad), .pv (.lst (s.a1[k].au.fs.map Q9.e))]]) 2 rfl ?_ ?_ ?_ ?_;simp
   ·intro j hj;obtain⟨q,hq⟩:∃q,out.length-j=q+1:=⟨out.length-j-1,by omega⟩;have aA:out.length-(j+1)=q:=by omega
    have a6:q<out.length:=by omega
    have l1:=aq q a6;rw[ae q (by omega) a6 a6]at l1;have hy:=Q3.e.eq_1 out[q];have w4:dZ 0 ((q:Int)+1)=true:=jl (by omega);have w5:IntKind.i64.wrap ((q:Int)+1-1)=(q:Int):=by rw[IntKind.wrap_i64];omega
    have w6:IntKind.i64.wrap (q:Int)=(q:Int):=by rw[IntKind.wrap_i64];omega
    try dsimp only
    rw[hq,aA];clear ae af;simp(maxSteps:=9^9) [j9,hk,hx,hy,a6,l1,w4,w5,w6]
   ·have hz:out.length-(out.length-d)=d:=by omega
    try dsimp only
    rw[hz];cases d with
    |zero=>simp(maxSteps:=9^9) [j9,show dZ 0 0=false from rfl]
    |succ q=>
     obtain⟨a6,aB⟩:=af q rfl;have l1:=aq q a6;rw[aB]at l1;have hy:=Q3.e.eq_1 out[q];have w4:dZ 0 ((q:Int)+1)=true:=jl (by omega);have w5:IntKind.i64.wrap ((q:Int)+1-1)=(q:Int):=by rw[IntKind.wrap_i64];omega
     have w6:IntKind.i64.wrap (q:Int)=(q:Int):=by rw[IntKind.wrap_i64];omega
     simp(maxSteps:=9^9) [j9,hk,hx,hy,a6,l1,w4,w5,w6]
   ·have hz:out.length-(out.length-d)=d:=by omega
    try dsimp only
    rw[hz];have aD:(d:Int)<=(out.length:Int):=by omega
    simp(maxSteps:=9^9) [f2,hk,hx,cY (n:=s.a1.length) (by unfold maxLen;omega) hk,aj,aD,m1,-fx];exact Kn.of [4] (by decide) (by simp) (by simp)
 ·try dsimp only
  rw[Yd];simp(maxSteps:=9^9) [lM]
def HK {B:Nat}(a5:B<=1048576){s:Q6}(h:s.Ok B)(f:List UInt8):cf Ph cK 409 [s.v,fZ f]=some (.one (.own 4 ((sW f s.a1).map Q3.e))):=by
 have hB:B<=maxLen:=by unfold maxLen;omega
 have hl:s.a1.length<=1048576:=Zc h.2.1.1 a5;have al:=h.2.1.2;refine ca rfl ?_;simp(maxSteps:=9^9) [uR];refine eX dz Cl.fin s.a1.length [.f,.t,.t,.f,.f,.t,.t,.f,.f,.f,.f,.f,.f,.f,.f,.f,.f,.f,.f,.f,.f,.f,.f,.f,.f,.f,.f,.f,.f,.f,.f,.f,.f,.f,.f,.f,.f,.f,.f,.f,.f,.f,.f,.f,.f,.f,.f,.f,.f,.f,.f,.f,.f,.f,.f,.f,.f,.f,.f,.f,.f,.f,.f,.f,.f,.f,.f,.f,.f,.f,.f,.f] (fun k=>[(5, .one (.arr 1)),(6,ce .i64 k)]) (fun k=>[.box [.pv (.str s.aG), .pv (.lst (s.a1.map Q3.e)), .pv (.int .i64 s.aS)], .arr 4 ((sW f (s.a1.take k)).map Q3.e)]) rfl ?_ ?_ ?_;exact Kn.of [0,1] (by decide) (by simp[show sW f []=[]from rfl]) (by simp)
 ·intro k hk;have hx:=Q3.e.eq_1 s.a1[k];have an:=al _ (Zf hk);have ao:=Q3.Ok.mono hB an;have f1:=mh (r:=s.a1[k].au) ao.2.1 f;have f2:=Ab a5 an;have ay:=Zc (DC f (s.a1.take k)) (by rw[ZI];exact Nat.min_le_left _ _);have hoo:∀y∈sW f (s.a1.take k),y.Ok B:=fun y hy=>al y (ZB (DD hy));try dsimp only
  rw[MA hk];generalize sW f (s.a1.take k)=out at ay hoo⊢;unfold pK;have aq:∀q(hq:q<out.length),_:=fun q hq=>Ow (f:=f) ao (Q3.Ok.mono hB (hoo _ (Zf hq)));have az:gN f s.a1[k]=vV s.a1[k].au.fs f:=rfl;rw[az];generalize vV s.a1[k].au.fs f=u at f1⊢;obtain⟨u1,u2⟩:=u;cases u2;simp only[cond_false];simp(maxSteps:=9^9) [lO,hk,cY (n:=s.a1.length) (by unfold maxLen;omega) hk,dw hk,hx,f1]
  ·simp only[cond_true];have aj:=Nq (f:=f) (x:=s.a1[k]) (out:=out) out.length;have ae:=IB (f:=f) (x:=s.a1[k]) (out:=out) out.length (Zi _);have af:=IC (f:=f) (x:=s.a1[k]) (out:=out) out.length (Zi _);have hm:=MB out s.a1[k] (V3 f s.a1[k] out out.length);rw[hm,hx];clear hm;have m1:=gU (m:=out.length+1) (z:=56) (by omega) (by omega);generalize V3 f s.a1[k] out out.length=d at aj ae af⊢;simp(maxSteps:=9^9) [lO,hk,cY (n:=s.a1.length) (by unfold maxLen;omega) hk,dw hk,hx,f1];refine Vw dz Cl.kn (out.length-d) [.f,.t,.t,.f,.f,.t,.t,.f,.f,.t,.f,.f,.f,.f,.f,.f,.f,.f,.f,.f,.f,.f,.f,.f,.f,.f,.f,.f,.f,.f,.f,.f,.f,.f,.f,.f,.f,.f,.f,.f,.f,.f,.f,.f,.f,.f,.f,.f,.f,.f,.f,.f,.f,.f,.f,.f,.f,.f,.f,.f,.f,.f,.f,.f,.f,.f,.f,.f,.f,.f,.f,.f] (fun j=>[(9,ce .i64 ((out.length-j:Nat):Int))]) (fun _=>[.box [.pv (.str s.aG), .pv (.lst (s.a1.map Q3.e)), .pv (.int .i64 s.aS)], .arr 4 (out.map Q3.e)]) 2 rfl ?_ ?_ ?_ ?_;simp
   ·intro j hj;obtain⟨q,hq⟩:∃q,out.length-j=q+1:=⟨out.length-j-1,by omega⟩;have aA:out.length-(j+1)=q:=by omega
    have a6:q<out.length:=by omega
    have l1:=aq q a6;rw[ae q (by omega) a6 a6]at l1;have hy:=Q3.e.eq_1 out[q];have w4:dZ 0 ((q:Int)+1)=true:=jl (by omega);have w5:IntKind.i64.wrap ((q:Int)+1-1)=(q:Int):=by rw[IntKind.wrap_i64];omega
    have w6:IntKind.i64.wrap (q:Int)=(q:Int):=by rw[IntKind.wrap_i64];omega
    try dsimp only
    rw[hq,aA];clear ae af;simp(maxSteps:=9^9) [ki,hk,hx,hy,a6,l1,w4,w5,w6]
   ·have hz:out.length-(out.length-d)=d:=by omega
    try dsimp only
    rw[hz];cases d with
    |zero=>simp(maxSteps:=9^9) [ki,show dZ 0 0=false from rfl]
    |succ q=>
     obtain⟨a6,aB⟩:=af q rfl;have l1:=aq q a6;rw[aB]at l1;have hy:=Q3.e.eq_1 out[q];have w4:dZ 0 ((q:Int)+1)=true:=jl (by omega);have w5:IntKind.i64.wrap ((q:Int)+1-1)=(q:Int):=by rw[IntKind.wrap_i64];omega
     have w6:IntKind.i64.wrap (q:Int)=(q:Int):=by rw[IntKind.wrap_i64];omega
     simp(maxSteps:=9^9) [ki,hk,hx,hy,a6,l1,w4,w5,w6]
   ·have hz:out.length-(out.length-d)=d:=by omega
    try dsimp only
    rw[hz];have aD:(d:Int)<=(out.length:Int):=by omega
    have t1:((out.map Q3.e).take d).all (fun e=>e.length==4)=true:=by rw[<-List.map_take];exact fM (e:=Q3.e) (z:=4) (fun _=>rfl) _
    have t2:((out.map Q3.e).drop d).all (fun e=>e.length==4)=true:=by rw[<-List.map_drop];exact fM (e:=Q3.e) (z:=4) (fun _=>rfl) _
    have t3:=fM (e:=Q3.e) (z:=4) (fun _=>rfl) out;have n1:min d out.length=d:=Nat.min_eq_left aj;have n3:d+1+(out.length-d)=out.length+1:=by omega
    have m2:=gU (m:=d+1) (z:=56) (by omega) (by omega);have m3:=gU (m:=d) (z:=56) (by omega) (by omega);have n4:List.take (out.length-d) (List.drop d (List.map Q3.e out))=List.drop d (List.map Q3.e out):=Zs (by simp);simp(maxSteps:=9^9) [n4,f2,hk,hx,cY (n:=s.a1.length) (by unfold maxLen;omega) hk,aj,aD,t1,t2,t3,n1,n3,m1,m2,m3,-fx];exact Kn.of [0,7] (by decide) (by simp) (by simp)
 ·try dsimp only
  rw[Yd];simp(maxSteps:=9^9) [lO]
def A5 {B:Nat}(a5:B<=1048576){s:Q6}(h:s.Ok B)(f:List UInt8):cf Ph cK 406 [s.v,fZ f]=some (ufV (ufT f (sW f s.a1))):=by
 have hB:B<=maxLen:=by unfold maxLen;omega
 have e1:=Hz a5 h f;have aH:=Zc (DC f s.a1) (Zc h.2.1.1 a5);have hoo:∀y∈sW f s.a1,y.Ok maxLen:=fun y hy=>Q3.Ok.mono hB (h.2.1.2 y (DD hy));refine ca rfl ?_;generalize sW f s.a1=l at e1 aH hoo⊢;unfold ufV;simp(maxSteps:=9^9) [pY,e1];refine cP dz Cl.fin [.f,.t,.f,.f,.t,.t,.f,.t,.t,.f,.f,.f,.f,.f,.f,.f,.f,.f,.f,.f,.f,.f,.f,.f,.f,.f,.f,.f,.f,.f,.f,.f,.f,.f,.f,.f,.f,.f,.f,.f,.f,.f,.f,.f,.f,.f,.f,.f,.f,.f,.f,.f,.f,.f,.f,.f,.f,.f,.f] (fun k=>[(8,ce .i64 ((k:Int)+1))]) (l.length-1) (ufP f l) rfl (by simp) (fun k hk hn=> ?_) (fun hp _=> ?_);have a7:k+1<l.length:=by omega
 have ab:k<l.length:=by omega
 obtain⟨i1,i2,i3,i4,i5,i6⟩:=tt (n:=l.length) (by unfold maxLen;omega) a7;have f1:=me (r:=l[k].au) (hoo _ (Zf ab)).2.1 f;have f2:=me (r:=l[k+1].au) (hoo _ (Zf a7)).2.1 f;have hx:=Q3.e.eq_1 l[k];have hy:=Q3.e.eq_1 l[k+1];have hq:=SL (f:=f) hk;have ag:=ab5 (f:=f) a7;unfold gN at ag;have ka:yH l k=l[k].aZ:=by simp[yH,ab]
 have kb:yH l (k+1)=l[k+1].aZ:=by simp[yH,a7]
 rw[ag];rw[ag,ka,kb]at hq;generalize vV l[k].au.fs f=u at f1 hq⊢;generalize vV l[k+1].au.fs f=v at f2 hq⊢;cases hc:(u.1==v.1);simp(maxSteps:=9^9) [jE,ab,a7,hx,hy,i1,i2,i4,i5,i6,jl i6,f1,f2,hc];rw[hq hc hn];simp(maxSteps:=9^9) [jE,ab,a7,hx,hy,i1,i2,i4,i5,i6,jl i6,f1,f2,hc];rw[SK hp];have aI:dZ (((l.length-1:Nat):Int)+1) (l.length:Int)=false:=iG (by omega);simp(maxSteps:=9^9) [jE,aI]
def Bk {B:Nat}(a5:B<=1048576){s:Q6}(h:s.Ok B)(f:List UInt8):cf Ph cK 401 [s.v,fZ f]=some (ufV (ufT f (sW f s.a1))):=by
 have hB:B<=maxLen:=by unfold maxLen;omega
 have e1:=HK a5 h f;have aH:=Zc (DC f s.a1) (Zc h.2.1.1 a5);have hoo:∀y∈sW f s.a1,y.Ok maxLen:=fun y hy=>Q3.Ok.mono hB (h.2.1.2 y (DD hy));refine ca rfl ?_;generalize sW f s.a1=l at e1 aH hoo⊢;unfold ufV;simp(maxSteps:=9^9) [qf,e1];refine cP dz Cl.fin [.f,.t,.f,.f,.t,.t,.f,.t,.t,.f,.f,.f,.f,.f,.f,.f,.f,.f,.f,.f,.f,.f,.f,.f,.f,.f,.f,.f,.f,.f,.f,.f,.f,.f,.f,.f,.f,.f,.f,.f,.f,.f,.f,.f,.f,.f,.f,.f,.f,.f,.f,.f,.f,.f,.f,.f,.f,.f,.f] (fun k=>[(8,ce .i64 ((k:Int)+1))]) (l.length-1) (ufP f l) rfl (by simp) (fun k hk hn=> ?_) (fun hp _=> ?_);have a7:k+1<l.length:=by omega
 have ab:k<l.length:=by omega
 obtain⟨i1,i2,i3,i4,i5,i6⟩:=tt (n:=l.length) (by unfold maxLen;omega) a7;have f1:=mh (r:=l[k].au) (hoo _ (Zf ab)).2.1 f;have f2:=mh (r:=l[k+1].au) (hoo _ (Zf a7)).2.1 f;have hx:=Q3.e.eq_1 l[k];have hy:=Q3.e.eq_1 l[k+1];have hq:=SL (f:=f) hk;have ag:=ab5 (f:=f) a7;unfold gN at ag;have ka:yH l k=l[k].aZ:=by simp[yH,ab]
 have kb:yH l (k+1)=l[k+1].aZ:=by simp[yH,a7]
 rw[ag];rw[ag,ka,kb]at hq;generalize vV l[k].au.fs f=u at f1 hq⊢;generalize vV l[k+1].au.fs f=v at f2 hq⊢;cases hc:(u.1==v.1);simp(maxSteps:=9^9) [jG,ab,a7,hx,hy,i1,i2,i4,i5,i6,jl i6,f1,f2,hc];rw[hq hc hn];simp(maxSteps:=9^9) [jG,ab,a7,hx,hy,i1,i2,i4,i5,i6,jl i6,f1,f2,hc];rw[SK hp];have aI:dZ (((l.length-1:Nat):Int)+1) (l.length:Int)=false:=iG (by omega);simp(maxSteps:=9^9) [jG,aI]
def aaL (ss:List Q6)(k:Nat):Bool:=match ss[k]?,ss[k-1]? with
 |some x,some y=> !(gy x)||(dZ 0 k&& !(Op.bytesLess y.aG x.aG))
 |_,_=>false
def vF (a b:X0):Bool:=a.aF==b.aF&&a.aU==b.aU
def Kk (a b:X0):vF a b=vF b a:=by unfold vF;rw[Bool.beq_comm (a:=a.aF),Bool.beq_comm (a:=a.aU)]
def PT (us:List X0)(k:Nat):Bool:=match us[k]? with
 |some u=>jU k (kK (vF u) us)
 |none=>false
def KZ (ss:List Q6)(us:List X0)(k:Nat):Bool:=match us[k]? with
 |some u=>match ss.find? (isS u.aF)with
  |some s=> !(fV u.aU)||(PT us k||(ufT u.aU (sW u.aU s.a1)).2.2)
  |none=>true
 |none=>false
def Tz (d:Y2):Bool:=fV d.aG&&(rg d.aC 0 1000&&(!(dZ 4 d.a9.length)&&(!(dZ 4 d.aE.length)&&(!(jU d.a9.length (aaL d.a9))&& !(jU d.aE.length (KZ d.a9 d.aE))))))
def mZ {α:Type}(p:α->Bool)(xs:List α):(fP p xs= -1/\ xs.find? p=none) \/∃j,∃hj:j<xs.length,fP p xs=(j:Int)/\ xs.find? p=some xs[j]:=by
 unfold fP;cases h:xs.findIdx? p with
 |none=>exact .inl ⟨rfl,by rw[YC]at h;rw[Qk];exact fun x hx=>by simp[h x hx]⟩
 |some i=>rw[ZS]at h;obtain⟨h1,h2,h3⟩:=h;refine .inr ⟨i,h1,rfl,?_⟩;rw[YU];exact⟨h2,i,h1,rfl,fun j hj=>by simpa using h3 j hj⟩
def Wh {p:X0->Bool}{us:List X0}{k:Nat}(hk:k<us.length):(!(dZ (fP p (us.take k)) 0))=jU k (kK p us):=by
 have aQ:∀j,j<k->kK p (us.take k) j=kK p us j:=fun j hj=>by simp[kK,ZL,hj]
 rcases AB p (us.take k)with h|⟨j,hj,h1,h2⟩;rw[h,jl (by omega)];refine(M8 fun j hj=> ?_).symm;have a8:j<(us.take k).length:=by simp;omega
 rw[<-aQ j hj];have:=UH h _ (Zf a8);simp only[kK,Zj a8];exact this;have a8:j<k:=by simp at hj;omega
 rw[h1,iG (by omega)];refine(aaH a8 ?_).symm;rw[<-aQ j a8];simp only[kK,Zj hj];exact h2
def JO {us:List X0}(hl:us.length<=maxLen)(x:X0):cf Ph cK 412 [eW (us.map X0.e),x.v]=some (ce .i64 (fP (vF x) us)):=by refine ca rfl ?_;simp +contextual (maxSteps:=9^9) [gI];refine cP dz Cl.fin [.t,.f,.f,.t,.f,.f,.f,.t,.t,.f,.f,.f,.f,.f,.f,.f,.f,.f,.f] (fun k=>[(8,ce .i64 k)]) us.length (kK (vF x) us) rfl (by simp) (fun k hk hj=> ?_) (fun hj _=> ?_);have hf:=wV hk hj;simp +contextual (maxSteps:=9^9) [fB,kK,vF,hk,hf,cY hl hk,dw hk,X0.e.eq_1 us[k],ul,UD];simp +contextual (maxSteps:=9^9) [fB,wU hj]
def DF {us:List X0}(hl:us.length<=maxLen)(x:X0):cf Ph cK 405 [eW (us.map X0.e),x.v]=some (cL (!(dZ (fP (vF x) us) 0))):=by have e1:=JO hl x;refine ca rfl ?_;simp +contextual (maxSteps:=9^9) [f7,e1]
def Ce {B:Nat}(a5:B<=1048576){d:Y2}(h:d.Ok B):cf Ph cK 397 [d.v]=some (cL (Tz d)):=by
 have hB:B<=maxLen:=by unfold maxLen;omega
 obtain⟨hn,hv,⟨aJ,hs⟩,aK,hu⟩:=h;have e1:=eO (Zc hn hB);have e2:=dU d.aC 0 1000;have ah:d.a9.length<=maxLen:=Zc aJ hB;have aa:d.aE.length<=maxLen:=Zc aK hB;unfold Tz;refine ca rfl ?_;cases c1:fV d.aG<;>rw[c1]at e1;simp(maxSteps:=9^9) [iO,e1];cases c2:rg d.aC 0 1000<;>rw[c2]at e2;simp(maxSteps:=9^9) [iO,e1,e2];cases c3:dZ 4 d.a9.length;rotate_left;simp(maxSteps:=9^9) [iO,e1,e2,c3];cases c4:dZ 4 d.aE.length;rotate_left;simp(maxSteps:=9^9) [iO,e1,e2,c3,c4];simp(maxSteps:=9^9) [iO,e1,e2,c3,c4];refine cP dz Cl.fin [.f,.t,.f,.f,.f,.f,.f,.f,.f,.f,.f,.f,.f,.f,.f,.f,.f,.f,.f,.f,.f,.f,.f,.f,.f,.f,.f,.f,.f,.f,.f,.f,.f,.f,.t,.t,.t,.f,.f,.f,.f,.f,.f,.f,.f,.f,.f,.f,.f,.f,.f,.f,.f,.f,.f,.f,.f,.f,.f,.f,.f,.f,.f,.f,.f,.f,.f,.f,.f,.f,.f,.f,.f,.f,.f,.f,.f,.f,.f,.f,.f,.f,.f,.f,.f,.f,.f,.f,.f,.f,.f,.f,.f,.f,.f,.f,.f,.f,.f,.f,.f,.f,.f] (fun k=>[(36,ce .i64 k)]) d.a9.length (aaL d.a9) rfl (by simp) (fun k hk _=> ?_) (fun _ hp=> ?_);obtain⟨q1,q2⟩:=Bc ah hk;have e3:=kP (Q6.Ok.mono hB (hs _ (Zf hk)));simp +contextual (maxSteps:=9^9) [jV,aaL,hk,q1,q2,cY ah hk,dw hk,Q6.e.eq_1 d.a9[k],Q6.e.eq_1 d.a9[k-1],e3];simp(maxSteps:=9^9) [jV,hp];refine cP dz Cl.fin [.f,.t,.f,.f,.f,.f,.f,.f,.f,.f,.f,.f,.f,.f,.f,.f,.f,.f,.f,.f,.f,.f,.f,.f,.f,.f,.f,.f,.f,.f,.f,.f,.f,.f,.f,.f,.f,.f,.f,.f,.f,.f,.f,.f,.f,.f,.f,.f,.f,.f,.f,.f,.f,.f,.f,.f,.f,.f,.f,.f,.f,.f,.t,.t,.t,.f,.f,.f,.f,.f,.f,.f,.f,.f,.f,.f,.f,.f,.f,.f,.f,.f,.f,.f,.f,.f,.f,.f,.f,.f,.f,.f,.f,.f,.f,.f,.f,.f,.f,.f,.f,.f,.f] (fun k=>[(64,ce .i64 k)]) d.aE.length (KZ d.a9 d.aE) rfl (by simp) (fun k hk _=> ?_) (fun _ hp=> ?_);have e3:=DH (d:=d) ah d.aE[k].aF;have e4:=eO (Zc (hu _ (Zf hk)).2 hB);have e5:=DF (us:=d.aE.take k) (by rw[ZI];omega) d.aE[k];rw[Wh hk]at e5;have ai:PT d.aE k=jU k (kK (vF d.aE[k]) d.aE):=by simp[PT,hk]
 rw[<-ai]at e5;rw[List.map_take]at e5;have hx:=X0.e.eq_1 d.aE[k];have w:=fM (e:=X0.e) (z:=2) (fun _=>rfl) d.aE;rcases mZ (isS d.aE[k].aF) d.a9 with⟨h1,h2⟩|⟨j,hj,h1,h2⟩<;>rw[h1]at e3;rw[show KZ d.a9 d.aE k=true by simp[KZ,hk,h2]];simp +contextual (maxSteps:=9^9) [jW,hk,e3,hx,cY aa hk,dw hk,show dZ (-1) 0=true from rfl];have e6:=A5 a5 (hs _ (Zf hj)) d.aE[k].aU;have hy:=Q6.e.eq_1 d.a9[j];rw[show KZ d.a9 d.aE k=(!(fV d.aE[k].aU)||(PT d.aE k||(ufT d.aE[k].aU (sW d.aE[k].aU d.a9[j].a1)).2.2)) by simp[KZ,hk,h2]];generalize ufT d.aE[k].aU (sW d.aE[k].aU d.a9[j].a1)=T at e6⊢;unfold ufV at e6;generalize fV d.aE[k].aU=N at e4⊢;generalize PT d.aE k=D at e5⊢;simp +contextual (maxSteps:=9^9) [jW,hk,hj,e3,e4,e5,e6,hx,hy,w,Yy hk,cY aa hk,dw hk,yp];simp(maxSteps:=9^9) [jW,hp]
def Cl.imp {call:Nat->List V->Option V}(hc:vU call){Q:Ex->St->Prop}(hQ:Cl Q){ks:List Fr}(hz:kz ks=true){A:Prop}:Cl (fun e X=>A->wp call Q ks (some (e,X))):=fun e Z X k h a=>acd hc hQ hz k (h a)
def Cv {B:Nat}(a5:B<=1048576){d:Y2}(h:d.Ok B):cf Ph cK 393 [d.v]=some (cL (Tz d)):=by
 have hB:B<=maxLen:=by unfold maxLen;omega
 obtain⟨hn,hv,⟨aJ,hs⟩,aK,hu⟩:=h;have e1:=fS (Zc hn hB);have e2:=eQ d.aC 0 1000;have ah:d.a9.length<=maxLen:=Zc aJ hB;have aa:d.aE.length<=maxLen:=Zc aK hB;unfold Tz;refine ca rfl ?_;simp(maxSteps:=9^9) [qR];refine cP dz Cl.fin [.f,.t,.f,.t,.f,.f,.f,.f,.f,.f,.f,.f,.f,.f,.f,.f,.f,.f,.f,.f,.f,.f,.f,.f,.f,.f,.f,.f,.f,.f,.f,.f,.f,.f,.f,.f,.f,.f,.f,.f,.f,.f,.f,.f,.f,.f,.f,.f,.f,.f,.f,.f,.f,.f,.f,.f,.f,.f,.f,.f,.f,.f,.f,.f,.f,.f,.f,.f,.f,.f,.f,.f,.f,.f,.f,.f,.f,.f,.f,.f,.f,.f,.f,.f,.f,.f,.f,.f,.f,.f,.f,.f,.f,.f,.f,.f,.f,.f,.f,.f,.f,.f,.f,.f,.f,.f,.f,.f,.f,.f,.f,.f,.f,.f,.f,.f,.f,.f,.f,.f,.f,.f,.f,.f] (fun k=>[(3,ce .i64 k)]) d.a9.length (aaL d.a9) rfl (by simp) (fun k hk _=> ?_) (fun _ hp=> ?_);obtain⟨q1,q2⟩:=Bc ah hk;have e3:=pO (Q6.Ok.mono hB (hs _ (Zf hk)));simp +contextual (maxSteps:=9^9) [iW,aaL,hk,q1,q2,cY ah hk,dw hk,Q6.e.eq_1 d.a9[k],Q6.e.eq_1 d.a9[k-1],e3]
 ·simp(maxSteps:=9^9) [iW,hp];refine cP dz Cl.fin [.f,.t,.f,.f,.t,.f,.f,.f,.f,.f,.f,.f,.f,.f,.f,.f,.f,.f,.f,.f,.f,.f,.f,.f,.f,.f,.f,.f,.f,.f,.f,.f,.f,.f,.f,.f,.f,.f,.f,.f,.f,.f,.f,.f,.f,.f,.f,.f,.f,.f,.f,.f,.f,.f,.f,.f,.f,.f,.f,.f,.f,.f,.f,.f,.f,.f,.f,.f,.f,.f,.f,.f,.f,.f,.f,.f,.f,.f,.f,.f,.f,.f,.f,.f,.f,.f,.f,.f,.f,.f,.f,.f,.f,.f,.f,.f,.f,.f,.f,.f,.f,.f,.f,.f,.f,.f,.f,.f,.f,.f,.f,.f,.f,.f,.f,.f,.f,.f,.f,.f,.f,.f,.f,.f] (fun k=>[(4,ce .i64 k)]) d.aE.length (KZ d.a9 d.aE) rfl (by simp) (fun k hk _=> ?_) (fun _ hp=> ?_)
  ·have e3:=D6 (d:=d) ah d.aE[k].aF;have e4:=fS (Zc (hu _ (Zf hk)).2 hB);have ai:PT d.aE k=jU k (kK (vF d.aE[k]) d.aE):=by simp[PT,hk]
   have hx:=X0.e.eq_1 d.aE[k];rcases mZ (isS d.aE[k].aF) d.a9 with⟨h1,h2⟩|⟨j,hj,h1,h2⟩<;>rw[h1]at e3;rw[show KZ d.a9 d.aE k=true by simp[KZ,hk,h2]];simp +contextual (maxSteps:=9^9) [gR,hk,e3,hx,cY aa hk,dw hk,show dZ (-1) 0=true from rfl]
   ·have e6:=Bk a5 (hs _ (Zf hj)) d.aE[k].aU;have hy:=Q6.e.eq_1 d.a9[j];rw[show KZ d.a9 d.aE k=(!(fV d.aE[k].aU)||(PT d.aE k||(ufT d.aE[k].aU (sW d.aE[k].aU d.a9[j].a1)).2.2)) by simp[KZ,hk,h2],ai];generalize ufT d.aE[k].aU (sW d.aE[k].aU d.a9[j].a1)=T at e6⊢;unfold ufV at e6;generalize fV d.aE[k].aU=N at e4⊢;cases N;simp +contextual (maxSteps:=9^9) [gR,hk,hj,e3,e4,e6,hx,hy,cY aa hk,dw hk,yp];cases hT:T.2.2<;>rw[hT]at e6;rotate_left;simp +contextual (maxSteps:=9^9) [gR,hk,hj,e3,e4,e6,hx,hy,cY aa hk,dw hk,yp];cases hD:jU k (kK (vF d.aE[k]) d.aE);simp(maxSteps:=9^9) [gR,hk,hj,e3,e4,e6,hx,hy,cY aa hk,dw hk,yp];refine cP dz (Cl.kn) [.f,.t,.f,.f,.t,.f,.f,.f,.f,.t,.f,.f,.f,.f,.f,.f,.f,.f,.f,.f,.f,.f,.f,.f,.f,.f,.f,.f,.f,.f,.f,.f,.f,.f,.f,.f,.f,.f,.f,.f,.f,.f,.f,.f,.f,.f,.f,.f,.f,.f,.f,.f,.f,.f,.f,.f,.f,.f,.f,.f,.f,.f,.f,.f,.f,.f,.f,.f,.f,.f,.f,.f,.f,.f,.f,.f,.f,.f,.f,.f,.f,.f,.f,.f,.f,.f,.f,.f,.f,.f,.f,.f,.f,.f,.f,.f,.f,.f,.f,.f,.f,.f,.f,.f,.f,.f,.f,.f,.f,.f,.f,.f,.f,.f,.f,.f,.f,.f,.f,.f,.f,.f,.f,.f] (fun j=>[(9,ce .i64 j)]) k (kK (vF d.aE[k]) d.aE) rfl (by simp) (fun i hi _=> ?_) (fun _ hq=> ?_);have ar:i<d.aE.length:=by omega
    have aL:vF d.aE[k] d.aE[i]=(d.aE[i].aF==d.aE[k].aF&&d.aE[i].aU==d.aE[k].aU):=Kk _ _;simp +contextual (maxSteps:=9^9) [iX,kK,aL,ar,hk,hx,X0.e.eq_1 d.aE[i],ul,UD,cY aa ar,dw hi,hD];simp(maxSteps:=9^9) [iX,cY aa hk];simp(maxSteps:=9^9) [gR,hk,hj,e3,e4,e6,hx,hy,cY aa hk,dw hk,yp];refine cP dz (Cl.imp dz Cl.fin rfl) [.f,.t,.f,.f,.t,.f,.f,.f,.f,.t,.f,.f,.f,.f,.f,.f,.f,.f,.f,.f,.f,.f,.f,.f,.f,.f,.f,.f,.f,.f,.f,.f,.f,.f,.f,.f,.f,.f,.f,.f,.f,.f,.f,.f,.f,.f,.f,.f,.f,.f,.f,.f,.f,.f,.f,.f,.f,.f,.f,.f,.f,.f,.f,.f,.f,.f,.f,.f,.f,.f,.f,.f,.f,.f,.f,.f,.f,.f,.f,.f,.f,.f,.f,.f,.f,.f,.f,.f,.f,.f,.f,.f,.f,.f,.f,.f,.f,.f,.f,.f,.f,.f,.f,.f,.f,.f,.f,.f,.f,.f,.f,.f,.f,.f,.f,.f,.f,.f,.f,.f,.f,.f,.f,.f] (fun j=>[(9,ce .i64 j)]) k (kK (vF d.aE[k]) d.aE) rfl (by simp) (fun i hi _=> ?_) (fun _ hq=> ?_);have ar:i<d.aE.length:=by omega
    have aL:vF d.aE[k] d.aE[i]=(d.aE[i].aF==d.aE[k].aF&&d.aE[i].aU==d.aE[k].aU):=Kk _ _;simp +contextual (maxSteps:=9^9) [iX,kK,aL,ar,hk,hx,X0.e.eq_1 d.aE[i],ul,UD,cY aa ar,dw hi,hD];rw[hD]at hq;cases hq
  simp +contextual (maxSteps:=9^9) [gR,hp,e1,e2]
end Gi
