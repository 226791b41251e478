/- Of this proof. -/
import Derived.Test.YtpnolnkjijmfjaaGreatGkc
import Derived.Test.YtpnolnkjijmfjaaGreatGka
set_option linter.all false
namespace Gi
open Go Go.RowKit
set_option maxHeartbeats 8000000
set_option maxRecDepth 4000
attribute [local simp] start qt dY fa fh gj fg gi gr gq rB rY rE rZ rH r8 rI r9 rJ sa rS sd rU se rV sf rW sh V.cells plain dP ja isInt isStr isBool bin eu i7 ew i9 gl un asList L.view cy V.view viewL dd cu eC dN eh comp cU dS eV dW dD dA dC cF ct df co cE cO cA dx du cH dE dF V.flat L.flat fe fv dK putAt thaw thawL thawT V.ow gn fj fk ez gm eA fi freezeVs freezeLs freezeL V.mut L.mut cN fx iI dj dQ cZ fI ed dH eB L.bD cQ fy ej fE ep eH wp_seq wp_block dh fo eD dO eE wp_skip wp_exit wp_ret eG eM eP eN eT eU eS dV cM L.bB cX cV cW fm dI storeD dg gZ cq eK cJ nP L.bG L.closed V.closed PV.bare PV.flat
def La (xs:List Q3)(k:Nat):Bool:=match xs[k]?,xs[k-1]? with
 |some x,some y=> !(nI x.aZ)||(!(gL x.au.fs)||(dZ 0 k&& !(dZ (xj y.aZ x.aZ) 0)))
 |_,_=>false
def gy (s:Q6):Bool:= !(jU s.a1.length (La s.a1))&&(fV s.aG&&(!(dZ 16 s.a1.length)&&rg s.aS 0 1000000))
def kP {s:Q6}(h:s.Ok maxLen):cf Ph cK 354 [s.v]=some (cL (gy s)):=by refine ca rfl ?_;simp +contextual (maxSteps:=9^9) [uM];refine cP dz Cl.fin [.f,.t,.f,.f,.f,.f,.t,.t,.t,.f,.f,.f,.f,.f,.f,.f,.f,.f,.f,.f,.f,.f,.f,.f,.f,.f,.f,.f,.f,.f,.f,.f,.f,.f,.f,.f,.f,.f,.f,.f,.f,.f,.f,.f,.f,.f,.f,.f,.f,.f,.f,.f,.f,.f,.f] (fun k=>[(8,ce .i64 k)]) s.a1.length (La s.a1) rfl (by simp) (fun k hk _=> ?_) (fun _ hp=> ?_);obtain⟨q1,q2⟩:=Bc h.2.1.1 hk;obtain⟨h1,h2⟩:=h.2.1.2 _ (Zf hk);have h3:=(h.2.1.2 _ (Zf q2)).1;have e1:=oK h2;have e2:=lJ h3 h1;simp +contextual (maxSteps:=9^9) [oF,La,gy,hk,q1,q2,cY h.2.1.1 hk,dw hk,Q3.e.eq_1 s.a1[k],Q3.e.eq_1 s.a1[k-1],pk h1,e1,e2];simp +contextual (maxSteps:=9^9) [oF,gy,hp,eO h.1,dU]
def pO {s:Q6}(h:s.Ok maxLen):cf Ph cK 350 [s.v]=some (cL (gy s)):=by refine ca rfl ?_;simp +contextual (maxSteps:=9^9) [uS];refine cP dz Cl.fin [.f,.t,.f,.t,.f,.f,.f,.f,.f,.f,.f,.f,.f,.f,.f,.f,.f,.f,.f,.f,.f,.f,.f,.f,.f,.f,.f,.f,.f,.f,.f,.f,.f,.f,.f,.f,.f,.f,.f,.f,.f,.f,.f,.f,.f,.f,.f,.f,.f,.f,.f,.f,.f,.f,.f,.f,.f,.f,.f,.f,.f,.f,.f,.f] (fun k=>[(3,ce .i64 k)]) s.a1.length (La s.a1) rfl (by simp) (fun k hk _=> ?_) (fun _ hp=> ?_);obtain⟨q1,q2⟩:=Bc h.2.1.1 hk;obtain⟨h1,h2⟩:=h.2.1.2 _ (Zf hk);have h3:=(h.2.1.2 _ (Zf q2)).1;have e1:=mi h2;have e2:=lK h3 h1;simp +contextual (maxSteps:=9^9) [oG,La,gy,hk,q1,q2,cY h.2.1.1 hk,dw hk,Q3.e.eq_1 s.a1[k],Q3.e.eq_1 s.a1[k-1],px h1,e1,e2];simp +contextual (maxSteps:=9^9) [oG,gy,hp,fS h.1,eQ]
structure QG where
 hasLow:Bool
 hasHigh:Bool
 low:Y7
 high:Y7
abbrev QG.v (r:QG):V:= .agg [.pv (.bool r.hasLow), .pv (.bool r.hasHigh), .pv (.int .i64 r.low.aW), .pv (.int .i64 r.low.n), .pv (.str r.low.ad), .pv (.int .i64 r.high.aW), .pv (.int .i64 r.high.n), .pv (.str r.high.ad)]
def QG.Ok (r:QG):Prop:=r.low.Ok maxLen/\ r.high.Ok maxLen
def Ep (a b:List UInt8):Lib.compareBytes b a= -Lib.compareBytes a b:=by rw[kZ a b,kZ b a];have h1:=vA a b;cases h2:Op.bytesLess a b<;>cases h3:Op.bytesLess b a<;>simp[h2,h3]at h1⊢
def aaT (a b:Y7):xj b a= -xj a b:=by unfold xj;rw[Ep a.ad b.ad];grind [sgn,dZ]
def isS (n:List UInt8)(x:Q6):Bool:=x.aG==n
def DH {d:Y2}(h:d.a9.length<=maxLen)(n:List UInt8):cf Ph cK 404 [d.v,fZ n]=some (ce .i64 (fP (isS n) d.a9)):=by
 have e1:=Cm (e:=Q6.e) (p:=isS n) (xs:=d.a9) (k:=410) (z:=3) (kc:=411) (caps:=[[.str n]]) rfl h (fun _=>rfl) (fun x _=>by
  refine ca rfl ?_
  simp +contextual (maxSteps:=9^9) [pV,Q6.e.eq_1,xg,isS])
 refine ca rfl ?_;simp +contextual (maxSteps:=9^9) [sA,nW,uj,e1]
def D6 {d:Y2}(h:d.a9.length<=maxLen)(n:List UInt8):cf Ph cK 400 [d.v,fZ n]=some (ce .i64 (fP (isS n) d.a9)):=by refine ca rfl ?_;simp +contextual (maxSteps:=9^9) [sP];refine cP dz Cl.fin [.f,.t,.t,.f,.f,.t,.f,.f,.f,.f,.f,.f,.f,.f,.f,.f,.f,.f,.f,.f,.f,.f] (fun k=>[(5,ce .i64 k)]) d.a9.length (kK (isS n) d.a9) rfl (by simp) (fun k hk hj=> ?_) (fun hj _=> ?_);have hf:=wV hk hj;simp +contextual (maxSteps:=9^9) [mH,kK,isS,hk,hf,cY h hk,dw hk,Q6.e.eq_1 d.a9[k]];simp +contextual (maxSteps:=9^9) [mH,wU hj]
def FH (q:Y7)(x:Q3):Bool:=x.aZ.aW==q.aW&&(x.aZ.n==q.n&&x.aZ.ad==q.ad)
def xt {s:Q6}(h:s.a1.length<=maxLen)(q:Y7):cf Ph cK 188 [s.v,q.v]=some (ce .i64 (fP (FH q) s.a1)):=by
 have e1:=Cm (e:=Q3.e) (p:=FH q) (xs:=s.a1) (k:=215) (z:=4) (kc:=216) (caps:=[[.int .i64 q.aW, .int .i64 q.n, .str q.ad]]) rfl h (fun _=>rfl) (fun x _=>by
  refine ca rfl ?_
  simp +contextual (maxSteps:=9^9) [qC,Q3.e.eq_1,xg,FH,ul,UD])
 refine ca rfl ?_;simp +contextual (maxSteps:=9^9) [tL,nW,uj,e1]
def xJ {s:Q6}(h:s.a1.length<=maxLen)(q:Y7):cf Ph cK 184 [s.v,q.v]=some (ce .i64 (fP (FH q) s.a1)):=by refine ca rfl ?_;simp +contextual (maxSteps:=9^9) [tY];refine cP dz Cl.fin [.f,.f,.t,.t,.f,.t,.f,.f,.f,.f,.f,.f,.f,.f,.f,.f,.f,.f,.f,.f,.f,.f] (fun k=>[(5,ce .i64 k)]) s.a1.length (kK (FH q) s.a1) rfl (by simp) (fun k hk hj=> ?_) (fun hj _=> ?_);have hf:=wV hk hj;simp +contextual (maxSteps:=9^9) [nB,kK,FH,hk,hf,cY h hk,dw hk,Q3.e.eq_1 s.a1[k],ul,UD];simp +contextual (maxSteps:=9^9) [nB,wU hj]
def isF (n:List UInt8)(x:Q9):Bool:=x.aG==n
def vV (fs:List Q9)(n:List UInt8):Int×Bool:=match fs.find? (isF n)with
 |some x=>(x.n,true)
 |none=>(0,false)
def aeg {fs:List Q9}{n:List UInt8}{k:Nat}(hk:k<fs.length)(hj:∀j,j<k->kK (isF n) fs j=false)(h:isF n fs[k]=true):vV fs n=(fs[k].n,true):=by
 have:fs.find? (isF n)=some fs[k]:=by
  rw[YU];refine⟨h,k,hk,rfl,fun j aK=> ?_⟩;have h1:j<fs.length:=by omega
  have:=hj j aK;simpa[kK,h1]using this
 simp[vV,this]
def aef {fs:List Q9}{n:List UInt8}(hj:∀j,j<fs.length->kK (isF n) fs j=false):vV fs n=(0,false):=by
 have:fs.find? (isF n)=none:=by rw[Qk];intro x hx;obtain⟨j,h1,rfl⟩:=Yb.1 hx;have:=hj j h1;simpa[kK,h1]using this
 simp[vV,this]
abbrev afw (x:Int×Bool):V:= .b8 [(false,[.pv (.int .i64 x.1)]),(false,[.pv (.bool x.2)])]
def yG {r:X7}(h:r.fs.length<=maxLen)(n:List UInt8):cf Ph cK 217 [r.v,fZ n]=some (ce .i64 (fP (isF n) r.fs)):=by
 have e1:=Cm (e:=Q9.e) (p:=isF n) (xs:=r.fs) (k:=240) (z:=2) (kc:=241) (caps:=[[.str n]]) rfl h (fun _=>rfl) (fun x _=>by
  refine ca rfl ?_
  simp +contextual (maxSteps:=9^9) [sK,Q9.e.eq_1,xg,isF])
 refine ca rfl ?_;simp +contextual (maxSteps:=9^9) [uQ,nW,uj,e1]
def mh {r:X7}(h:r.fs.length<=maxLen)(n:List UInt8):cf Ph cK 186 [r.v,fZ n]=some (afw (vV r.fs n)):=by refine ca rfl ?_;simp +contextual (maxSteps:=9^9) [tZ];refine cP dz Cl.fin [.f,.t,.t,.f,.f,.f,.t,.f,.f,.f,.f,.f,.f,.f,.f,.f,.f,.f,.f,.f,.f,.f,.f,.f,.f,.f,.f,.f] (fun k=>[(6,ce .i64 k)]) r.fs.length (kK (isF n) r.fs) rfl (by simp) (fun k hk hj=> ?_) (fun hj _=> ?_);have hf:=aeg hk hj;simp +contextual (maxSteps:=9^9) [nC,kK,isF,hk,hf,cY h hk,dw hk,Q9.e.eq_1 r.fs[k]];simp +contextual (maxSteps:=9^9) [nC,aef hj]
def Wm (fs:List Q9)(n:List UInt8):(fP (isF n) fs= -1/\ vV fs n=(0,false)) \/∃j,∃hj:j<fs.length,fP (isF n) fs=(j:Int)/\ vV fs n=(fs[j].n,true):=by
 unfold fP vV;cases h:fs.findIdx? (isF n)with
 |none=>
  have:fs.find? (isF n)=none:=by rw[YC]at h;rw[Qk];exact fun x hx=>by simp[h x hx]
  simp[this]
 |some i=>
  rw[ZS]at h;obtain⟨h1,h2,h3⟩:=h;have:fs.find? (isF n)=some fs[i]:=by rw[YU];exact⟨h2,i,h1,rfl,fun j hj=>by simpa using h3 j hj⟩
  exact .inr ⟨i,h1,rfl,by simp[this]⟩
def me {r:X7}(h:r.fs.length<=maxLen)(n:List UInt8):cf Ph cK 190 [r.v,fZ n]=some (afw (vV r.fs n)):=by
 have e1:=yG h n;rcases Wm r.fs n with⟨h1,h2⟩|⟨j,hj,h1,h2⟩<;>rw[h1]at e1<;>rw[h2];all_goals refine ca rfl ?_
 simp +contextual (maxSteps:=9^9) [pJ,e1,dZ];simp +contextual (maxSteps:=9^9) [pJ,e1,dZ,hj,Q9.e.eq_1 r.fs[j]]
end Gi
namespace Gi
open Go Go.RowKit
set_option maxHeartbeats 4000000
def uvF :Nat->Nat->List UInt8
 |0,_=>[]
 |f+1,n=>if n<128 then [UInt8.ofNat n]else UInt8.ofNat (n%128+128)::uvF f (n/128)
def xT (n:Nat):List UInt8:=uvF 6 n
def Vt :∀(f n:Nat),(uvF f n).length<=f
 |0,n=>by simp[uvF]
 |f+1,n=>by have:=Vt f (n/128);unfold uvF;split<;>simp<;>omega
def yB (n:Nat):(xT n).length<=6:=Vt 6 n
def MV {n:Nat}(h:n<128):(xT n).length=1:=by simp[xT,uvF,h]
def Pm (s:List UInt8):List UInt8:=xT s.length++s
def be6 (x:Nat):List UInt8:=[UInt8.ofNat (x/1099511627776),UInt8.ofNat (x/4294967296),UInt8.ofNat (x/16777216),UInt8.ofNat (x/65536),UInt8.ofNat (x/256),UInt8.ofNat x]
def qA (k:Y7):List UInt8:=if nI k=true then UInt8.ofNat k.aW.toNat::((if k.aW=2 then []else be6 (k.n+1000000000000).toNat)++k.ad)else []
def vE {n a b:Int}:rg n a b=true↔a<=n/\ n<=b:=by simp[rg,dZ]
def xw {k:Y7}(h:nI k=true):1<=k.aW/\ k.aW<=3/\ -1000000000000<=k.n/\ k.n<=1000000000000/\ (k.aW=2->k.n=0)/\ k.ad.length<=12:=by unfold nI zI at h;simp only[Zg,vE,YM,Zz,beq_eq_false_iff_ne,beq_iff_eq]at h;obtain⟨⟨⟨⟨⟨h1,h2⟩,h3,h4⟩,h5⟩,_,h6⟩,_⟩:=h;have:=of_decide_eq_false h6;exact⟨h1,h2,h3,h4,fun q=>h5.resolve_left (fun z=>z q),by omega⟩
def IK (k:Y7):(qA k).length<=19:=by unfold qA;split;rename_i h;have:=(xw h).2.2.2.2.2;split<;>simp[be6]<;>omega;simp
def acC (f:Q9):List UInt8:=Pm f.aG++xT f.n.toNat
def mq (l:List Q9):List UInt8:=l.flatMap acC
def yR (r:X7):List UInt8:=if gL r.fs=true then xT r.fs.length++mq r.fs else []
def okF (f:Q9):Prop:=f.aG.length<=8/\ 0<=f.n/\ f.n<=1000000000000
def yl {s:List UInt8}(h:fV s=true):1<=s.length/\ s.length<=8:=by simp only[fV,vz,Zg,vE]at h;omega
def AM {r:X7}(h:gL r.fs=true):r.fs.length<=6/\ ∀f∈r.fs,okF f:=by simp only[gL,Zg,Zz]at h;have hl:=of_decide_eq_false h.2;refine⟨by omega,fun f m=> ?_⟩;obtain⟨j,hj,rfl⟩:=Yb.1 m;have:=tJ h.1 hj;simp only[PD,hj,show j-1<r.fs.length by omega,Zj,ZR,Ya,vE]at this;have q:=yl this.1;exact⟨q.2,this.2.1.1,by omega⟩
def Az :∀(l:List Q9),(∀f∈l,okF f)->(mq l).length<=15*l.length
 |[],h=>by simp[mq]
 |f::l,h=>by have ih:=Az l (fun g m=>h g (by simp[m]));have h1:=(h f (by simp)).1;have h2:=MV (n:=f.aG.length) (by omega);have h3:=yB f.n.toNat;simp only[mq,Y',acC,Pm,Zv,Zo]at ih⊢;omega
def IL (r:X7):(yR r).length<=91:=by unfold yR;split;rename_i h;obtain⟨h1,h2⟩:=AM h;have:=Az r.fs h2;have:=MV (n:=r.fs.length) (by omega);simp only[Zv];omega;simp
structure Raw where
 aW:Nat
 a:List UInt8
 b:List UInt8
 c:List UInt8
 d:List UInt8
structure XOp where
 aW:Int
 aF:List UInt8
 aZ:Y7
 au:X7
 aU:List UInt8
def XOp.e (x:XOp):List PV:=[.int .i64 x.aW, .str x.aF, .int .i64 x.aZ.aW, .int .i64 x.aZ.n, .str x.aZ.ad, .lst (x.au.fs.map Q9.e), .str x.aU]
abbrev XOp.v (x:XOp):V:= .agg [.pv (.int .i64 x.aW), .pv (.str x.aF), .pv (.int .i64 x.aZ.aW), .pv (.int .i64 x.aZ.n), .pv (.str x.aZ.ad), .pv (.lst (x.au.fs.map Q9.e)), .pv (.str x.aU)]
def XOp.Ok (B:Nat)(x:XOp):Prop:=og x.aW/\ x.aF.length<=B/\ x.aZ.Ok B/\ x.au.Ok B/\ x.aU.length<=B
end Gi
namespace Gi
open Go Go.RowKit
set_option maxHeartbeats 8000000
set_option maxRecDepth 4000
attribute [local simp] start cj cT dG dY fa Opd.ev put V.cells plain dP ja isInt isStr isBool bin ft uI uH un asList L.view cy V.view viewL dd cu fb eh comp cU dS eV dW dD dA dC cF ct df co cE cO cA dx du cH dE dF V.flat L.flat fe fv dK putAt thaw thawL thawT freezeVs freezeLs freezeL V.mut L.mut cN cQ fy ej fE ep eH wp_seq wp_block uC wp_cond wp_skip wp_exit wp_ret eG eM eP eN eT eU eS dV cM L.bB cX cV cW iv dI storeD dg gZ cq eK cJ nP L.bG L.closed V.closed PV.bare PV.flat
def eY {s:List UInt8}:(cC s).length=s.length:=by simp[cC]
structure Z7 (z:Nat) (R:List (List PV)):Prop where
 flat:qY R=true
 wid:(R.all fun r=>r.length==z)=true
 len:R.length<=1048576
def re {R:List (List PV)}(h:Z7 1 R):cf Ph cK 261 [eW R]=some (.one (.down 1 R)):=by have hf:=h.flat;have hw:=h.wid;have m:=gU (m:=R.length) (z:=1) (by have:=h.len;omega) (by omega);rw[Nat.mul_one]at m;refine ca rfl ?_;simp[sF,hf,hw,m]
def D9 {R:List (List PV)}(h:Z7 4 R):cf Ph cK 489 [eW R]=some (.one (.down 4 R)):=by have hf:=h.flat;have hw:=h.wid;have m:=gU (m:=R.length) (z:=40) (by have:=h.len;omega) (by omega);refine ca rfl ?_;simp[sV,hf,hw,m]
def qh {B:Nat}(hB:B<=1048576){x:X7}(h:x.Ok B):cf Ph cK 242 [.agg [.pv (.lst (x.fs.map Q9.e))]]=some (.agg [.down 2 (x.fs.map Q9.e)]):=by have aq:=h;have F0:Z7 2 (x.fs.map Q9.e):=⟨ij (e:=Q9.e) (fun _=>rfl) _,fM (e:=Q9.e) (z:=2) (fun _=>rfl) _,by rw[Zr];have:=aq.1;omega⟩;have a8:=F0.flat;have aa:=F0.wid;have m0:=gU (m:=(x.fs.map Q9.e).length) (z:=24) (by have:=F0.len;omega) (by omega);generalize (x.fs.map Q9.e)=R0 at F0 a8 aa m0⊢;refine ca rfl ?_;simp[qN,a8,aa,m0]
def vJ {B:Nat}(hB:B<=1048576){x:X7}(h:x.Ok B):cf Ph cK 239 [.agg [.pv (.lst (x.fs.map Q9.e))]]=some (.agg [.down 2 (x.fs.map Q9.e)]):=by have aq:=h;have F0:Z7 2 (x.fs.map Q9.e):=⟨ij (e:=Q9.e) (fun _=>rfl) _,fM (e:=Q9.e) (z:=2) (fun _=>rfl) _,by rw[Zr];have:=aq.1;omega⟩;have a8:=F0.flat;have aa:=F0.wid;have m0:=gU (m:=(x.fs.map Q9.e).length) (z:=24) (by have:=F0.len;omega) (by omega);generalize (x.fs.map Q9.e)=R0 at F0 a8 aa m0⊢;refine ca rfl ?_;simp[wM,a8,aa,m0]
def xu {B:Nat}(hB:B<=1048576){x:Q3}(h:x.Ok B):cf Ph cK 218 [.agg [.pv (.int .i64 x.aZ.aW), .pv (.int .i64 x.aZ.n), .pv (.str x.aZ.ad), .pv (.lst (x.au.fs.map Q9.e))]]=some (.agg [.pv (.int .i64 x.aZ.aW), .pv (.int .i64 x.aZ.n), .pv (.str x.aZ.ad), .down 2 (x.au.fs.map Q9.e)]):=by obtain⟨ay,al⟩:=h;have c0:=qh hB al;refine ca rfl ?_;simp[tU,c0]
def Ab {B:Nat}(hB:B<=1048576){x:Q3}(h:x.Ok B):cf Ph cK 214 [.agg [.pv (.int .i64 x.aZ.aW), .pv (.int .i64 x.aZ.n), .pv (.str x.aZ.ad), .pv (.lst (x.au.fs.map Q9.e))]]=some (.agg [.pv (.int .i64 x.aZ.aW), .pv (.int .i64 x.aZ.n), .pv (.str x.aZ.ad), .down 2 (x.au.fs.map Q9.e)]):=by obtain⟨ay,al⟩:=h;have c0:=vJ hB al;refine ca rfl ?_;simp[wR,c0]
def A8 {B:Nat}(hB:B<=1048576){x:Z4}(h:x.Ok B):cf Ph cK 493 [.agg [.pv (.lst (x.am.map Y8.e)), .pv (.int .i64 x.pc), .pv (.lst (x.az.map AX)), .pv (.int .i64 x.b1), .pv (.bool x.b4), .pv (.bool x.ae)]]=some (.agg [.down 4 (x.am.map Y8.e), .pv (.int .i64 x.pc), .down 1 (x.az.map AX), .pv (.int .i64 x.b1), .pv (.bool x.b4), .pv (.bool x.ae)]):=by obtain⟨ab,aD,ah,an⟩:=h;have F0:Z7 4 (x.am.map Y8.e):=⟨ij (e:=Y8.e) (fun _=>rfl) _,fM (e:=Y8.e) (z:=4) (fun _=>rfl) _,by rw[Zr];have:=ab.1;omega⟩;have a8:=F0.flat;have aa:=F0.wid;have m0:=gU (m:=(x.am.map Y8.e).length) (z:=40) (by have:=F0.len;omega) (by omega);generalize (x.am.map Y8.e)=R0 at F0 a8 aa m0⊢;have F1:Z7 1 (x.az.map AX):=⟨ij (e:=AX) (fun _=>rfl) _,fM (e:=AX) (z:=1) (fun _=>rfl) _,by rw[Zr];have:=ah.1;omega⟩;have aI:=F1.flat;have aJ:=F1.wid;have m1:=gU (m:=(x.az.map AX).length) (z:=8) (by have:=F1.len;omega) (by omega);generalize (x.az.map AX)=R1 at F1 aI aJ m1⊢;refine ca rfl ?_;simp[p5,a8,aa,m0,aI,aJ,m1]
def HQ {B:Nat}(hB:B<=1048576){x:Z4}(h:x.Ok B):cf Ph cK 477 [.agg [.pv (.lst (x.am.map Y8.e)), .pv (.int .i64 x.pc), .pv (.lst (x.az.map AX)), .pv (.int .i64 x.b1), .pv (.bool x.b4), .pv (.bool x.ae)]]=some (.agg [.down 4 (x.am.map Y8.e), .pv (.int .i64 x.pc), .down 1 (x.az.map AX), .pv (.int .i64 x.b1), .pv (.bool x.b4), .pv (.bool x.ae)]):=by obtain⟨ab,aD,ah,an⟩:=h;have c0:=D9 (R:=(x.am.map Y8.e)) ⟨ij (fun _=>rfl) _,fM (z:=4) (fun _=>rfl) _,by rw[Zr];have:=ab.1;omega⟩;have F0:Z7 1 (x.az.map AX):=⟨ij (e:=AX) (fun _=>rfl) _,fM (e:=AX) (z:=1) (fun _=>rfl) _,by rw[Zr];have:=ah.1;omega⟩;have a8:=F0.flat;have aa:=F0.wid;have m0:=gU (m:=(x.az.map AX).length) (z:=8) (by have:=F0.len;omega) (by omega);generalize (x.az.map AX)=R0 at F0 a8 aa m0⊢;refine ca rfl ?_;simp[uW,c0,a8,aa,m0]
def FD {B:Nat}(hB:B<=1048576){x:X6}(h:x.Ok B):cf Ph cK 479 [.agg [.pv (.int .i64 x.id), .pv (.str x.aP), .pv (.str x.av), .pv (.int .i64 x.aC), .pv (.lst (x.ai.map Y4.e)), .pv (.lst (x.aR.am.map Y8.e)), .pv (.int .i64 x.aR.pc), .pv (.lst (x.aR.az.map AX)), .pv (.int .i64 x.aR.b1), .pv (.bool x.aR.b4), .pv (.bool x.aR.ae)]]=some (.agg [.pv (.int .i64 x.id), .pv (.str x.aP), .pv (.str x.av), .pv (.int .i64 x.aC), .down 2 (x.ai.map Y4.e), .down 4 (x.aR.am.map Y8.e), .pv (.int .i64 x.aR.pc), .down 1 (x.aR.az.map AX), .pv (.int .i64 x.aR.b1), .pv (.bool x.aR.b4), .pv (.bool x.aR.ae)]):=by obtain⟨aH,ar,aA,a6,af,a7⟩:=h;have c0:=A8 hB a7;have F0:Z7 2 (x.ai.map Y4.e):=⟨ij (e:=Y4.e) (fun _=>rfl) _,fM (e:=Y4.e) (z:=2) (fun _=>rfl) _,by rw[Zr];have:=af.1;omega⟩;have a8:=F0.flat;have aa:=F0.wid;have m0:=gU (m:=(x.ai.map Y4.e).length) (z:=24) (by have:=F0.len;omega) (by omega);generalize (x.ai.map Y4.e)=R0 at F0 a8 aa m0⊢;refine ca rfl ?_;simp[tV,c0,a8,aa,m0]
def HW {B:Nat}(hB:B<=1048576){x:X6}(h:x.Ok B):cf Ph cK 451 [.agg [.pv (.int .i64 x.id), .pv (.str x.aP), .pv (.str x.av), .pv (.int .i64 x.aC), .pv (.lst (x.ai.map Y4.e)), .pv (.lst (x.aR.am.map Y8.e)), .pv (.int .i64 x.aR.pc), .pv (.lst (x.aR.az.map AX)), .pv (.int .i64 x.aR.b1), .pv (.bool x.aR.b4), .pv (.bool x.aR.ae)]]=some (.agg [.pv (.int .i64 x.id), .pv (.str x.aP), .pv (.str x.av), .pv (.int .i64 x.aC), .down 2 (x.ai.map Y4.e), .down 4 (x.aR.am.map Y8.e), .pv (.int .i64 x.aR.pc), .down 1 (x.aR.az.map AX), .pv (.int .i64 x.aR.b1), .pv (.bool x.aR.b4), .pv (.bool x.aR.ae)]):=by obtain⟨aH,ar,aA,a6,af,a7⟩:=h;have c0:=HQ hB a7;have F0:Z7 2 (x.ai.map Y4.e):=⟨ij (e:=Y4.e) (fun _=>rfl) _,fM (e:=Y4.e) (z:=2) (fun _=>rfl) _,by rw[Zr];have:=af.1;omega⟩;have a8:=F0.flat;have aa:=F0.wid;have m0:=gU (m:=(x.ai.map Y4.e).length) (z:=24) (by have:=F0.len;omega) (by omega);generalize (x.ai.map Y4.e)=R0 at F0 a8 aa m0⊢;refine ca rfl ?_;simp[u0,c0,a8,aa,m0]
def km (b0 b1:Q0)(y0:L)(y2:L)(rows:List (List PV)):Nat->List Q0
 |0=>[b0,b1, .box [y0, .nil,y2]]
 |k+1=>[b0,b1, .box [y0, .arr 3,y2], .bA 4 (rows.take (k+1))]
def jM {B:Nat}(hB:B<=1048576){x:Q6}(h:x.Ok B):cf Ph cK 191 [.agg [.pv (.str x.aG), .pv (.lst (x.a1.map Q3.e)), .pv (.int .i64 x.aS)]]=some (.agg [.pv (.str x.aG),nd 4 (x.a1.map Q3.e), .pv (.int .i64 x.aS)]):=by
 obtain⟨aj,a5,aw⟩:=h;have e1:∀k(hk:k<x.a1.length),_:=fun k hk=>xu hB (a5.2 _ (Zf hk));have hl:x.a1.length<=1048576:=Zc a5.1 hB;refine ca rfl ?_;simp[sI];refine eX dz Cl.fin x.a1.length [.f,.f,.t,.t,.f,.f,.f,.f,.f,.f,.f,.f,.t,.t,.t,.f,.f,.f,.f,.f,.f,.f,.f,.f,.f,.f,.f] (fun k=>[(14,ce .i64 k)]) (km (.box [.pv (.str x.aG), .pv (.lst (x.a1.map Q3.e)), .pv (.int .i64 x.aS)]) (.box [.pv (.str []), .nil, .pv (.int .i64 0)]) (.pv (.str x.aG)) (.pv (.int .i64 x.aS)) (x.a1.map Q3.e)) rfl ?_ ?_ ?_;exact Kn.q [0,1,2] (by simp[km,cX,cV,cW,iv,dI,dj,dQ,cZ,fI,ed,dH,eB,L.bD,cO]);intro k hk;have ek:=e1 k hk;have hx:=Q3.e.eq_1 x.a1[k];have ht:=fJ (e:=Q3.e) hk;rw[hx]at ht;cases k with
 |zero=>simp only[km,ht];simp[jp,hk,hx,ek,fK];exact Kn.q [0,1,2,6]
 |succ k=>
  obtain⟨i1,i2,i3,i4,i5,i6⟩:=tt (n:=x.a1.length) (by unfold maxLen;omega) hk;have b1:min (k+1) x.a1.length=k+1:=by omega
  have m1:=gU (m:=k+1+1) (z:=56) (by omega) (by omega);simp only[km,ht];generalize hT:List.take (k+1) _=T;have ao:T.length=k+1:=by rw[<-hT];simp;omega
  simp[jp,hk,hx,ek,i1,i2,i3,i4,i5,i6,ao,m1];exact Kn.q [0,1,2,7]
 cases hq:x.a1 with
 |nil=>simp[jp,km,nd]
 |cons q qs=>have hT:(x.a1.map Q3.e).take (qs.length+1)=x.a1.map Q3.e:=Zs (by rw[hq];simp);rw[hq]at hT;simp only[Zo,km,hT];simp[jp,nd]
def m5 (b0 b1:Q0)(y0:L)(y2:L)(rows:List (List PV)):Nat->List Q0
 |0=>[b0,b1, .box [y0, .nil,y2]]
 |k+1=>[b0,b1, .box [y0, .arr 3,y2], .bA 4 (rows.take (k+1))]
def mj {B:Nat}(hB:B<=1048576){x:Q6}(h:x.Ok B):cf Ph cK 187 [.agg [.pv (.str x.aG), .pv (.lst (x.a1.map Q3.e)), .pv (.int .i64 x.aS)]]=some (.agg [.pv (.str x.aG),nd 4 (x.a1.map Q3.e), .pv (.int .i64 x.aS)]):=by
 obtain⟨aj,a5,aw⟩:=h;have e1:∀k(hk:k<x.a1.length),_:=fun k hk=>Ab hB (a5.2 _ (Zf hk));have hl:x.a1.length<=1048576:=Zc a5.1 hB;refine ca rfl ?_;simp[wP];refine eX dz Cl.fin x.a1.length [.f,.t,.t,.t,.t,.f,.f,.f,.f,.f,.f,.f,.f,.f,.f,.f,.f,.f,.f,.f,.f,.f,.f,.f,.f,.f,.f,.f,.f] (fun k=>[(4,ce .i64 k)]) (m5 (.box [.pv (.str x.aG), .pv (.lst (x.a1.map Q3.e)), .pv (.int .i64 x.aS)]) (.box [.pv (.str []), .nil, .pv (.int .i64 0)]) (.pv (.str x.aG)) (.pv (.int .i64 x.aS)) (x.a1.map Q3.e)) rfl ?_ ?_ ?_;exact Kn.q [0,1,2] (by simp[m5,cX,cV,cW,iv,dI,dj,dQ,cZ,fI,ed,dH,eB,L.bD,cO]);intro k hk;have ek:=e1 k hk;have hx:=Q3.e.eq_1 x.a1[k];have ht:=fJ (e:=Q3.e) hk;rw[hx]at ht;cases k with
 |zero=>simp only[m5,ht];simp[kL,hk,hx,ek,fK];exact Kn.q [0,1,2,5]
 |succ k=>
  obtain⟨i1,i2,i3,i4,i5,i6⟩:=tt (n:=x.a1.length) (by unfold maxLen;omega) hk;have b1:min (k+1) x.a1.length=k+1:=by omega
  have m1:=gU (m:=k+1+1) (z:=56) (by omega) (by omega);simp only[m5,ht];generalize hT:List.take (k+1) _=T;have ao:T.length=k+1:=by rw[<-hT];simp;omega
  simp[kL,hk,hx,ek,i1,i2,i3,i4,i5,i6,ao,m1];exact Kn.q [0,1,2,6]
 cases hq:x.a1 with
 |nil=>simp[kL,m5,nd]
 |cons q qs=>have hT:(x.a1.map Q3.e).take (qs.length+1)=x.a1.map Q3.e:=Zs (by rw[hq];simp);rw[hq]at hT;simp only[Zo,m5,hT];simp[kL,nd]
def iZ (b0 b1:Q0)(nm:List UInt8)(aB:Int)(U rows:List (List PV)):Nat->List Q0
 |0=>[b0,b1, .box [.pv (.str nm), .pv (.int .i64 aB), .nil, .arr 3], .bA 2 U]
 |k+1=>[b0,b1, .box [.pv (.str nm), .pv (.int .i64 aB), .arr 4, .arr 3], .bA 2 U, .bA 3 (rows.take (k+1))]
def zF {B:Nat}(hB:B<=1048576){x:Y2}(h:x.Ok B):cf Ph cK 498 [.agg [.pv (.str x.aG), .pv (.int .i64 x.aC), .pv (.lst (x.a9.map Q6.e)), .pv (.lst (x.aE.map X0.e))]]=some (.agg [.pv (.str x.aG), .pv (.int .i64 x.aC),nd 3 (x.a9.map Q6.e), .down 2 (x.aE.map X0.e)]):=by
 obtain⟨aj,a6,a2,ag⟩:=h;have F0:Z7 2 (x.aE.map X0.e):=⟨ij (e:=X0.e) (fun _=>rfl) _,fM (e:=X0.e) (z:=2) (fun _=>rfl) _,by rw[Zr];have:=ag.1;omega⟩;have a8:=F0.flat;have aa:=F0.wid;have m0:=gU (m:=(x.aE.map X0.e).length) (z:=32) (by have:=F0.len;omega) (by omega);generalize (x.aE.map X0.e)=R0 at F0 a8 aa m0⊢;have e1:∀k(hk:k<x.a9.length),_:=fun k hk=>jM hB (a2.2 _ (Zf hk));have hl:x.a9.length<=1048576:=Zc a2.1 hB;refine ca rfl ?_;simp[oZ,a8,aa,m0];refine eX dz Cl.fin x.a9.length [.f,.f,.t,.t,.f,.f,.f,.f,.f,.f,.f,.f,.f,.f,.f,.f,.t,.t,.t,.f,.f,.f,.f,.f,.f,.f,.f,.f,.f,.f,.f] (fun k=>[(18,ce .i64 k)]) (iZ (.box [.pv (.str x.aG), .pv (.int .i64 x.aC), .pv (.lst (x.a9.map Q6.e)), .pv (.lst R0)]) (.box [.pv (.str []), .pv (.int .i64 0), .nil, .nil]) x.aG x.aC R0 (x.a9.map Q6.e)) rfl ?_ ?_ ?_;exact Kn.q [0,1,2,3] (by simp[iZ,cX,cV,cW,iv,dI,dj,dQ,cZ,fI,ed,dH,eB,L.bD,cO]);intro k hk;have ek:=e1 k hk;have hx:=Q6.e.eq_1 x.a9[k];have ht:=fJ (e:=Q6.e) hk;rw[hx]at ht;have N0:=fF 4 (x.a9[k].a1.map Q3.e);generalize nd 4 (x.a9[k].a1.map Q3.e)=n0 at N0 ek;cases k with
 |zero=>simp only[iZ,ht];rcases N0 with⟨q0,rfl⟩|⟨q0,rfl⟩;simp only[q0]at ek;simp[gh,hk,hx,ek,fK,q0];exact Kn.q [0,1,2,3,6];simp[gh,hk,hx,ek,fK];exact Kn.q [0,1,2,3,7]
 |succ k=>
  obtain⟨i1,i2,i3,i4,i5,i6⟩:=tt (n:=x.a9.length) (by unfold maxLen;omega) hk;have b1:min (k+1) x.a9.length=k+1:=by omega
  have m1:=gU (m:=k+1+1) (z:=48) (by omega) (by omega);simp only[iZ,ht];generalize hT:List.take (k+1) _=T;have ao:T.length=k+1:=by rw[<-hT];simp;omega
  rcases N0 with⟨q0,rfl⟩|⟨q0,rfl⟩;simp only[q0]at ek;simp[gh,hk,hx,ek,i1,i2,i3,i4,i5,i6,ao,m1,q0];exact Kn.q [0,1,2,3,7];simp[gh,hk,hx,ek,i1,i2,i3,i4,i5,i6,ao,m1];exact Kn.q [0,1,2,3,8]
 cases hq:x.a9 with
 |nil=>simp[gh,iZ,nd]
 |cons q qs=>have hT:(x.a9.map Q6.e).take (qs.length+1)=x.a9.map Q6.e:=Zs (by rw[hq];simp);rw[hq]at hT;simp only[Zo,iZ,hT];simp[gh,nd]
def m6 (b0 b1:Q0)(nm:List UInt8)(aB:Int)(U rows:List (List PV)):Nat->List Q0
 |0=>[b0,b1, .box [.pv (.str nm), .pv (.int .i64 aB), .nil, .arr 3], .bA 2 U]
 |k+1=>[b0,b1, .box [.pv (.str nm), .pv (.int .i64 aB), .arr 4, .arr 3], .bA 2 U, .bA 3 (rows.take (k+1))]
def Kv {B:Nat}(hB:B<=1048576){x:Y2}(h:x.Ok B):cf Ph cK 496 [.agg [.pv (.str x.aG), .pv (.int .i64 x.aC), .pv (.lst (x.a9.map Q6.e)), .pv (.lst (x.aE.map X0.e))]]=some (.agg [.pv (.str x.aG), .pv (.int .i64 x.aC),nd 3 (x.a9.map Q6.e), .down 2 (x.aE.map X0.e)]):=by
 obtain⟨aj,a6,a2,ag⟩:=h;have F0:Z7 2 (x.aE.map X0.e):=⟨ij (e:=X0.e) (fun _=>rfl) _,fM (e:=X0.e) (z:=2) (fun _=>rfl) _,by rw[Zr];have:=ag.1;omega⟩;have a8:=F0.flat;have aa:=F0.wid;have m0:=gU (m:=(x.aE.map X0.e).length) (z:=32) (by have:=F0.len;omega) (by omega);generalize (x.aE.map X0.e)=R0 at F0 a8 aa m0⊢;have e1:∀k(hk:k<x.a9.length),_:=fun k hk=>mj hB (a2.2 _ (Zf hk));have hl:x.a9.length<=1048576:=Zc a2.1 hB;refine ca rfl ?_;simp[wT,a8,aa,m0];refine eX dz Cl.fin x.a9.length [.f,.t,.t,.t,.t,.f,.f,.f,.f,.f,.f,.f,.f,.f,.f,.f,.f,.f,.f,.f,.f,.f,.f,.f,.f,.f,.f,.f,.f,.f,.f,.f,.f] (fun k=>[(4,ce .i64 k)]) (m6 (.box [.pv (.str x.aG), .pv (.int .i64 x.aC), .pv (.lst (x.a9.map Q6.e)), .pv (.lst R0)]) (.box [.pv (.str []), .pv (.int .i64 0), .nil, .nil]) x.aG x.aC R0 (x.a9.map Q6.e)) rfl ?_ ?_ ?_;exact Kn.q [0,1,2,3] (by simp[m6,cX,cV,cW,iv,dI,dj,dQ,cZ,fI,ed,dH,eB,L.bD,cO]);intro k hk;have ek:=e1 k hk;have hx:=Q6.e.eq_1 x.a9[k];have ht:=fJ (e:=Q6.e) hk;rw[hx]at ht;have N0:=fF 4 (x.a9[k].a1.map Q3.e);generalize nd 4 (x.a9[k].a1.map Q3.e)=n0 at N0 ek;cases k with
 |zero=>simp only[m6,ht];rcases N0 with⟨q0,rfl⟩|⟨q0,rfl⟩;simp only[q0]at ek;simp[jc,hk,hx,ek,fK,q0];exact Kn.q [0,1,2,3,5];simp[jc,hk,hx,ek,fK];exact Kn.q [0,1,2,3,6]
 |succ k=>
  obtain⟨i1,i2,i3,i4,i5,i6⟩:=tt (n:=x.a9.length) (by unfold maxLen;omega) hk;have b1:min (k+1) x.a9.length=k+1:=by omega
  have m1:=gU (m:=k+1+1) (z:=48) (by omega) (by omega);simp only[m6,ht];generalize hT:List.take (k+1) _=T;have ao:T.length=k+1:=by rw[<-hT];simp;omega
  rcases N0 with⟨q0,rfl⟩|⟨q0,rfl⟩;simp only[q0]at ek;simp[jc,hk,hx,ek,i1,i2,i3,i4,i5,i6,ao,m1,q0];exact Kn.q [0,1,2,3,6];simp[jc,hk,hx,ek,i1,i2,i3,i4,i5,i6,ao,m1];exact Kn.q [0,1,2,3,7]
 cases hq:x.a9 with
 |nil=>simp[jc,m6,nd]
 |cons q qs=>have hT:(x.a9.map Q6.e).take (qs.length+1)=x.a9.map Q6.e:=Zs (by rw[hq];simp);rw[hq]at hT;simp only[Zo,m6,hT];simp[jc,nd]
end Gi
namespace Gi
open Go Go.RowKit
set_option maxHeartbeats 8000000
set_option maxRecDepth 4000
attribute [local simp] start qt dY fa fh gj fg gi gr gq rB rY rE rZ rH r8 rI r9 rJ sa rS sd rU se rV sf rW sh V.cells plain dP ja isInt isStr isBool bin eu i7 ew i9 gl un asList L.view cy V.view viewL dd cu eC dN eh comp cU dS eV dW dD dA dC cF ct df co cE cO cA dx du cH dE dF V.flat L.flat fe fv dK putAt thaw thawL thawT V.ow gn fj fk ez gm eA fi freezeVs freezeLs freezeL V.mut L.mut cN fx iI dj dQ cZ fI ed dH eB L.bD cQ fy ej fE ep eH wp_seq wp_block dh fo eD dO eE wp_skip wp_exit wp_ret eG eM eP eN eT eU eS dV cM L.bB cX cV cW fm dI storeD dg gZ cq eK cJ nP L.bG L.closed V.closed PV.bare PV.flat
def Up {call:Nat->List V->Option V}{Q:Ex->St->Prop}{ks:List Fr}(hc:vU call)(hQ:Cl Q){c:Q7}{t:List V}{h:List Q0}{α:Type}(m:List Mk)(U:α->List (Nat×V))(H:α->List Q0)(next:α->Option α)(μ:α->Nat)(I:α->Prop)(a0:α)(i0:I a0)(hz:(c.bn&&kz ks)=true)(kn:Kn ⟨rq (lc m t) (U a0),H a0⟩ ⟨t,h⟩)
 (st:∀a b,I a->next a=some b->μ b<μ a/\ I b/\ wp call (fun e X=>e= .normal/\ Kn ⟨rq (lc m t) (U b),H b⟩ X) [] (cD call cS c ⟨rq (lc m t) (U a),H a⟩))
 (en:∀a,I a->next a=none->wp call Q (.sq yP::ks) (cD call cS c ⟨rq (lc m t) (U a),H a⟩)):wp call Q ks (cD call cS (.loop c) ⟨t,h⟩):=by
 have key:∀n a,μ a<=n->I a->wp call Q ks (cD call cS (.loop c) ⟨rq (lc m t) (U a),H a⟩):=by
  intro n;induction n with
  |zero=>
   intro a hn ia;cases q:next a with
   |none=>exact xA (en a ia q)
   |some b=>have:=(st a b ia q).1;omega
  |succ n ih=>
   intro a hn ia;cases q:next a with
   |none=>exact xA (en a ia q)
   |some b=>obtain⟨h1,h2,h3⟩:=st a b ia q;exact FL hc hQ hz h3 (ih b (by omega) h2)
 have aL:kz (.sq (.loop c)::ks)=true:=by simpa only[kz,Q7.bn]using hz
 exact Pf hc hQ ⟨rq (lc m t) (U a0),H a0⟩ aL kn (key _ a0 (Zi _) i0)
def Pb {n:Nat}(h:n<256):IntKind.u8.wrap (n:Int)=(n:Int)/\ (UInt8.ofNat n).toNat=n:=by refine⟨?_,by simp;omega⟩;simp[IntKind.wrap,IntKind.signed,IntKind.bits];omega
def ad2 {n:Nat}(h:n<4611686018427387904):IntKind.i64.wrap ((BitVec.ofInt IntKind.i64.bits (n:Int)&&&BitVec.ofInt IntKind.i64.bits 127).toNat:Int)=((n%128:Nat):Int):=by
 have e1:(BitVec.ofInt IntKind.i64.bits (n:Int)).toNat=n:=by show(BitVec.ofInt 64 (n:Int)).toNat=n;simp[BitVec.toNat_ofInt];omega
 have e2:(BitVec.ofInt IntKind.i64.bits 127).toNat=127:=by decide
 rw[BitVec.toNat_and,e1,e2,show(127:Nat)=2^7-1 from rfl,Qv];rw[IntKind.wrap_i64];omega
def afj {n:Nat}(h:n<128):IntKind.i64.wrap ((BitVec.ofInt IntKind.i64.bits (n:Int)|||BitVec.ofInt IntKind.i64.bits 128).toNat:Int)=((n+128:Nat):Int):=by
 have e1:(BitVec.ofInt IntKind.i64.bits (n:Int)).toNat=n:=by show(BitVec.ofInt 64 (n:Int)).toNat=n;simp[BitVec.toNat_ofInt];omega
 have e2:(BitVec.ofInt IntKind.i64.bits 128).toNat=128:=by decide
 have e3:=Nat.two_pow_add_eq_or_of_lt (i:=7) (b:=n) (by omega) 1;rw[BitVec.toNat_or,e1,e2,Nat.or_comm,show(128:Nat)=2^7*1 from rfl,<-e3];rw[IntKind.wrap_i64];omega
def oL (s:List UInt8)(x:UInt8):cC (s++[x])=cC s++[[.int .u8 x.toNat]]:=by simp[cC]
def Ge (a:Nat×Nat×List UInt8):Option (Nat×Nat×List UInt8):=if a.2.1<128 then none else match a.1 with
 |0=>none
 |f+1=>some (f,a.2.1/128,a.2.2++[UInt8.ofNat (a.2.1%128+128)])
def uvI (b T:List UInt8)(a:Nat×Nat×List UInt8):Prop:=a.2.1<128^(a.1+1)/\ a.2.2++uvF (a.1+1) a.2.1=T/\ a.2.2.length+a.1<=b.length+5/\ a.2.1<=1000000000000
def SO {b T:List UInt8}{f m:Nat}{o:List UInt8}{a':Nat×Nat×List UInt8}(ia:uvI b T (f,m,o))(h:Ge (f,m,o)=some a'):128<=m/\ uvI b T a'/\ (a':Nat×Nat×List UInt8)=(f-1,m/128,o++[UInt8.ofNat (m%128+128)]):=by
 obtain⟨h1,h2,h3,h4⟩:=ia;unfold Ge at h;simp only at h h1 h2 h3 h4;split at h;cases h;rename_i hm;cases f with
 |zero=>cases h
 |succ f=>cases h;refine⟨by omega,⟨?_,?_,by simp;omega,by simp only;omega⟩,rfl⟩;show m/128<128^(f+1);rw[YY (by decide),<-Nat.pow_succ];exact h1;rw[<-h2];show(o++[UInt8.ofNat (m%128+128)])++uvF (f+1) (m/128)=o++uvF (f+1+1) m;rw[show uvF (f+1+1) m=UInt8.ofNat (m%128+128)::uvF (f+1) (m/128) by rw[uvF,if_neg hm]];simp
def Vu {b T:List UInt8}{f m:Nat}{o:List UInt8}(ia:uvI b T (f,m,o))(h:Ge (f,m,o)=none):m<128/\ o++[UInt8.ofNat m]=T:=by
 obtain⟨h1,h2,_⟩:=ia;unfold Ge at h;simp only at h h1 h2;split at h;rename_i hm;exact⟨hm,by rw[<-h2,uvF,if_pos hm]⟩;rename_i hm;cases f with
 |zero=>simp at h1;omega
 |succ f=>cases h
def nl {b:List UInt8}(hb:b.length<=1048000){n:Nat}(hn:n<=1000000000000):cf Ph cK 247 [eW (cC b),ce .i64 (n:Int)]=some (.one (.own 1 (cC (b++xT n)))):=by
 have e1:rg (n:Int) 0 1000000000000=true:=vE.2 ⟨by omega,by omega⟩;have e2:=dU (n:Int) 0 1000000000000;rw[e1]at e2;have e3:=re (R:=cC b) ⟨vo b,m8 b,by rw[eY];omega⟩;refine ca rfl ?_;simp(maxSteps:=9^9) [nX,e2,e3];refine Up dz Cl.fin [.f,.t,.f,.f,.f,.t,.f,.f,.f,.f,.f,.f,.f,.f,.f,.f,.f,.f,.f,.f,.f,.f,.f,.f,.f,.f,.f,.f] (fun a=>[(1,ce .i64 (a.2.1:Nat)),(5, .one (.arr 0))]) (fun a=>[.arr 1 (cC a.2.2)]) Ge (fun a=>a.2.1) (uvI b (b++xT n)) (5,n,b) ⟨by show n<128^6;omega,rfl,by simp,hn⟩ rfl (by simp) (fun a a' ia ha=> ?_) (fun a ia ha=> ?_);obtain⟨f,m,o⟩:=a;obtain⟨hm,hi,rfl⟩:=SO ia ha;obtain⟨_,_,hl,ax⟩:=ia;simp only at hl ax;have hlt:dZ (m:Int) 128=false:=iG (by omega);have ak:dZ 127 (m:Int)=true:=jl (by omega);have q:=Pb (n:=m%128+128) (by omega);have m1:o.length<=140737488355327/\ o.length<=9223372036854775806:=by omega
 have m2:=gU (m:=o.length+1) (z:=1) (by omega) (by omega);have r1:(m:Int).tmod 128=(m:Int)%128:=Int.tmod_eq_emod_of_nonneg (by omega);have r2:(m:Int).tdiv 128=(m:Int)/128:=Int.tdiv_eq_ediv_of_nonneg (by omega);have r3:IntKind.i64.wrap ((m:Int)%128+128)=(m:Int)%128+128:=by rw[IntKind.wrap_i64];omega
 have r4:IntKind.i64.wrap ((m:Int)/128)=(m:Int)/128:=by rw[IntKind.wrap_i64];omega
 have r5:IntKind.u8.wrap ((m:Int)%128+128)=(m:Int)%128+128:=by have:=q.1;simpa using this
 have r6:((m:Int)%128+128)%256=(m:Int)%128+128:=by omega
 refine⟨by show m/128<m;omega,hi,?_⟩;simp(maxSteps:=9^9) [j6,hlt,ak,r1,r2,r3,r4,r5,m1,m2,oL,eY,-fx];exact Kn.of [2] (by decide) (by simp[oL,r5,r6]) (by simp[r4]);obtain⟨f,m,o⟩:=a;obtain⟨hm,hi⟩:=Vu ia ha;obtain⟨_,_,hl,ax⟩:=ia;simp only at hl ax;have hlt:dZ (m:Int) 128=true:=jl (by omega);have ak:dZ 127 (m:Int)=false:=iG (by omega);have q:=Pb (n:=m) (by omega);have m1:o.length<=140737488355327/\ o.length<=9223372036854775806:=by omega
 have m2:=gU (m:=o.length+1) (z:=1) (by omega) (by omega);rw[<-hi];simp(maxSteps:=9^9) [j6,hlt,ak,q,m1,m2,oL,eY]
def agb (m:Nat):qw .shr .i64 (m:Int) 7=some (ce .i64 ((m:Int)/128)):=by
 have e:(min (Int.toNat 7) IntKind.i64.bits)=7:=by decide
 simp only[qw];rw[if_neg (by omega)];simp only[e];rw[show((2:Int)^7)=128 by decide,Int.fdiv_eq_ediv_of_nonneg _ (by omega)]
def nq {b:List UInt8}(hb:b.length<=1048000){n:Nat}(hn:n<=1000000000000):cf Ph cK 244 [eW (cC b),ce .i64 (n:Int)]=some (.one (.own 1 (cC (b++xT n)))):=by
 have e1:rg (n:Int) 0 1000000000000=true:=vE.2 ⟨by omega,by omega⟩;have e2:=eQ (n:Int) 0 1000000000000;rw[e1]at e2;have w1:=m8 b;have m0:b.length<=140737488355328/\ b.length<=9223372036854775807:=by omega
 refine ca rfl ?_;simp(maxSteps:=9^9) [n6,e2,w1,m0,eY];refine Up dz Cl.fin [.f,.t,.f,.f,.f,.t,.f,.f,.f,.f,.f,.f,.f,.f,.f,.f,.f,.f,.f,.f,.f,.f,.f,.f,.f,.f,.f,.f,.f] (fun a=>[(1,ce .i64 (a.2.1:Nat)),(5, .one (.arr 0))]) (fun a=>[.arr 1 (cC a.2.2)]) Ge (fun a=>a.2.1) (uvI b (b++xT n)) (5,n,b) ⟨by show n<128^6;omega,rfl,by simp,hn⟩ rfl (Kn.of [1] (by decide) (by simp) (by simp)) (fun a a' ia ha=> ?_) (fun a ia ha=> ?_);obtain⟨f,m,o⟩:=a;obtain⟨hm,hi,rfl⟩:=SO ia ha;obtain⟨_,_,hl,ax⟩:=ia;simp only at hl ax;have hlt:dZ (m:Int) 128=false:=iG (by omega);have ak:dZ 127 (m:Int)=true:=jl (by omega);have q:=Pb (n:=m%128+128) (by omega);have m1:o.length<=140737488355327/\ o.length<=9223372036854775806:=by omega
 have m2:=gU (m:=o.length+1) (z:=1) (by omega) (by omega);have r1:=ad2 (n:=m) (by omega);have r2:=agb m;have r3:=afj (n:=m%128) (by omega);have e:((m%128:Nat):Int)=(m:Int)%128:=by omega
 have e':((m%128+128:Nat):Int)=(m:Int)%128+128:=by omega
 rw[e]at r1 r3;rw[e']at r3;have r4:IntKind.i64.wrap ((m:Int)/128)=(m:Int)/128:=by rw[IntKind.wrap_i64];omega
 have r5:IntKind.u8.wrap ((m:Int)%128+128)=(m:Int)%128+128:=by have:=q.1;simpa using this
 have r6:((m:Int)%128+128)%256=(m:Int)%128+128:=by omega
 refine⟨by show m/128<m;omega,hi,?_⟩;simp(maxSteps:=9^9) [j7,hlt,ak, ↓r1,r2, ↓r3,r4,r5,m1,m2,oL,eY,-fx];exact Kn.of [2] (by decide) (by simp[oL,r5,r6]) (by simp[r4]);obtain⟨f,m,o⟩:=a;obtain⟨hm,hi⟩:=Vu ia ha;obtain⟨_,_,hl,ax⟩:=ia;simp only at hl ax;have hlt:dZ (m:Int) 128=true:=jl (by omega);have ak:dZ 127 (m:Int)=false:=iG (by omega);have q:=Pb (n:=m) (by omega);have m1:o.length<=140737488355327/\ o.length<=9223372036854775806:=by omega
 have m2:=gU (m:=o.length+1) (z:=1) (by omega) (by omega);rw[<-hi];simp(maxSteps:=9^9) [j7,hlt,ak,q,m1,m2,oL,eY]
def GB (s u:List UInt8):cC (s++u)=cC s++cC u:=by simp[cC]
def AY {b s:List UInt8}(hb:b.length<=1048000)(hs:s.length<=1048576):cf Ph cK 248 [eW (cC b),eW (cC s)]=some (.one (.own 1 (cC (b++Pm s)))):=by
 have e1:=nl hb (n:=s.length) (by omega);have w1:=m8 s;have hl:=yB s.length;have m1:b.length+(xT s.length).length+s.length<=140737488355328/\ b.length+(xT s.length).length+s.length<=9223372036854775807:=by omega
 rw[show b++Pm s=(b++xT s.length)++s by simp[Pm]];have e:cC ((b++xT s.length)++s)=cC (b++xT s.length)++cC s:=GB _ _;rw[e];refine ca rfl ?_;simp(maxSteps:=9^9) [pS,e1,w1,m1,eY]
def Bf {b s:List UInt8}(hb:b.length<=1048000)(hs:s.length<=1048576):cf Ph cK 245 [eW (cC b),eW (cC s)]=some (.one (.own 1 (cC (b++Pm s)))):=by
 have e1:=nq hb (n:=s.length) (by omega);have w1:=m8 s;have hl:=yB s.length;have m1:b.length+(xT s.length).length+s.length<=140737488355328/\ b.length+(xT s.length).length+s.length<=9223372036854775807:=by omega
 rw[show b++Pm s=(b++xT s.length)++s by simp[Pm]];have e:cC ((b++xT s.length)++s)=cC (b++xT s.length)++cC s:=GB _ _;rw[e];refine ca rfl ?_;simp(maxSteps:=9^9) [qa,e1,w1,m1,eY]
end Gi
