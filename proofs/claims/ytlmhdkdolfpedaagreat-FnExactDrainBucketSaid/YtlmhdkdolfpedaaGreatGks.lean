/- Of this proof. -/
import Derived.Test.YtlmhdkdolfpedaaGreatGkc
import Derived.Test.YtlmhdkdolfpedaaGreatGka
set_option linter.all false
namespace Gi
open Go Go.RowKit
set_option maxHeartbeats 8000000
set_option maxRecDepth 4000
attribute [local simp] start qY dX eX fi gx fh gv gC gB sE sO sF sP sG sQ sH sR sI sS sJ sU sK sV sM sW sN sX V.cells plain dM iZ isInt isStr isBool bin ez je eA jf gy un asList L.view cy V.view viewL dd cu eD dN ee comp cV dS eV dV dC dz dA cG ct df cq cF cO cA dx du cI dD dF V.flat L.flat fb ft dK putAt thaw thawL thawT V.ow gA fk fm eB gz eC fj freezeVs freezeLs freezeL V.mut L.mut cN fI iE dj dQ cZ fK ed dE ew L.bC cT fA ep fD ej eG wp_seq wp_block dk fq eE dO eF wp_skip wp_exit wp_ret eJ eM eP eO eS eT eR dU cM L.bA cY cW cX fo dI storeD de hJ co eK cJ nI L.bE L.closed V.closed PV.bare PV.flat
def KH (xs:List Q2)(k:Nat):Bool:=match xs[k]?,xs[k-1]? with
 |some x,some y=> !(nA x.aZ)||(!(gJ x.au.fs)||(dZ 0 k&& !(dZ (wU y.aZ x.aZ) 0)))
 |_,_=>false
def gj (s:Q5):Bool:= !(jP s.a1.length (KH s.a1))&&(fU s.aG&&(!(dZ 16 s.a1.length)&&rg s.aS 0 1000000))
def kJ {s:Q5}(h:s.Ok maxLen):cf Ph cL 354 [s.v]=some (cK (gj s)):=by refine ca rfl ?_;simp +contextual (maxSteps:=9^9) [uA];refine cP dG Cl.fin [.f,.t,.f,.f,.f,.f,.t,.t,.t,.f,.f,.f,.f,.f,.f,.f,.f,.f,.f,.f,.f,.f,.f,.f,.f,.f,.f,.f,.f,.f,.f,.f,.f,.f,.f,.f,.f,.f,.f,.f,.f,.f,.f,.f,.f,.f,.f,.f,.f,.f,.f,.f,.f,.f,.f] (fun k=>[(8,ce .i64 k)]) s.a1.length (KH s.a1) rfl (by simp) (fun k hk _=> ?_) (fun _ hp=> ?_);obtain⟨q1,q2⟩:=AQ h.2.1.1 hk;obtain⟨h1,h2⟩:=h.2.1.2 _ (Zf hk);have h3:=(h.2.1.2 _ (Zf q2)).1;have e1:=oC h2;have e2:=lB h3 h1;simp +contextual (maxSteps:=9^9) [oq,KH,gj,hk,q1,q2,da h.2.1.1 hk,dw hk,Q2.e.eq_1 s.a1[k],Q2.e.eq_1 s.a1[k-1],pb h1,e1,e2];simp +contextual (maxSteps:=9^9) [oq,gj,hp,eL h.1,dR]
def pE {s:Q5}(h:s.Ok maxLen):cf Ph cL 350 [s.v]=some (cK (gj s)):=by refine ca rfl ?_;simp +contextual (maxSteps:=9^9) [uG];refine cP dG Cl.fin [.f,.t,.f,.t,.f,.f,.f,.f,.f,.f,.f,.f,.f,.f,.f,.f,.f,.f,.f,.f,.f,.f,.f,.f,.f,.f,.f,.f,.f,.f,.f,.f,.f,.f,.f,.f,.f,.f,.f,.f,.f,.f,.f,.f,.f,.f,.f,.f,.f,.f,.f,.f,.f,.f,.f,.f,.f,.f,.f,.f,.f,.f,.f,.f] (fun k=>[(3,ce .i64 k)]) s.a1.length (KH s.a1) rfl (by simp) (fun k hk _=> ?_) (fun _ hp=> ?_);obtain⟨q1,q2⟩:=AQ h.2.1.1 hk;obtain⟨h1,h2⟩:=h.2.1.2 _ (Zf hk);have h3:=(h.2.1.2 _ (Zf q2)).1;have e1:=lY h2;have e2:=lC h3 h1;simp +contextual (maxSteps:=9^9) [ot,KH,gj,hk,q1,q2,da h.2.1.1 hk,dw hk,Q2.e.eq_1 s.a1[k],Q2.e.eq_1 s.a1[k-1],pf h1,e1,e2];simp +contextual (maxSteps:=9^9) [ot,gj,hp,fR h.1,eN]
structure QG where
 hasLow:Bool
 hasHigh:Bool
 low:Y7
 high:Y7
abbrev QG.v (r:QG):V:= .agg [.pv (.bool r.hasLow), .pv (.bool r.hasHigh), .pv (.int .i64 r.low.aX), .pv (.int .i64 r.low.n), .pv (.str r.low.ad), .pv (.int .i64 r.high.aX), .pv (.int .i64 r.high.n), .pv (.str r.high.ad)]
def QG.Ok (r:QG):Prop:=r.low.Ok maxLen/\ r.high.Ok maxLen
def D6 (a b:List UInt8):Lib.compareBytes b a= -Lib.compareBytes a b:=by rw[kR a b,kR b a];have h1:=vj a b;cases h2:Op.bytesLess a b<;>cases h3:Op.bytesLess b a<;>simp[h2,h3]at h1⊢
def aap (a b:Y7):wU b a= -wU a b:=by unfold wU;rw[D6 a.ad b.ad];grind [sgn,dZ]
def isS (n:List UInt8)(x:Q5):Bool:=x.aG==n
def Dp {d:Y2}(h:d.a9.length<=maxLen)(n:List UInt8):cf Ph cL 404 [d.v,fY n]=some (ce .i64 (fO (isS n) d.a9)):=by
 have e1:=B2 (e:=Q5.e) (p:=isS n) (xs:=d.a9) (k:=410) (z:=3) (kc:=411) (caps:=[[.str n]]) rfl h (fun _=>rfl) (fun x _=>by
  refine ca rfl ?_
  simp +contextual (maxSteps:=9^9) [pL,Q5.e.eq_1,wR,isS])
 refine ca rfl ?_;simp +contextual (maxSteps:=9^9) [rp,nN,tZ,e1]
def DN {d:Y2}(h:d.a9.length<=maxLen)(n:List UInt8):cf Ph cL 400 [d.v,fY n]=some (ce .i64 (fO (isS n) d.a9)):=by refine ca rfl ?_;simp +contextual (maxSteps:=9^9) [rW];refine cP dG Cl.fin [.f,.t,.t,.f,.f,.t,.f,.f,.f,.f,.f,.f,.f,.f,.f,.f,.f,.f,.f,.f,.f,.f] (fun k=>[(5,ce .i64 k)]) d.a9.length (kE (isS n) d.a9) rfl (by simp) (fun k hk hj=> ?_) (fun hj _=> ?_);have hf:=wB hk hj;simp +contextual (maxSteps:=9^9) [mr,kE,isS,hk,hf,da h hk,dw hk,Q5.e.eq_1 d.a9[k]];simp +contextual (maxSteps:=9^9) [mr,wA hj]
def Fj (q:Y7)(x:Q2):Bool:=x.aZ.aX==q.aX&&(x.aZ.n==q.n&&x.aZ.ad==q.ad)
def xc {s:Q5}(h:s.a1.length<=maxLen)(q:Y7):cf Ph cL 188 [s.v,q.v]=some (ce .i64 (fO (Fj q) s.a1)):=by
 have e1:=B2 (e:=Q2.e) (p:=Fj q) (xs:=s.a1) (k:=215) (z:=4) (kc:=216) (caps:=[[.int .i64 q.aX, .int .i64 q.n, .str q.ad]]) rfl h (fun _=>rfl) (fun x _=>by
  refine ca rfl ?_
  simp +contextual (maxSteps:=9^9) [qq,Q2.e.eq_1,wR,Fj,t7,Ue])
 refine ca rfl ?_;simp +contextual (maxSteps:=9^9) [tu,nN,tZ,e1]
def xp {s:Q5}(h:s.a1.length<=maxLen)(q:Y7):cf Ph cL 184 [s.v,q.v]=some (ce .i64 (fO (Fj q) s.a1)):=by refine ca rfl ?_;simp +contextual (maxSteps:=9^9) [tJ];refine cP dG Cl.fin [.f,.f,.t,.t,.f,.t,.f,.f,.f,.f,.f,.f,.f,.f,.f,.f,.f,.f,.f,.f,.f,.f] (fun k=>[(5,ce .i64 k)]) s.a1.length (kE (Fj q) s.a1) rfl (by simp) (fun k hk hj=> ?_) (fun hj _=> ?_);have hf:=wB hk hj;simp +contextual (maxSteps:=9^9) [nk,kE,Fj,hk,hf,da h hk,dw hk,Q2.e.eq_1 s.a1[k],t7,Ue];simp +contextual (maxSteps:=9^9) [nk,wA hj]
def isF (n:List UInt8)(x:Q8):Bool:=x.aG==n
def vH (fs:List Q8)(n:List UInt8):Int×Bool:=match fs.find? (isF n)with
 |some x=>(x.n,true)
 |none=>(0,false)
def adD {fs:List Q8}{n:List UInt8}{k:Nat}(hk:k<fs.length)(hj:∀j,j<k->kE (isF n) fs j=false)(h:isF n fs[k]=true):vH fs n=(fs[k].n,true):=by
 have:fs.find? (isF n)=some fs[k]:=by
  rw[YT];refine⟨h,k,hk,rfl,fun j aK=> ?_⟩;have h1:j<fs.length:=by omega
  have:=hj j aK;simpa[kE,h1]using this
 simp[vH,this]
def adC {fs:List Q8}{n:List UInt8}(hj:∀j,j<fs.length->kE (isF n) fs j=false):vH fs n=(0,false):=by
 have:fs.find? (isF n)=none:=by rw[Qk];intro x hx;obtain⟨j,h1,rfl⟩:=Yb.1 hx;have:=hj j h1;simpa[kE,h1]using this
 simp[vH,this]
abbrev aeV (x:Int×Bool):V:= .b8 [(false,[.pv (.int .i64 x.1)]),(false,[.pv (.bool x.2)])]
def yl {r:X6}(h:r.fs.length<=maxLen)(n:List UInt8):cf Ph cL 217 [r.v,fY n]=some (ce .i64 (fO (isF n) r.fs)):=by
 have e1:=B2 (e:=Q8.e) (p:=isF n) (xs:=r.fs) (k:=240) (z:=2) (kc:=241) (caps:=[[.str n]]) rfl h (fun _=>rfl) (fun x _=>by
  refine ca rfl ?_
  simp +contextual (maxSteps:=9^9) [rJ,Q8.e.eq_1,wR,isF])
 refine ca rfl ?_;simp +contextual (maxSteps:=9^9) [uE,nN,tZ,e1]
def lX {r:X6}(h:r.fs.length<=maxLen)(n:List UInt8):cf Ph cL 186 [r.v,fY n]=some (aeV (vH r.fs n)):=by refine ca rfl ?_;simp +contextual (maxSteps:=9^9) [tK];refine cP dG Cl.fin [.f,.t,.t,.f,.f,.f,.t,.f,.f,.f,.f,.f,.f,.f,.f,.f,.f,.f,.f,.f,.f,.f,.f,.f,.f,.f,.f,.f] (fun k=>[(6,ce .i64 k)]) r.fs.length (kE (isF n) r.fs) rfl (by simp) (fun k hk hj=> ?_) (fun hj _=> ?_);have hf:=adD hk hj;simp +contextual (maxSteps:=9^9) [nl,kE,isF,hk,hf,da h hk,dw hk,Q8.e.eq_1 r.fs[k]];simp +contextual (maxSteps:=9^9) [nl,adC hj]
def VS (fs:List Q8)(n:List UInt8):(fO (isF n) fs= -1/\ vH fs n=(0,false)) \/∃j,∃hj:j<fs.length,fO (isF n) fs=(j:Int)/\ vH fs n=(fs[j].n,true):=by
 unfold fO vH;cases h:fs.findIdx? (isF n)with
 |none=>
  have:fs.find? (isF n)=none:=by rw[YB]at h;rw[Qk];exact fun x hx=>by simp[h x hx]
  simp[this]
 |some i=>
  rw[ZS]at h;obtain⟨h1,h2,h3⟩:=h;have:fs.find? (isF n)=some fs[i]:=by rw[YT];exact⟨h2,i,h1,rfl,fun j hj=>by simpa using h3 j hj⟩
  exact .inr ⟨i,h1,rfl,by simp[this]⟩
def lV {r:X6}(h:r.fs.length<=maxLen)(n:List UInt8):cf Ph cL 190 [r.v,fY n]=some (aeV (vH r.fs n)):=by
 have e1:=yl h n;rcases VS r.fs n with⟨h1,h2⟩|⟨j,hj,h1,h2⟩<;>rw[h1]at e1<;>rw[h2];all_goals refine ca rfl ?_
 simp +contextual (maxSteps:=9^9) [pA,e1,dZ];simp +contextual (maxSteps:=9^9) [pA,e1,dZ,hj,Q8.e.eq_1 r.fs[j]]
end Gi
namespace Gi
open Go Go.RowKit
set_option maxHeartbeats 4000000
def WN :Nat->Nat->List UInt8
 |0,_=>[]
 |f+1,n=>if n<128 then [UInt8.ofNat n]else UInt8.ofNat (n%128+128)::WN f (n/128)
def xB (n:Nat):List UInt8:=WN 6 n
def U0 :∀(f n:Nat),(WN f n).length<=f
 |0,n=>by simp[WN]
 |f+1,n=>by have:=U0 f (n/128);unfold WN;split<;>simp<;>omega
def yh (n:Nat):(xB n).length<=6:=U0 6 n
def Mx {n:Nat}(h:n<128):(xB n).length=1:=by simp[xB,WN,h]
def OP (s:List UInt8):List UInt8:=xB s.length++s
def be6 (x:Nat):List UInt8:=[UInt8.ofNat (x/1099511627776),UInt8.ofNat (x/4294967296),UInt8.ofNat (x/16777216),UInt8.ofNat (x/65536),UInt8.ofNat (x/256),UInt8.ofNat x]
def qn (k:Y7):List UInt8:=if nA k=true then UInt8.ofNat k.aX.toNat::((if k.aX=2 then []else be6 (k.n+1000000000000).toNat)++k.ad)else []
def vo {n a b:Int}:rg n a b=true↔a<=n/\ n<=b:=by simp[rg,dZ]
def xf {k:Y7}(h:nA k=true):1<=k.aX/\ k.aX<=3/\ -1000000000000<=k.n/\ k.n<=1000000000000/\ (k.aX=2->k.n=0)/\ k.ad.length<=12:=by unfold nA zk at h;simp only[Zg,vo,YL,ZB,beq_eq_false_iff_ne,beq_iff_eq]at h;obtain⟨⟨⟨⟨⟨h1,h2⟩,h3,h4⟩,h5⟩,_,h6⟩,_⟩:=h;have:=of_decide_eq_false h6;exact⟨h1,h2,h3,h4,fun q=>h5.resolve_left (fun z=>z q),by omega⟩
def Ip (k:Y7):(qn k).length<=19:=by unfold qn;split;rename_i h;have:=(xf h).2.2.2.2.2;split<;>simp[be6]<;>omega;simp
def ab3 (f:Q8):List UInt8:=OP f.aG++xB f.n.toNat
def mf (l:List Q8):List UInt8:=l.flatMap ab3
def yy (r:X6):List UInt8:=if gJ r.fs=true then xB r.fs.length++mf r.fs else []
def okF (f:Q8):Prop:=f.aG.length<=8/\ 0<=f.n/\ f.n<=1000000000000
def xU {s:List UInt8}(h:fU s=true):1<=s.length/\ s.length<=8:=by simp only[fU,vi,Zg,vo]at h;omega
def As {r:X6}(h:gJ r.fs=true):r.fs.length<=6/\ ∀f∈r.fs,okF f:=by simp only[gJ,Zg,ZB]at h;have hl:=of_decide_eq_false h.2;refine⟨by omega,fun f m=> ?_⟩;obtain⟨j,hj,rfl⟩:=Yb.1 m;have:=tq h.1 hj;simp only[Pa,hj,show j-1<r.fs.length by omega,Zk,ZR,Ya,vo]at this;have q:=xU this.1;exact⟨q.2,this.2.1.1,by omega⟩
def Ag :∀(l:List Q8),(∀f∈l,okF f)->(mf l).length<=15*l.length
 |[],h=>by simp[mf]
 |f::l,h=>by have ih:=Ag l (fun g m=>h g (by simp[m]));have h1:=(h f (by simp)).1;have h2:=Mx (n:=f.aG.length) (by omega);have h3:=yh f.n.toNat;simp only[mf,Y',ab3,OP,Zv,Zo]at ih⊢;omega
def Iq (r:X6):(yy r).length<=91:=by unfold yy;split;rename_i h;obtain⟨h1,h2⟩:=As h;have:=Ag r.fs h2;have:=Mx (n:=r.fs.length) (by omega);simp only[Zv];omega;simp
structure Raw where
 aX:Nat
 a:List UInt8
 b:List UInt8
 c:List UInt8
 d:List UInt8
structure XOp where
 aX:Int
 aF:List UInt8
 aZ:Y7
 au:X6
 aU:List UInt8
def XOp.e (x:XOp):List PV:=[.int .i64 x.aX, .str x.aF, .int .i64 x.aZ.aX, .int .i64 x.aZ.n, .str x.aZ.ad, .lst (x.au.fs.map Q8.e), .str x.aU]
abbrev XOp.v (x:XOp):V:= .agg [.pv (.int .i64 x.aX), .pv (.str x.aF), .pv (.int .i64 x.aZ.aX), .pv (.int .i64 x.aZ.n), .pv (.str x.aZ.ad), .pv (.lst (x.au.fs.map Q8.e)), .pv (.str x.aU)]
def XOp.Ok (B:Nat)(x:XOp):Prop:=nV x.aX/\ x.aF.length<=B/\ x.aZ.Ok B/\ x.au.Ok B/\ x.aU.length<=B
end Gi
namespace Gi
open Go Go.RowKit
set_option maxHeartbeats 8000000
set_option maxRecDepth 4000
attribute [local simp] start cj cS dy dX eX Opd.ev put V.cells plain dM iZ isInt isStr isBool bin ff uu ut un asList L.view cy V.view viewL dd cu eY ee comp cV dS eV dV dC dz dA cG ct df cq cF cO cA dx du cI dD dF V.flat L.flat fb ft dK putAt thaw thawL thawT freezeVs freezeLs freezeL V.mut L.mut cN cT fA ep fD ej eG wp_seq wp_block ul wp_cond wp_skip wp_exit wp_ret eJ eM eP eO eS eT eR dU cM L.bA cY cW cX it dI storeD de hJ co eK cJ nI L.bE L.closed V.closed PV.bare PV.flat
def eU {s:List UInt8}:(cC s).length=s.length:=by simp[cC]
structure Z7 (z:Nat) (R:List (List PV)):Prop where
 flat:qN R=true
 wid:(R.all fun r=>r.length==z)=true
 len:R.length<=1048576
def qP {R:List (List PV)}(h:Z7 1 R):cf Ph cL 261 [eQ R]=some (.one (.down 1 R)):=by have hf:=h.flat;have hw:=h.wid;have m:=gS (m:=R.length) (z:=1) (by have:=h.len;omega) (by omega);rw[Nat.mul_one]at m;refine ca rfl ?_;simp[rz,hf,hw,m]
def DP {R:List (List PV)}(h:Z7 4 R):cf Ph cL 489 [eQ R]=some (.one (.down 4 R)):=by have hf:=h.flat;have hw:=h.wid;have m:=gS (m:=R.length) (z:=40) (by have:=h.len;omega) (by omega);refine ca rfl ?_;simp[r9,hf,hw,m]
def p6 {B:Nat}(hB:B<=1048576){x:X6}(h:x.Ok B):cf Ph cL 242 [.agg [.pv (.lst (x.fs.map Q8.e))]]=some (.agg [.down 2 (x.fs.map Q8.e)]):=by have aq:=h;have F0:Z7 2 (x.fs.map Q8.e):=⟨ii (e:=Q8.e) (fun _=>rfl) _,fL (e:=Q8.e) (z:=2) (fun _=>rfl) _,by rw[Zr];have:=aq.1;omega⟩;have a8:=F0.flat;have aa:=F0.wid;have m0:=gS (m:=(x.fs.map Q8.e).length) (z:=24) (by have:=F0.len;omega) (by omega);generalize (x.fs.map Q8.e)=R0 at F0 a8 aa m0⊢;refine ca rfl ?_;simp[qA,a8,aa,m0]
def vu {B:Nat}(hB:B<=1048576){x:X6}(h:x.Ok B):cf Ph cL 239 [.agg [.pv (.lst (x.fs.map Q8.e))]]=some (.agg [.down 2 (x.fs.map Q8.e)]):=by have aq:=h;have F0:Z7 2 (x.fs.map Q8.e):=⟨ii (e:=Q8.e) (fun _=>rfl) _,fL (e:=Q8.e) (z:=2) (fun _=>rfl) _,by rw[Zr];have:=aq.1;omega⟩;have a8:=F0.flat;have aa:=F0.wid;have m0:=gS (m:=(x.fs.map Q8.e).length) (z:=24) (by have:=F0.len;omega) (by omega);generalize (x.fs.map Q8.e)=R0 at F0 a8 aa m0⊢;refine ca rfl ?_;simp[wv,a8,aa,m0]
def xd {B:Nat}(hB:B<=1048576){x:Q2}(h:x.Ok B):cf Ph cL 218 [.agg [.pv (.int .i64 x.aZ.aX), .pv (.int .i64 x.aZ.n), .pv (.str x.aZ.ad), .pv (.lst (x.au.fs.map Q8.e))]]=some (.agg [.pv (.int .i64 x.aZ.aX), .pv (.int .i64 x.aZ.n), .pv (.str x.aZ.ad), .down 2 (x.au.fs.map Q8.e)]):=by obtain⟨ay,al⟩:=h;have c0:=p6 hB al;refine ca rfl ?_;simp[tD,c0]
def zI {B:Nat}(hB:B<=1048576){x:Q2}(h:x.Ok B):cf Ph cL 214 [.agg [.pv (.int .i64 x.aZ.aX), .pv (.int .i64 x.aZ.n), .pv (.str x.aZ.ad), .pv (.lst (x.au.fs.map Q8.e))]]=some (.agg [.pv (.int .i64 x.aZ.aX), .pv (.int .i64 x.aZ.n), .pv (.str x.aZ.ad), .down 2 (x.au.fs.map Q8.e)]):=by obtain⟨ay,al⟩:=h;have c0:=vu hB al;refine ca rfl ?_;simp[wx,c0]
def AM {B:Nat}(hB:B<=1048576){x:Z4}(h:x.Ok B):cf Ph cL 493 [.agg [.pv (.lst (x.am.map Y8.e)), .pv (.int .i64 x.pc), .pv (.lst (x.az.map AC)), .pv (.int .i64 x.b1), .pv (.bool x.b4), .pv (.bool x.ae)]]=some (.agg [.down 4 (x.am.map Y8.e), .pv (.int .i64 x.pc), .down 1 (x.az.map AC), .pv (.int .i64 x.b1), .pv (.bool x.b4), .pv (.bool x.ae)]):=by obtain⟨ab,aD,ah,an⟩:=h;have F0:Z7 4 (x.am.map Y8.e):=⟨ii (e:=Y8.e) (fun _=>rfl) _,fL (e:=Y8.e) (z:=4) (fun _=>rfl) _,by rw[Zr];have:=ab.1;omega⟩;have a8:=F0.flat;have aa:=F0.wid;have m0:=gS (m:=(x.am.map Y8.e).length) (z:=40) (by have:=F0.len;omega) (by omega);generalize (x.am.map Y8.e)=R0 at F0 a8 aa m0⊢;have F1:Z7 1 (x.az.map AC):=⟨ii (e:=AC) (fun _=>rfl) _,fL (e:=AC) (z:=1) (fun _=>rfl) _,by rw[Zr];have:=ah.1;omega⟩;have aI:=F1.flat;have aJ:=F1.wid;have m1:=gS (m:=(x.az.map AC).length) (z:=8) (by have:=F1.len;omega) (by omega);generalize (x.az.map AC)=R1 at F1 aI aJ m1⊢;refine ca rfl ?_;simp[pR,a8,aa,m0,aI,aJ,m1]
def Hq {B:Nat}(hB:B<=1048576){x:Z4}(h:x.Ok B):cf Ph cL 477 [.agg [.pv (.lst (x.am.map Y8.e)), .pv (.int .i64 x.pc), .pv (.lst (x.az.map AC)), .pv (.int .i64 x.b1), .pv (.bool x.b4), .pv (.bool x.ae)]]=some (.agg [.down 4 (x.am.map Y8.e), .pv (.int .i64 x.pc), .down 1 (x.az.map AC), .pv (.int .i64 x.b1), .pv (.bool x.b4), .pv (.bool x.ae)]):=by obtain⟨ab,aD,ah,an⟩:=h;have c0:=DP (R:=(x.am.map Y8.e)) ⟨ii (fun _=>rfl) _,fL (z:=4) (fun _=>rfl) _,by rw[Zr];have:=ab.1;omega⟩;have F0:Z7 1 (x.az.map AC):=⟨ii (e:=AC) (fun _=>rfl) _,fL (e:=AC) (z:=1) (fun _=>rfl) _,by rw[Zr];have:=ah.1;omega⟩;have a8:=F0.flat;have aa:=F0.wid;have m0:=gS (m:=(x.az.map AC).length) (z:=8) (by have:=F0.len;omega) (by omega);generalize (x.az.map AC)=R0 at F0 a8 aa m0⊢;refine ca rfl ?_;simp[uK,c0,a8,aa,m0]
def Ff {B:Nat}(hB:B<=1048576){x:X8}(h:x.Ok B):cf Ph cL 479 [.agg [.pv (.int .i64 x.id), .pv (.str x.aP), .pv (.str x.av), .pv (.int .i64 x.aC), .pv (.lst (x.ai.map Y4.e)), .pv (.lst (x.aR.am.map Y8.e)), .pv (.int .i64 x.aR.pc), .pv (.lst (x.aR.az.map AC)), .pv (.int .i64 x.aR.b1), .pv (.bool x.aR.b4), .pv (.bool x.aR.ae)]]=some (.agg [.pv (.int .i64 x.id), .pv (.str x.aP), .pv (.str x.av), .pv (.int .i64 x.aC), .down 2 (x.ai.map Y4.e), .down 4 (x.aR.am.map Y8.e), .pv (.int .i64 x.aR.pc), .down 1 (x.aR.az.map AC), .pv (.int .i64 x.aR.b1), .pv (.bool x.aR.b4), .pv (.bool x.aR.ae)]):=by obtain⟨aH,ar,aA,a6,af,a7⟩:=h;have c0:=AM hB a7;have F0:Z7 2 (x.ai.map Y4.e):=⟨ii (e:=Y4.e) (fun _=>rfl) _,fL (e:=Y4.e) (z:=2) (fun _=>rfl) _,by rw[Zr];have:=af.1;omega⟩;have a8:=F0.flat;have aa:=F0.wid;have m0:=gS (m:=(x.ai.map Y4.e).length) (z:=24) (by have:=F0.len;omega) (by omega);generalize (x.ai.map Y4.e)=R0 at F0 a8 aa m0⊢;refine ca rfl ?_;simp[tE,c0,a8,aa,m0]
def Hu {B:Nat}(hB:B<=1048576){x:X8}(h:x.Ok B):cf Ph cL 451 [.agg [.pv (.int .i64 x.id), .pv (.str x.aP), .pv (.str x.av), .pv (.int .i64 x.aC), .pv (.lst (x.ai.map Y4.e)), .pv (.lst (x.aR.am.map Y8.e)), .pv (.int .i64 x.aR.pc), .pv (.lst (x.aR.az.map AC)), .pv (.int .i64 x.aR.b1), .pv (.bool x.aR.b4), .pv (.bool x.aR.ae)]]=some (.agg [.pv (.int .i64 x.id), .pv (.str x.aP), .pv (.str x.av), .pv (.int .i64 x.aC), .down 2 (x.ai.map Y4.e), .down 4 (x.aR.am.map Y8.e), .pv (.int .i64 x.aR.pc), .down 1 (x.aR.az.map AC), .pv (.int .i64 x.aR.b1), .pv (.bool x.aR.b4), .pv (.bool x.aR.ae)]):=by obtain⟨aH,ar,aA,a6,af,a7⟩:=h;have c0:=Hq hB a7;have F0:Z7 2 (x.ai.map Y4.e):=⟨ii (e:=Y4.e) (fun _=>rfl) _,fL (e:=Y4.e) (z:=2) (fun _=>rfl) _,by rw[Zr];have:=af.1;omega⟩;have a8:=F0.flat;have aa:=F0.wid;have m0:=gS (m:=(x.ai.map Y4.e).length) (z:=24) (by have:=F0.len;omega) (by omega);generalize (x.ai.map Y4.e)=R0 at F0 a8 aa m0⊢;refine ca rfl ?_;simp[uO,c0,a8,aa,m0]
def j9 (b0 b1:Q0)(y0:L)(y2:L)(rows:List (List PV)):Nat->List Q0
 |0=>[b0,b1, .box [y0, .nil,y2]]
 |k+1=>[b0,b1, .box [y0, .arr 3,y2], .b9 4 (rows.take (k+1))]
def jH {B:Nat}(hB:B<=1048576){x:Q5}(h:x.Ok B):cf Ph cL 191 [.agg [.pv (.str x.aG), .pv (.lst (x.a1.map Q2.e)), .pv (.int .i64 x.aS)]]=some (.agg [.pv (.str x.aG),nd 4 (x.a1.map Q2.e), .pv (.int .i64 x.aS)]):=by
 obtain⟨aj,a5,aw⟩:=h;have e1:∀k(hk:k<x.a1.length),_:=fun k hk=>xd hB (a5.2 _ (Zf hk));have hl:x.a1.length<=1048576:=Zc a5.1 hB;refine ca rfl ?_;simp[rH];refine fB dG Cl.fin x.a1.length [.f,.f,.t,.t,.f,.f,.f,.f,.f,.f,.f,.f,.t,.t,.t,.f,.f,.f,.f,.f,.f,.f,.f,.f,.f,.f,.f] (fun k=>[(14,ce .i64 k)]) (j9 (.box [.pv (.str x.aG), .pv (.lst (x.a1.map Q2.e)), .pv (.int .i64 x.aS)]) (.box [.pv (.str []), .nil, .pv (.int .i64 0)]) (.pv (.str x.aG)) (.pv (.int .i64 x.aS)) (x.a1.map Q2.e)) rfl ?_ ?_ ?_;exact Kn.q [0,1,2] (by simp[j9,cY,cW,cX,it,dI,dj,dQ,cZ,fK,ed,dE,ew,L.bC,cO]);intro k hk;have ek:=e1 k hk;have hx:=Q2.e.eq_1 x.a1[k];have ht:=fG (e:=Q2.e) hk;rw[hx]at ht;cases k with
 |zero=>simp only[j9,ht];simp[jm,hk,hx,ek,fH];exact Kn.q [0,1,2,6]
 |succ k=>
  obtain⟨i1,i2,i3,i4,i5,i6⟩:=sZ (n:=x.a1.length) (by unfold maxLen;omega) hk;have b1:min (k+1) x.a1.length=k+1:=by omega
  have m1:=gS (m:=k+1+1) (z:=56) (by omega) (by omega);simp only[j9,ht];generalize hT:List.take (k+1) _=T;have ao:T.length=k+1:=by rw[<-hT];simp;omega
  simp[jm,hk,hx,ek,i1,i2,i3,i4,i5,i6,ao,m1];exact Kn.q [0,1,2,7]
 cases hq:x.a1 with
 |nil=>simp[jm,j9,nd]
 |cons q qs=>have hT:(x.a1.map Q2.e).take (qs.length+1)=x.a1.map Q2.e:=Zs (by rw[hq];simp);rw[hq]at hT;simp only[Zo,j9,hT];simp[jm,nd]
def mS (b0 b1:Q0)(y0:L)(y2:L)(rows:List (List PV)):Nat->List Q0
 |0=>[b0,b1, .box [y0, .nil,y2]]
 |k+1=>[b0,b1, .box [y0, .arr 3,y2], .b9 4 (rows.take (k+1))]
def lZ {B:Nat}(hB:B<=1048576){x:Q5}(h:x.Ok B):cf Ph cL 187 [.agg [.pv (.str x.aG), .pv (.lst (x.a1.map Q2.e)), .pv (.int .i64 x.aS)]]=some (.agg [.pv (.str x.aG),nd 4 (x.a1.map Q2.e), .pv (.int .i64 x.aS)]):=by
 obtain⟨aj,a5,aw⟩:=h;have e1:∀k(hk:k<x.a1.length),_:=fun k hk=>zI hB (a5.2 _ (Zf hk));have hl:x.a1.length<=1048576:=Zc a5.1 hB;refine ca rfl ?_;simp[ww];refine fB dG Cl.fin x.a1.length [.f,.t,.t,.t,.t,.f,.f,.f,.f,.f,.f,.f,.f,.f,.f,.f,.f,.f,.f,.f,.f,.f,.f,.f,.f,.f,.f,.f,.f] (fun k=>[(4,ce .i64 k)]) (mS (.box [.pv (.str x.aG), .pv (.lst (x.a1.map Q2.e)), .pv (.int .i64 x.aS)]) (.box [.pv (.str []), .nil, .pv (.int .i64 0)]) (.pv (.str x.aG)) (.pv (.int .i64 x.aS)) (x.a1.map Q2.e)) rfl ?_ ?_ ?_;exact Kn.q [0,1,2] (by simp[mS,cY,cW,cX,it,dI,dj,dQ,cZ,fK,ed,dE,ew,L.bC,cO]);intro k hk;have ek:=e1 k hk;have hx:=Q2.e.eq_1 x.a1[k];have ht:=fG (e:=Q2.e) hk;rw[hx]at ht;cases k with
 |zero=>simp only[mS,ht];simp[kF,hk,hx,ek,fH];exact Kn.q [0,1,2,5]
 |succ k=>
  obtain⟨i1,i2,i3,i4,i5,i6⟩:=sZ (n:=x.a1.length) (by unfold maxLen;omega) hk;have b1:min (k+1) x.a1.length=k+1:=by omega
  have m1:=gS (m:=k+1+1) (z:=56) (by omega) (by omega);simp only[mS,ht];generalize hT:List.take (k+1) _=T;have ao:T.length=k+1:=by rw[<-hT];simp;omega
  simp[kF,hk,hx,ek,i1,i2,i3,i4,i5,i6,ao,m1];exact Kn.q [0,1,2,6]
 cases hq:x.a1 with
 |nil=>simp[kF,mS,nd]
 |cons q qs=>have hT:(x.a1.map Q2.e).take (qs.length+1)=x.a1.map Q2.e:=Zs (by rw[hq];simp);rw[hq]at hT;simp only[Zo,mS,hT];simp[kF,nd]
def iV (b0 b1:Q0)(nm:List UInt8)(aB:Int)(U rows:List (List PV)):Nat->List Q0
 |0=>[b0,b1, .box [.pv (.str nm), .pv (.int .i64 aB), .nil, .arr 3], .b9 2 U]
 |k+1=>[b0,b1, .box [.pv (.str nm), .pv (.int .i64 aB), .arr 4, .arr 3], .b9 2 U, .b9 3 (rows.take (k+1))]
def zg {B:Nat}(hB:B<=1048576){x:Y2}(h:x.Ok B):cf Ph cL 498 [.agg [.pv (.str x.aG), .pv (.int .i64 x.aC), .pv (.lst (x.a9.map Q5.e)), .pv (.lst (x.aE.map Q9.e))]]=some (.agg [.pv (.str x.aG), .pv (.int .i64 x.aC),nd 3 (x.a9.map Q5.e), .down 2 (x.aE.map Q9.e)]):=by
 obtain⟨aj,a6,a2,ag⟩:=h;have F0:Z7 2 (x.aE.map Q9.e):=⟨ii (e:=Q9.e) (fun _=>rfl) _,fL (e:=Q9.e) (z:=2) (fun _=>rfl) _,by rw[Zr];have:=ag.1;omega⟩;have a8:=F0.flat;have aa:=F0.wid;have m0:=gS (m:=(x.aE.map Q9.e).length) (z:=32) (by have:=F0.len;omega) (by omega);generalize (x.aE.map Q9.e)=R0 at F0 a8 aa m0⊢;have e1:∀k(hk:k<x.a9.length),_:=fun k hk=>jH hB (a2.2 _ (Zf hk));have hl:x.a9.length<=1048576:=Zc a2.1 hB;refine ca rfl ?_;simp[oQ,a8,aa,m0];refine fB dG Cl.fin x.a9.length [.f,.f,.t,.t,.f,.f,.f,.f,.f,.f,.f,.f,.f,.f,.f,.f,.t,.t,.t,.f,.f,.f,.f,.f,.f,.f,.f,.f,.f,.f,.f] (fun k=>[(18,ce .i64 k)]) (iV (.box [.pv (.str x.aG), .pv (.int .i64 x.aC), .pv (.lst (x.a9.map Q5.e)), .pv (.lst R0)]) (.box [.pv (.str []), .pv (.int .i64 0), .nil, .nil]) x.aG x.aC R0 (x.a9.map Q5.e)) rfl ?_ ?_ ?_;exact Kn.q [0,1,2,3] (by simp[iV,cY,cW,cX,it,dI,dj,dQ,cZ,fK,ed,dE,ew,L.bC,cO]);intro k hk;have ek:=e1 k hk;have hx:=Q5.e.eq_1 x.a9[k];have ht:=fG (e:=Q5.e) hk;rw[hx]at ht;have N0:=fJ 4 (x.a9[k].a1.map Q2.e);generalize nd 4 (x.a9[k].a1.map Q2.e)=n0 at N0 ek;cases k with
 |zero=>simp only[iV,ht];rcases N0 with⟨q0,rfl⟩|⟨q0,rfl⟩;simp only[q0]at ek;simp[f7,hk,hx,ek,fH,q0];exact Kn.q [0,1,2,3,6];simp[f7,hk,hx,ek,fH];exact Kn.q [0,1,2,3,7]
 |succ k=>
  obtain⟨i1,i2,i3,i4,i5,i6⟩:=sZ (n:=x.a9.length) (by unfold maxLen;omega) hk;have b1:min (k+1) x.a9.length=k+1:=by omega
  have m1:=gS (m:=k+1+1) (z:=48) (by omega) (by omega);simp only[iV,ht];generalize hT:List.take (k+1) _=T;have ao:T.length=k+1:=by rw[<-hT];simp;omega
  rcases N0 with⟨q0,rfl⟩|⟨q0,rfl⟩;simp only[q0]at ek;simp[f7,hk,hx,ek,i1,i2,i3,i4,i5,i6,ao,m1,q0];exact Kn.q [0,1,2,3,7];simp[f7,hk,hx,ek,i1,i2,i3,i4,i5,i6,ao,m1];exact Kn.q [0,1,2,3,8]
 cases hq:x.a9 with
 |nil=>simp[f7,iV,nd]
 |cons q qs=>have hT:(x.a9.map Q5.e).take (qs.length+1)=x.a9.map Q5.e:=Zs (by rw[hq];simp);rw[hq]at hT;simp only[Zo,iV,hT];simp[f7,nd]
def mU (b0 b1:Q0)(nm:List UInt8)(aB:Int)(U rows:List (List PV)):Nat->List Q0
 |0=>[b0,b1, .box [.pv (.str nm), .pv (.int .i64 aB), .nil, .arr 3], .b9 2 U]
 |k+1=>[b0,b1, .box [.pv (.str nm), .pv (.int .i64 aB), .arr 4, .arr 3], .b9 2 U, .b9 3 (rows.take (k+1))]
def J6 {B:Nat}(hB:B<=1048576){x:Y2}(h:x.Ok B):cf Ph cL 496 [.agg [.pv (.str x.aG), .pv (.int .i64 x.aC), .pv (.lst (x.a9.map Q5.e)), .pv (.lst (x.aE.map Q9.e))]]=some (.agg [.pv (.str x.aG), .pv (.int .i64 x.aC),nd 3 (x.a9.map Q5.e), .down 2 (x.aE.map Q9.e)]):=by
 obtain⟨aj,a6,a2,ag⟩:=h;have F0:Z7 2 (x.aE.map Q9.e):=⟨ii (e:=Q9.e) (fun _=>rfl) _,fL (e:=Q9.e) (z:=2) (fun _=>rfl) _,by rw[Zr];have:=ag.1;omega⟩;have a8:=F0.flat;have aa:=F0.wid;have m0:=gS (m:=(x.aE.map Q9.e).length) (z:=32) (by have:=F0.len;omega) (by omega);generalize (x.aE.map Q9.e)=R0 at F0 a8 aa m0⊢;have e1:∀k(hk:k<x.a9.length),_:=fun k hk=>lZ hB (a2.2 _ (Zf hk));have hl:x.a9.length<=1048576:=Zc a2.1 hB;refine ca rfl ?_;simp[wz,a8,aa,m0];refine fB dG Cl.fin x.a9.length [.f,.t,.t,.t,.t,.f,.f,.f,.f,.f,.f,.f,.f,.f,.f,.f,.f,.f,.f,.f,.f,.f,.f,.f,.f,.f,.f,.f,.f,.f,.f,.f,.f] (fun k=>[(4,ce .i64 k)]) (mU (.box [.pv (.str x.aG), .pv (.int .i64 x.aC), .pv (.lst (x.a9.map Q5.e)), .pv (.lst R0)]) (.box [.pv (.str []), .pv (.int .i64 0), .nil, .nil]) x.aG x.aC R0 (x.a9.map Q5.e)) rfl ?_ ?_ ?_;exact Kn.q [0,1,2,3] (by simp[mU,cY,cW,cX,it,dI,dj,dQ,cZ,fK,ed,dE,ew,L.bC,cO]);intro k hk;have ek:=e1 k hk;have hx:=Q5.e.eq_1 x.a9[k];have ht:=fG (e:=Q5.e) hk;rw[hx]at ht;have N0:=fJ 4 (x.a9[k].a1.map Q2.e);generalize nd 4 (x.a9[k].a1.map Q2.e)=n0 at N0 ek;cases k with
 |zero=>simp only[mU,ht];rcases N0 with⟨q0,rfl⟩|⟨q0,rfl⟩;simp only[q0]at ek;simp[iX,hk,hx,ek,fH,q0];exact Kn.q [0,1,2,3,5];simp[iX,hk,hx,ek,fH];exact Kn.q [0,1,2,3,6]
 |succ k=>
  obtain⟨i1,i2,i3,i4,i5,i6⟩:=sZ (n:=x.a9.length) (by unfold maxLen;omega) hk;have b1:min (k+1) x.a9.length=k+1:=by omega
  have m1:=gS (m:=k+1+1) (z:=48) (by omega) (by omega);simp only[mU,ht];generalize hT:List.take (k+1) _=T;have ao:T.length=k+1:=by rw[<-hT];simp;omega
  rcases N0 with⟨q0,rfl⟩|⟨q0,rfl⟩;simp only[q0]at ek;simp[iX,hk,hx,ek,i1,i2,i3,i4,i5,i6,ao,m1,q0];exact Kn.q [0,1,2,3,6];simp[iX,hk,hx,ek,i1,i2,i3,i4,i5,i6,ao,m1];exact Kn.q [0,1,2,3,7]
 cases hq:x.a9 with
 |nil=>simp[iX,mU,nd]
 |cons q qs=>have hT:(x.a9.map Q5.e).take (qs.length+1)=x.a9.map Q5.e:=Zs (by rw[hq];simp);rw[hq]at hT;simp only[Zo,mU,hT];simp[iX,nd]
end Gi
namespace Gi
open Go Go.RowKit
set_option maxHeartbeats 8000000
set_option maxRecDepth 4000
attribute [local simp] start qY dX eX fi gx fh gv gC gB sE sO sF sP sG sQ sH sR sI sS sJ sU sK sV sM sW sN sX V.cells plain dM iZ isInt isStr isBool bin ez je eA jf gy un asList L.view cy V.view viewL dd cu eD dN ee comp cV dS eV dV dC dz dA cG ct df cq cF cO cA dx du cI dD dF V.flat L.flat fb ft dK putAt thaw thawL thawT V.ow gA fk fm eB gz eC fj freezeVs freezeLs freezeL V.mut L.mut cN fI iE dj dQ cZ fK ed dE ew L.bC cT fA ep fD ej eG wp_seq wp_block dk fq eE dO eF wp_skip wp_exit wp_ret eJ eM eP eO eS eT eR dU cM L.bA cY cW cX fo dI storeD de hJ co eK cJ nI L.bE L.closed V.closed PV.bare PV.flat
def T2 {call:Nat->List V->Option V}{Q:Ex->St->Prop}{ks:List Fr}(hc:vG call)(hQ:Cl Q){c:Q6}{t:List V}{h:List Q0}{α:Type}(m:List Mk)(U:α->List (Nat×V))(H:α->List Q0)(next:α->Option α)(μ:α->Nat)(I:α->Prop)(a0:α)(i0:I a0)(hz:(c.bh&&kz ks)=true)(kn:Kn ⟨qZ (kW m t) (U a0),H a0⟩ ⟨t,h⟩)
 (st:∀a b,I a->next a=some b->μ b<μ a/\ I b/\ wp call (fun e X=>e= .normal/\ Kn ⟨qZ (kW m t) (U b),H b⟩ X) [] (cD call cR c ⟨qZ (kW m t) (U a),H a⟩))
 (en:∀a,I a->next a=none->wp call Q (.sq yv::ks) (cD call cR c ⟨qZ (kW m t) (U a),H a⟩)):wp call Q ks (cD call cR (.loop c) ⟨t,h⟩):=by
 have key:∀n a,μ a<=n->I a->wp call Q ks (cD call cR (.loop c) ⟨qZ (kW m t) (U a),H a⟩):=by
  intro n;induction n with
  |zero=>
   intro a hn ia;cases q:next a with
   |none=>exact xi (en a ia q)
   |some b=>have:=(st a b ia q).1;omega
  |succ n ih=>
   intro a hn ia;cases q:next a with
   |none=>exact xi (en a ia q)
   |some b=>obtain⟨h1,h2,h3⟩:=st a b ia q;exact Fq hc hQ hz h3 (ih b (by omega) h2)
 have aL:kz (.sq (.loop c)::ks)=true:=by simpa only[kz,Q6.bh]using hz
 exact OK hc hQ ⟨qZ (kW m t) (U a0),H a0⟩ aL kn (key _ a0 (Zi _) i0)
def OI {n:Nat}(h:n<256):IntKind.u8.wrap (n:Int)=(n:Int)/\ (UInt8.ofNat n).toNat=n:=by refine⟨?_,by simp;omega⟩;simp[IntKind.wrap,IntKind.signed,IntKind.bits];omega
def adq {n:Nat}(h:n<4611686018427387904):IntKind.i64.wrap ((BitVec.ofInt IntKind.i64.bits (n:Int)&&&BitVec.ofInt IntKind.i64.bits 127).toNat:Int)=((n%128:Nat):Int):=by
 have e1:(BitVec.ofInt IntKind.i64.bits (n:Int)).toNat=n:=by show(BitVec.ofInt 64 (n:Int)).toNat=n;simp[BitVec.toNat_ofInt];omega
 have e2:(BitVec.ofInt IntKind.i64.bits 127).toNat=127:=by decide
 rw[BitVec.toNat_and,e1,e2,show(127:Nat)=2^7-1 from rfl,Qu];rw[IntKind.wrap_i64];omega
def aeI {n:Nat}(h:n<128):IntKind.i64.wrap ((BitVec.ofInt IntKind.i64.bits (n:Int)|||BitVec.ofInt IntKind.i64.bits 128).toNat:Int)=((n+128:Nat):Int):=by
 have e1:(BitVec.ofInt IntKind.i64.bits (n:Int)).toNat=n:=by show(BitVec.ofInt 64 (n:Int)).toNat=n;simp[BitVec.toNat_ofInt];omega
 have e2:(BitVec.ofInt IntKind.i64.bits 128).toNat=128:=by decide
 have e3:=Nat.two_pow_add_eq_or_of_lt (i:=7) (b:=n) (by omega) 1;rw[BitVec.toNat_or,e1,e2,Nat.or_comm,show(128:Nat)=2^7*1 from rfl,<-e3];rw[IntKind.wrap_i64];omega
def oD (s:List UInt8)(x:UInt8):cC (s++[x])=cC s++[[.int .u8 x.toNat]]:=by simp[cC]
def FM (a:Nat×Nat×List UInt8):Option (Nat×Nat×List UInt8):=if a.2.1<128 then none else match a.1 with
 |0=>none
 |f+1=>some (f,a.2.1/128,a.2.2++[UInt8.ofNat (a.2.1%128+128)])
def uvI (b T:List UInt8)(a:Nat×Nat×List UInt8):Prop:=a.2.1<128^(a.1+1)/\ a.2.2++WN (a.1+1) a.2.1=T/\ a.2.2.length+a.1<=b.length+5/\ a.2.1<=1000000000000
def Sm {b T:List UInt8}{f m:Nat}{o:List UInt8}{a':Nat×Nat×List UInt8}(ia:uvI b T (f,m,o))(h:FM (f,m,o)=some a'):128<=m/\ uvI b T a'/\ (a':Nat×Nat×List UInt8)=(f-1,m/128,o++[UInt8.ofNat (m%128+128)]):=by
 obtain⟨h1,h2,h3,h4⟩:=ia;unfold FM at h;simp only at h h1 h2 h3 h4;split at h;cases h;rename_i hm;cases f with
 |zero=>cases h
 |succ f=>cases h;refine⟨by omega,⟨?_,?_,by simp;omega,by simp only;omega⟩,rfl⟩;show m/128<128^(f+1);rw[YY (by decide),<-Nat.pow_succ];exact h1;rw[<-h2];show(o++[UInt8.ofNat (m%128+128)])++WN (f+1) (m/128)=o++WN (f+1+1) m;rw[show WN (f+1+1) m=UInt8.ofNat (m%128+128)::WN (f+1) (m/128) by rw[WN,if_neg hm]];simp
def U1 {b T:List UInt8}{f m:Nat}{o:List UInt8}(ia:uvI b T (f,m,o))(h:FM (f,m,o)=none):m<128/\ o++[UInt8.ofNat m]=T:=by
 obtain⟨h1,h2,_⟩:=ia;unfold FM at h;simp only at h h1 h2;split at h;rename_i hm;exact⟨hm,by rw[<-h2,WN,if_pos hm]⟩;rename_i hm;cases f with
 |zero=>simp at h1;omega
 |succ f=>cases h
def na {b:List UInt8}(hb:b.length<=1048000){n:Nat}(hn:n<=1000000000000):cf Ph cL 247 [eQ (cC b),ce .i64 (n:Int)]=some (.one (.own 1 (cC (b++xB n)))):=by
 have e1:rg (n:Int) 0 1000000000000=true:=vo.2 ⟨by omega,by omega⟩;have e2:=dR (n:Int) 0 1000000000000;rw[e1]at e2;have e3:=qP (R:=cC b) ⟨uZ b,mW b,by rw[eU];omega⟩;refine ca rfl ?_;simp(maxSteps:=9^9) [nO,e2,e3];refine T2 dG Cl.fin [.f,.t,.f,.f,.f,.t,.f,.f,.f,.f,.f,.f,.f,.f,.f,.f,.f,.f,.f,.f,.f,.f,.f,.f,.f,.f,.f,.f] (fun a=>[(1,ce .i64 (a.2.1:Nat)),(5, .one (.arr 0))]) (fun a=>[.arr 1 (cC a.2.2)]) FM (fun a=>a.2.1) (uvI b (b++xB n)) (5,n,b) ⟨by show n<128^6;omega,rfl,by simp,hn⟩ rfl (by simp) (fun a a' ia ha=> ?_) (fun a ia ha=> ?_);obtain⟨f,m,o⟩:=a;obtain⟨hm,hi,rfl⟩:=Sm ia ha;obtain⟨_,_,hl,ax⟩:=ia;simp only at hl ax;have hlt:dZ (m:Int) 128=false:=iN (by omega);have ak:dZ 127 (m:Int)=true:=ji (by omega);have q:=OI (n:=m%128+128) (by omega);have m1:o.length<=140737488355327/\ o.length<=9223372036854775806:=by omega
 have m2:=gS (m:=o.length+1) (z:=1) (by omega) (by omega);have r1:(m:Int).tmod 128=(m:Int)%128:=Int.tmod_eq_emod_of_nonneg (by omega);have r2:(m:Int).tdiv 128=(m:Int)/128:=Int.tdiv_eq_ediv_of_nonneg (by omega);have r3:IntKind.i64.wrap ((m:Int)%128+128)=(m:Int)%128+128:=by rw[IntKind.wrap_i64];omega
 have r4:IntKind.i64.wrap ((m:Int)/128)=(m:Int)/128:=by rw[IntKind.wrap_i64];omega
 have r5:IntKind.u8.wrap ((m:Int)%128+128)=(m:Int)%128+128:=by have:=q.1;simpa using this
 have r6:((m:Int)%128+128)%256=(m:Int)%128+128:=by omega
 refine⟨by show m/128<m;omega,hi,?_⟩;simp(maxSteps:=9^9) [jY,hlt,ak,r1,r2,r3,r4,r5,m1,m2,oD,eU,-fI];exact Kn.of [2] (by decide) (by simp[oD,r5,r6]) (by simp[r4]);obtain⟨f,m,o⟩:=a;obtain⟨hm,hi⟩:=U1 ia ha;obtain⟨_,_,hl,ax⟩:=ia;simp only at hl ax;have hlt:dZ (m:Int) 128=true:=ji (by omega);have ak:dZ 127 (m:Int)=false:=iN (by omega);have q:=OI (n:=m) (by omega);have m1:o.length<=140737488355327/\ o.length<=9223372036854775806:=by omega
 have m2:=gS (m:=o.length+1) (z:=1) (by omega) (by omega);rw[<-hi];simp(maxSteps:=9^9) [jY,hlt,ak,q,m1,m2,oD,eU]
def afx (m:Nat):qi .shr .i64 (m:Int) 7=some (ce .i64 ((m:Int)/128)):=by
 have e:(min (Int.toNat 7) IntKind.i64.bits)=7:=by decide
 simp only[qi];rw[if_neg (by omega)];simp only[e];rw[show((2:Int)^7)=128 by decide,Int.fdiv_eq_ediv_of_nonneg _ (by omega)]
def nf {b:List UInt8}(hb:b.length<=1048000){n:Nat}(hn:n<=1000000000000):cf Ph cL 244 [eQ (cC b),ce .i64 (n:Int)]=some (.one (.own 1 (cC (b++xB n)))):=by
 have e1:rg (n:Int) 0 1000000000000=true:=vo.2 ⟨by omega,by omega⟩;have e2:=eN (n:Int) 0 1000000000000;rw[e1]at e2;have w1:=mW b;have m0:b.length<=140737488355328/\ b.length<=9223372036854775807:=by omega
 refine ca rfl ?_;simp(maxSteps:=9^9) [nS,e2,w1,m0,eU];refine T2 dG Cl.fin [.f,.t,.f,.f,.f,.t,.f,.f,.f,.f,.f,.f,.f,.f,.f,.f,.f,.f,.f,.f,.f,.f,.f,.f,.f,.f,.f,.f,.f] (fun a=>[(1,ce .i64 (a.2.1:Nat)),(5, .one (.arr 0))]) (fun a=>[.arr 1 (cC a.2.2)]) FM (fun a=>a.2.1) (uvI b (b++xB n)) (5,n,b) ⟨by show n<128^6;omega,rfl,by simp,hn⟩ rfl (Kn.of [1] (by decide) (by simp) (by simp)) (fun a a' ia ha=> ?_) (fun a ia ha=> ?_);obtain⟨f,m,o⟩:=a;obtain⟨hm,hi,rfl⟩:=Sm ia ha;obtain⟨_,_,hl,ax⟩:=ia;simp only at hl ax;have hlt:dZ (m:Int) 128=false:=iN (by omega);have ak:dZ 127 (m:Int)=true:=ji (by omega);have q:=OI (n:=m%128+128) (by omega);have m1:o.length<=140737488355327/\ o.length<=9223372036854775806:=by omega
 have m2:=gS (m:=o.length+1) (z:=1) (by omega) (by omega);have r1:=adq (n:=m) (by omega);have r2:=afx m;have r3:=aeI (n:=m%128) (by omega);have e:((m%128:Nat):Int)=(m:Int)%128:=by omega
 have e':((m%128+128:Nat):Int)=(m:Int)%128+128:=by omega
 rw[e]at r1 r3;rw[e']at r3;have r4:IntKind.i64.wrap ((m:Int)/128)=(m:Int)/128:=by rw[IntKind.wrap_i64];omega
 have r5:IntKind.u8.wrap ((m:Int)%128+128)=(m:Int)%128+128:=by have:=q.1;simpa using this
 have r6:((m:Int)%128+128)%256=(m:Int)%128+128:=by omega
 refine⟨by show m/128<m;omega,hi,?_⟩;simp(maxSteps:=9^9) [jZ,hlt,ak, ↓r1,r2, ↓r3,r4,r5,m1,m2,oD,eU,-fI];exact Kn.of [2] (by decide) (by simp[oD,r5,r6]) (by simp[r4]);obtain⟨f,m,o⟩:=a;obtain⟨hm,hi⟩:=U1 ia ha;obtain⟨_,_,hl,ax⟩:=ia;simp only at hl ax;have hlt:dZ (m:Int) 128=true:=ji (by omega);have ak:dZ 127 (m:Int)=false:=iN (by omega);have q:=OI (n:=m) (by omega);have m1:o.length<=140737488355327/\ o.length<=9223372036854775806:=by omega
 have m2:=gS (m:=o.length+1) (z:=1) (by omega) (by omega);rw[<-hi];simp(maxSteps:=9^9) [jZ,hlt,ak,q,m1,m2,oD,eU]
def Gd (s u:List UInt8):cC (s++u)=cC s++cC u:=by simp[cC]
def AD {b s:List UInt8}(hb:b.length<=1048000)(hs:s.length<=1048576):cf Ph cL 248 [eQ (cC b),eQ (cC s)]=some (.one (.own 1 (cC (b++OP s)))):=by
 have e1:=na hb (n:=s.length) (by omega);have w1:=mW s;have hl:=yh s.length;have m1:b.length+(xB s.length).length+s.length<=140737488355328/\ b.length+(xB s.length).length+s.length<=9223372036854775807:=by omega
 rw[show b++OP s=(b++xB s.length)++s by simp[OP]];have e:cC ((b++xB s.length)++s)=cC (b++xB s.length)++cC s:=Gd _ _;rw[e];refine ca rfl ?_;simp(maxSteps:=9^9) [pI,e1,w1,m1,eU]
def AU {b s:List UInt8}(hb:b.length<=1048000)(hs:s.length<=1048576):cf Ph cL 245 [eQ (cC b),eQ (cC s)]=some (.one (.own 1 (cC (b++OP s)))):=by
 have e1:=nf hb (n:=s.length) (by omega);have w1:=mW s;have hl:=yh s.length;have m1:b.length+(xB s.length).length+s.length<=140737488355328/\ b.length+(xB s.length).length+s.length<=9223372036854775807:=by omega
 rw[show b++OP s=(b++xB s.length)++s by simp[OP]];have e:cC ((b++xB s.length)++s)=cC (b++xB s.length)++cC s:=Gd _ _;rw[e];refine ca rfl ?_;simp(maxSteps:=9^9) [pW,e1,w1,m1,eU]
end Gi
