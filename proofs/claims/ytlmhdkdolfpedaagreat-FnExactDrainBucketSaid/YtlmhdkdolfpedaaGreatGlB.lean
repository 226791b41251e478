/- Of this proof. -/
import Derived.Test.YtlmhdkdolfpedaaGreatGks
import Derived.Test.YtlmhdkdolfpedaaGreatGka
set_option linter.all false
namespace Gi
open Go Go.RowKit
set_option maxHeartbeats 8000000
set_option maxRecDepth 4000
attribute [local simp] start qY dX eX fi gx fh gv gC gB sE sO sF sP sG sQ sH sR sI sS sJ sU sK sV sM sW sN sX V.cells plain dM iZ isInt isStr isBool bin ez je eA jf gy un asList L.view cy V.view viewL dd cu eD dN ee comp cV dS eV dV dC dz dA cG ct df cq cF cO cA dx du cI dD dF V.flat L.flat fb ft dK putAt thaw thawL thawT V.ow gA fk fm eB gz eC fj freezeVs freezeLs freezeL V.mut L.mut cN fI iE dj dQ cZ fK ed dE ew L.bC cT fA ep fD ej eG wp_seq wp_block dk fq eE dO eF wp_skip wp_exit wp_ret eJ eM eP eO eS eT eR dU cM L.bA cY cW cX fo dI storeD de hJ co eK cJ nI L.bE L.closed V.closed PV.bare PV.flat
def FW (r:X6):V:=cond (gJ r.fs) (eQ (cC (yy r))) (.one (.own 1 []))
def JY (r:X6):fb (FW r)=eQ (cC (yy r)):=by unfold FW;cases c:gJ r.fs;simp[yy,c,fb,ft,cC];rfl
def yZ {r:X6}(h:r.Ok maxLen):cf Ph cL 226 [r.v]=some (FW r):=by
 have e1:=oC h;unfold FW;refine ca rfl ?_;cases c1:gJ r.fs<;>rw[c1]at e1;simp(maxSteps:=9^9) [ly,e1];obtain⟨hf,ho⟩:=As (r:=r) c1;have e2:=na (b:=[]) (by simp) (n:=r.fs.length) (by omega);rw[Zj,show cC []=[]from rfl]at e2;simp(maxSteps:=9^9) [ly,e1,e2];refine cP dG Cl.fin [.f,.f,.f,.t,.f,.f,.f,.f,.f,.f,.f,.f,.f,.f,.f,.t,.t,.t,.f,.f,.f,.f,.f,.f,.f,.f,.f,.f,.f,.f,.f] (fun k=>[(3,eQ (cC (xB r.fs.length++mf (r.fs.take k)))),(17,ce .i64 k)]) r.fs.length (fun _=>false) rfl (by simp[mf]) (fun k hk _=> ?_) (fun _ _=> ?_);have hx:=Q8.e.eq_1 r.fs[k];have hq:=ho _ (Zf hk);have l1:=yh r.fs.length;have l2:=Ag (r.fs.take k) (fun f hf=>ho f (ZA hf));have l3:(r.fs.take k).length<=6:=by rw[ZH];omega
 have l4:=yh r.fs[k].aG.length;have e3:=AD (b:=xB r.fs.length++mf (r.fs.take k)) (s:=r.fs[k].aG) (by rw[Zv];omega) (by have:=hq.1;omega);have e4:=na (b:=xB r.fs.length++mf (r.fs.take k)++OP r.fs[k].aG) (by simp only[Zv,OP];have:=hq.1;omega) (n:=r.fs[k].n.toNat) (by have:=hq.2.2;omega);rw[show((r.fs[k].n.toNat:Nat):Int)=r.fs[k].n by have:=hq.2.1;omega]at e4;have ht:mf (r.fs.take (k+1))=mf (r.fs.take k)++(OP r.fs[k].aG++xB r.fs[k].n.toNat):=by unfold mf;rw[ZQ hk,List.flatMap_append];simp[ab3]
 have ha:xB r.fs.length++mf (r.fs.take (k+1))=xB r.fs.length++mf (r.fs.take k)++OP r.fs[k].aG++xB r.fs[k].n.toNat:=by rw[ht];simp
 rw[ha];generalize xB r.fs.length++mf (r.fs.take k)=W at e3 e4⊢;generalize W++OP r.fs[k].aG=W2 at e3 e4⊢;generalize W2++xB r.fs[k].n.toNat=W3 at e4⊢;simp(maxSteps:=9^9) [ku,hk,hx,e3,e4,da h.1 hk,dw hk];have he:yy r=xB r.fs.length++mf r.fs:=by simp[yy,c1]
 rw[he];simp(maxSteps:=9^9) [ku]
def zD {r:X6}(h:r.Ok maxLen):cf Ph cL 222 [r.v]=some (FW r):=by
 have e1:=lY h;unfold FW;refine ca rfl ?_;cases c1:gJ r.fs<;>rw[c1]at e1;simp(maxSteps:=9^9) [lA,e1];obtain⟨hf,ho⟩:=As (r:=r) c1;have e2:=nf (b:=[]) (by simp) (n:=r.fs.length) (by omega);rw[Zj,show cC []=[]from rfl]at e2;simp(maxSteps:=9^9) [lA,e1,e2];refine cP dG Cl.fin [.f,.t,.f,.t,.t,.f,.f,.f,.f,.f,.f,.f,.f,.f,.f,.f,.f,.f,.f,.f,.f,.f,.f,.f,.f,.f,.f,.f,.f,.f,.f,.f,.f,.f,.f,.f,.f,.f] (fun k=>[(3,eQ (cC (xB r.fs.length++mf (r.fs.take k)))),(4,ce .i64 k)]) r.fs.length (fun _=>false) rfl (by simp[mf]) (fun k hk _=> ?_) (fun _ _=> ?_);have hx:=Q8.e.eq_1 r.fs[k];have hq:=ho _ (Zf hk);have l1:=yh r.fs.length;have l2:=Ag (r.fs.take k) (fun f hf=>ho f (ZA hf));have l3:(r.fs.take k).length<=6:=by rw[ZH];omega
 have l4:=yh r.fs[k].aG.length;have e3:=AU (b:=xB r.fs.length++mf (r.fs.take k)) (s:=r.fs[k].aG) (by rw[Zv];omega) (by have:=hq.1;omega);have e4:=nf (b:=xB r.fs.length++mf (r.fs.take k)++OP r.fs[k].aG) (by simp only[Zv,OP];have:=hq.1;omega) (n:=r.fs[k].n.toNat) (by have:=hq.2.2;omega);rw[show((r.fs[k].n.toNat:Nat):Int)=r.fs[k].n by have:=hq.2.1;omega]at e4;have ht:mf (r.fs.take (k+1))=mf (r.fs.take k)++(OP r.fs[k].aG++xB r.fs[k].n.toNat):=by unfold mf;rw[ZQ hk,List.flatMap_append];simp[ab3]
 have ha:xB r.fs.length++mf (r.fs.take (k+1))=xB r.fs.length++mf (r.fs.take k)++OP r.fs[k].aG++xB r.fs[k].n.toNat:=by rw[ht];simp
 rw[ha];generalize xB r.fs.length++mf (r.fs.take k)=W at e3 e4⊢;generalize W++OP r.fs[k].aG=W2 at e3 e4⊢;generalize W2++xB r.fs[k].n.toNat=W3 at e4⊢;simp(maxSteps:=9^9) [ky,hk,hx,e3,e4,da h.1 hk,dw hk];have he:yy r=xB r.fs.length++mf r.fs:=by simp[yy,c1]
 rw[he];simp(maxSteps:=9^9) [ky]
def U5 {n:Int}(h1: -9223372036854775808<=n)(h2:n<=9223372036854775807):IntKind.i64.wrap n=n:=by rw[IntKind.wrap_i64];omega
def wrap_u8 (n:Int):IntKind.u8.wrap n=n%256:=by simp[IntKind.wrap,IntKind.signed,IntKind.bits]
def Hl {x:Nat}{b:Int}{k:Nat}(hk:k<=63)(h:b=(k:Int)):qi .shr .i64 (x:Int) b=some (ce .i64 ((x/2^k:Nat):Int)):=by subst h;simp only[qi];rw[if_neg (by omega),show min (Int.toNat (k:Int)) IntKind.i64.bits=k by rw[Int.toNat_natCast];exact Nat.min_eq_left (Nat.le_succ_of_le hk)];rw[Int.fdiv_eq_ediv_of_nonneg _ (Int.le_of_lt (Int.pow_pos (by decide)))];norm_cast
def Do {k:Y7}(h:k.Ok maxLen):cf Ph cL 225 [k.v]=some (.one (.own 1 (cC (qn k)))):=by
 have e1:=pb h;refine ca rfl ?_;cases c1:nA k<;>rw[c1]at e1;rw[show qn k=[] by simp[qn,c1]];simp(maxSteps:=9^9) [lL,e1,show cC []=[]from rfl];obtain⟨h1,h2,h3,h4,h5,h6⟩:=xf c1;have m1:1+k.ad.length<=140737488355328/\ 1+k.ad.length<=9223372036854775807/\ 7+k.ad.length<=140737488355328/\ 7+k.ad.length<=9223372036854775807/\ k.ad.length+7<=140737488355328/\ k.ad.length+7<=9223372036854775807:=by omega
 have hk:k.aX%256=k.aX:=by omega
 obtain⟨x,hx⟩:∃x:Nat,k.n+1000000000000=(x:Int):=⟨(k.n+1000000000000).toNat,by omega⟩;have hw:IntKind.i64.wrap (k.n+1000000000000)=(x:Int):=by rw[hx,IntKind.wrap_i64];omega
 have s0:=Hl (x:=x) (b:=0) (k:=0) (by decide) rfl;have s1:=Hl (x:=x) (b:=8) (k:=8) (by decide) rfl;have s2:=Hl (x:=x) (b:=16) (k:=16) (by decide) rfl;have s3:=Hl (x:=x) (b:=24) (k:=24) (by decide) rfl;have s4:=Hl (x:=x) (b:=32) (k:=32) (by decide) rfl;have s5:=Hl (x:=x) (b:=40) (k:=40) (by decide) rfl;have lt:dZ 5 0=false/\ dZ 4 0=false/\ dZ 3 0=false/\ dZ 2 0=false/\ dZ 1 0=false/\ dZ 0 0=false/\ dZ (-1) 0=true:=by decide
 have a5:(UInt8.ofNat k.aX.toNat).toNat=k.aX.toNat:=by simp;omega
 have a7:((k.aX.toNat:Nat):Int)=k.aX:=by omega
 have w1:=mW k.ad;by_cases hq:k.aX=2;have he:cC (qn k)=[.int .u8 k.aX]::cC k.ad:=by rw[show qn k=UInt8.ofNat k.aX.toNat::k.ad by simp[qn,c1,hq]];simp only[cC,Zt,a5,a7]
 rw[he];have hb:(k.aX==2)=true:=by simp[hq]
 simp(maxSteps:=9^9) [lL,e1,hb,hk,wrap_u8,m1,w1,eU,xA,ml,lt];have he:cC (qn k)=[.int .u8 k.aX]::([.int .u8 ((x/2^40:Nat)%256:Int)]::[.int .u8 ((x/2^32:Nat)%256:Int)]::[.int .u8 ((x/2^24:Nat)%256:Int)]::[.int .u8 ((x/2^16:Nat)%256:Int)]::[.int .u8 ((x/2^8:Nat)%256:Int)]::[.int .u8 ((x/2^0:Nat)%256:Int)]::cC k.ad):=by rw[show qn k=UInt8.ofNat k.aX.toNat::(be6 x++k.ad) by simp[qn,c1,hq,hx]];simp[cC,be6,a5,a7]
 rw[he];have hb:(k.aX==2)=false:=by simp[hq]
 simp(maxSteps:=9^9) [lL,e1,hb,hk,hw,wrap_u8,U5,s0,s1,s2,s3,s4,s5,m1,w1,eU,lt,xA,ml]
def adr {n:Nat}:IntKind.i64.wrap ((BitVec.ofInt IntKind.i64.bits (n:Int)&&&BitVec.ofInt IntKind.i64.bits 255).toNat:Int)=(n:Int)%256:=by
 have e1:(BitVec.ofInt IntKind.i64.bits (n:Int)).toNat=n%2^64:=by show(BitVec.ofInt 64 (n:Int)).toNat=n%2^64;simp[BitVec.toNat_ofInt]
 have e2:(BitVec.ofInt IntKind.i64.bits 255).toNat=255:=by decide
 rw[BitVec.toNat_and,e1,e2,show(255:Nat)=2^8-1 from rfl,Qu];rw[IntKind.wrap_i64];omega
def zV (y:Nat):IntKind.i64.wrap (((((y:Int)%2^IntKind.i64.bits).toNat&&&255%2^IntKind.i64.bits:Nat)):Int)%256=(y:Int)%256:=by
 have h:=adr (n:=y);rw[BitVec.toNat_and,BitVec.toNat_ofInt,BitVec.toNat_ofInt]at h;have e:(255%((2^IntKind.i64.bits:Nat):Int)).toNat=255%2^IntKind.i64.bits:=by decide
 rw[e]at h;have e3:((2^IntKind.i64.bits:Nat):Int)=(2:Int)^IntKind.i64.bits:=by decide
 rw[e3]at h;rw[h];omega
def DM {k:Y7}(h:k.Ok maxLen):cf Ph cL 221 [k.v]=some (.one (.own 1 (cC (qn k)))):=by
 have e1:=pf h;refine ca rfl ?_;cases c1:nA k<;>rw[c1]at e1;rw[show qn k=[] by simp[qn,c1]];simp(maxSteps:=9^9) [lQ,e1,show cC []=[]from rfl];obtain⟨h1,h2,h3,h4,h5,h6⟩:=xf c1;have m1:1+k.ad.length<=140737488355328/\ 1+k.ad.length<=9223372036854775807/\ 7+k.ad.length<=140737488355328/\ 7+k.ad.length<=9223372036854775807/\ k.ad.length+7<=140737488355328/\ k.ad.length+7<=9223372036854775807:=by omega
 have hk:k.aX%256=k.aX:=by omega
 obtain⟨x,hx⟩:∃x:Nat,k.n+1000000000000=(x:Int):=⟨(k.n+1000000000000).toNat,by omega⟩;have hw:IntKind.i64.wrap (k.n+1000000000000)=(x:Int):=by rw[hx,IntKind.wrap_i64];omega
 have s0:=Hl (x:=x) (b:=0) (k:=0) (by decide) rfl;have s1:=Hl (x:=x) (b:=8) (k:=8) (by decide) rfl;have s2:=Hl (x:=x) (b:=16) (k:=16) (by decide) rfl;have s3:=Hl (x:=x) (b:=24) (k:=24) (by decide) rfl;have s4:=Hl (x:=x) (b:=32) (k:=32) (by decide) rfl;have s5:=Hl (x:=x) (b:=40) (k:=40) (by decide) rfl;have lt:dZ 5 0=false/\ dZ 4 0=false/\ dZ 3 0=false/\ dZ 2 0=false/\ dZ 1 0=false/\ dZ 0 0=false/\ dZ (-1) 0=true:=by decide
 have a5:(UInt8.ofNat k.aX.toNat).toNat=k.aX.toNat:=by simp;omega
 have a7:((k.aX.toNat:Nat):Int)=k.aX:=by omega
 have w1:=mW k.ad;by_cases hq:k.aX=2;have he:cC (qn k)=[.int .u8 k.aX]::cC k.ad:=by rw[show qn k=UInt8.ofNat k.aX.toNat::k.ad by simp[qn,c1,hq]];simp only[cC,Zt,a5,a7]
 rw[he];have hb:(k.aX==2)=true:=by simp[hq]
 simp(maxSteps:=9^9) [lQ,e1,hb,hk,wrap_u8,m1,w1,eU,xA,mq,lt];have he:cC (qn k)=[.int .u8 k.aX]::([.int .u8 ((x/2^40:Nat)%256:Int)]::[.int .u8 ((x/2^32:Nat)%256:Int)]::[.int .u8 ((x/2^24:Nat)%256:Int)]::[.int .u8 ((x/2^16:Nat)%256:Int)]::[.int .u8 ((x/2^8:Nat)%256:Int)]::[.int .u8 ((x/2^0:Nat)%256:Int)]::cC k.ad):=by rw[show qn k=UInt8.ofNat k.aX.toNat::(be6 x++k.ad) by simp[qn,c1,hq,hx]];simp[cC,be6,a5,a7]
 rw[he];have hb:(k.aX==2)=false:=by simp[hq]
 simp(maxSteps:=9^9) [lQ,e1,hb,hk,hw,wrap_u8,U5,s0,s1,s2,s3,s4,s5,m1,w1,eU,lt,xA,mq];have k5:=zV (x/1099511627776);have k4:=zV (x/4294967296);have k3:=zV (x/16777216);have k2:=zV (x/65536);have k1:=zV (x/256);simp only[Int.natCast_ediv,Int.cast_ofNat_Int]at k5 k4 k3 k2 k1;have k0:=zV x;rw[show(x:Int)%2^IntKind.i64.bits=((x%2^IntKind.i64.bits:Nat):Int) by norm_cast,Int.toNat_natCast]at k0;exact⟨k5,k4,k3,k2,k1,k0⟩
end Gi
namespace Gi
open Go Go.RowKit
def Y7.Ok.mono {A B:Nat}(a2:A<=B){x:Y7}(h:x.Ok A):x.Ok B:=by obtain⟨h0,h1,h2⟩:=h;exact⟨h0,h1,Zc h2 a2⟩
def Q8.Ok.mono {A B:Nat}(a2:A<=B){x:Q8}(h:x.Ok A):x.Ok B:=by obtain⟨h0,h1⟩:=h;exact⟨Zc h0 a2,h1⟩
def X6.Ok.mono {A B:Nat}(a2:A<=B){x:X6}(h:x.Ok A):x.Ok B:=by have h0:=h;exact⟨Zc h0.1 a2,fun y m=>Q8.Ok.mono a2 (h0.2 y m)⟩
def Q2.Ok.mono {A B:Nat}(a2:A<=B){x:Q2}(h:x.Ok A):x.Ok B:=by obtain⟨h0,h1⟩:=h;exact⟨Y7.Ok.mono a2 h0,X6.Ok.mono a2 h1⟩
def Q5.Ok.mono {A B:Nat}(a2:A<=B){x:Q5}(h:x.Ok A):x.Ok B:=by obtain⟨h0,h1,h2⟩:=h;exact⟨Zc h0 a2,⟨Zc h1.1 a2,fun y m=>Q2.Ok.mono a2 (h1.2 y m)⟩,h2⟩
def Q4.Ok.mono {A B:Nat}(a2:A<=B){x:Q4}(h:x.Ok A):x.Ok B:=by obtain⟨h0,h1,h2,h3,h4⟩:=h;exact⟨h0,h1,Y7.Ok.mono a2 h2,Zc h3 a2,h4⟩
def Q7.Ok.mono {A B:Nat}(a2:A<=B){x:Q7}(h:x.Ok A):x.Ok B:=by obtain⟨h0,h1⟩:=h;exact⟨h0,h1⟩
def Q3.Ok.mono {A B:Nat}(a2:A<=B){x:Q3}(h:x.Ok A):x.Ok B:=by obtain⟨h0,h1,h2⟩:=h;exact⟨Q5.Ok.mono a2 h0,⟨Zc h1.1 a2,fun y m=>Q7.Ok.mono a2 (h1.2 y m)⟩,⟨Zc h2.1 a2,fun y m=>Q4.Ok.mono a2 (h2.2 y m)⟩⟩
def Y0.Ok.mono {A B:Nat}(a2:A<=B){x:Y0}(h:x.Ok A):x.Ok B:=by obtain⟨h0,h1,h2⟩:=h;exact⟨h0,h1,⟨Zc h2.1 a2,fun y m=>Q4.Ok.mono a2 (h2.2 y m)⟩⟩
def Z0.Ok.mono {A B:Nat}(a2:A<=B){x:Z0}(h:x.Ok A):x.Ok B:=by obtain⟨h0,h1,h2⟩:=h;exact⟨Y0.Ok.mono a2 h0,h1,h2⟩
def X7.Ok.mono {A B:Nat}(a2:A<=B){x:X7}(h:x.Ok A):x.Ok B:=by obtain⟨h0,h1,h2⟩:=h;exact⟨Q5.Ok.mono a2 h0,h1,Z0.Ok.mono a2 h2⟩
def Y5.Ok.mono {A B:Nat}(a2:A<=B){x:Y5}(h:x.Ok A):x.Ok B:=by obtain⟨h0,h1,h2,h3⟩:=h;exact⟨h0,h1,h2,Zc h3 a2⟩
def X3.Ok.mono {A B:Nat}(a2:A<=B){x:X3}(h:x.Ok A):x.Ok B:=by obtain⟨h0,h1,h2⟩:=h;exact⟨Zc h0 a2,Zc h1 a2,Y5.Ok.mono a2 h2⟩
def X1.Ok.mono {A B:Nat}(a2:A<=B){x:X1}(h:x.Ok A):x.Ok B:=by obtain⟨h0,h1⟩:=h;exact⟨h0,⟨Zc h1.1 a2,fun y m=>X3.Ok.mono a2 (h1.2 y m)⟩⟩
def Y6.Ok.mono {A B:Nat}(a2:A<=B){x:Y6}(h:x.Ok A):x.Ok B:=by have h0:=h;exact⟨Zc h0.1 a2,fun y m=>X1.Ok.mono a2 (h0.2 y m)⟩
def Y1.Ok.mono {A B:Nat}(a2:A<=B){x:Y1}(h:x.Ok A):x.Ok B:=by obtain⟨h0,h1,h2,h3⟩:=h;exact⟨Zc h0 a2,h1,h2,h3⟩
def Y4.Ok.mono {A B:Nat}(a2:A<=B){x:Y4}(h:x.Ok A):x.Ok B:=by obtain⟨h0,h1⟩:=h;exact⟨Zc h0 a2,h1⟩
def Y8.Ok.mono {A B:Nat}(a2:A<=B){x:Y8}(h:x.Ok A):x.Ok B:=by obtain⟨h0,h1,h2,h3⟩:=h;exact⟨h0,h1,h2,Zc h3 a2⟩
def Z4.Ok.mono {A B:Nat}(a2:A<=B){x:Z4}(h:x.Ok A):x.Ok B:=by obtain⟨h0,h1,h2,h3⟩:=h;exact⟨⟨Zc h0.1 a2,fun y m=>Y8.Ok.mono a2 (h0.2 y m)⟩,h1,⟨Zc h2.1 a2,h2.2⟩,h3⟩
def X8.Ok.mono {A B:Nat}(a2:A<=B){x:X8}(h:x.Ok A):x.Ok B:=by obtain⟨h0,h1,h2,h3,h4,h5⟩:=h;exact⟨h0,Zc h1 a2,Zc h2 a2,h3,⟨Zc h4.1 a2,fun y m=>Y4.Ok.mono a2 (h4.2 y m)⟩,Z4.Ok.mono a2 h5⟩
def Q9.Ok.mono {A B:Nat}(a2:A<=B){x:Q9}(h:x.Ok A):x.Ok B:=by obtain⟨h0,h1⟩:=h;exact⟨Zc h0 a2,Zc h1 a2⟩
def Y2.Ok.mono {A B:Nat}(a2:A<=B){x:Y2}(h:x.Ok A):x.Ok B:=by obtain⟨h0,h1,h2,h3⟩:=h;exact⟨Zc h0 a2,h1,⟨Zc h2.1 a2,fun y m=>Q5.Ok.mono a2 (h2.2 y m)⟩,⟨Zc h3.1 a2,fun y m=>Q9.Ok.mono a2 (h3.2 y m)⟩⟩
def Z8.Ok.mono {A B:Nat}(a2:A<=B){x:Z8}(h:x.Ok A):x.Ok B:=by obtain⟨h0,h1,h2⟩:=h;exact⟨Y2.Ok.mono a2 h0,Zc h1 a2,h2⟩
def Q1.Ok.mono {A B:Nat}(a2:A<=B){x:Q1}(h:x.Ok A):x.Ok B:=by obtain⟨h0,h1,h2,h3,h4,h5,h6⟩:=h;exact⟨Zc h0 a2,Zc h1 a2,Y1.Ok.mono a2 h2,Y6.Ok.mono a2 h3,Z8.Ok.mono a2 h4,X7.Ok.mono a2 h5,h6⟩
def Z5.Ok.mono {A B:Nat}(a2:A<=B){x:Z5}(h:x.Ok A):x.Ok B:=by have h0:=h;exact⟨Zc h0.1 a2,fun y m=>Q1.Ok.mono a2 (h0.2 y m)⟩
def X5.Ok.mono {A B:Nat}(a2:A<=B){x:X5}(h:x.Ok A):x.Ok B:=by obtain⟨h0,h1⟩:=h;exact⟨Zc h0 a2,h1⟩
def Y9.Ok.mono {A B:Nat}(a2:A<=B){x:Y9}(h:x.Ok A):x.Ok B:=by have h0:=h;exact⟨Zc h0.1 a2,fun y m=>X5.Ok.mono a2 (h0.2 y m)⟩
def X9.Ok.mono {A B:Nat}(a2:A<=B){x:X9}(h:x.Ok A):x.Ok B:=by obtain⟨h0,h1,h2⟩:=h;exact⟨h0,h1,h2⟩
def Z3.Ok.mono {A B:Nat}(a2:A<=B){x:Z3}(h:x.Ok A):x.Ok B:=by have h0:=h;exact⟨Zc h0.1 a2,fun y m=>X9.Ok.mono a2 (h0.2 y m)⟩
def X4.Ok.mono {A B:Nat}(a2:A<=B){x:X4}(h:x.Ok A):x.Ok B:=by obtain⟨h0,h1,h2⟩:=h;exact⟨Zc h0 a2,h1,⟨Zc h2.1 a2,fun y m=>Zc (h2.2 y m) a2⟩⟩
def X0.Ok.mono {A B:Nat}(a2:A<=B){x:X0}(h:x.Ok A):x.Ok B:=by obtain⟨h0,h2,h3,h4,h5,h6,h7,h8,h9⟩:=h;exact⟨h0,h2,Z5.Ok.mono a2 h3,⟨Zc h4.1 a2,fun y m=>X8.Ok.mono a2 (h4.2 y m)⟩,h5,Y9.Ok.mono a2 h6,Z3.Ok.mono a2 h7,⟨Zc h8.1 a2,fun y m=>X4.Ok.mono a2 (h8.2 y m)⟩,⟨Zc h9.1 a2,fun y m=>Q3.Ok.mono a2 (h9.2 y m)⟩⟩
end Gi
namespace Gi
open Go Go.RowKit
set_option maxHeartbeats 8000000
set_option maxRecDepth 4000
attribute [local simp] start qY dX eX fi gx fh gv gC gB sE sO sF sP sG sQ sH sR sI sS sJ sU sK sV sM sW sN sX V.cells plain dM iZ isInt isStr isBool bin ez je eA jf gy un asList L.view cy V.view viewL dd cu eD dN ee comp cV dS eV dV dC dz dA cG ct df cq cF cO cA dx du cI dD dF V.flat L.flat fb ft dK putAt thaw thawL thawT V.ow gA fk fm eB gz eC fj freezeVs freezeLs freezeL V.mut L.mut cN fI iE dj dQ cZ fK ed dE ew L.bC cT fA ep fD ej eG wp_seq wp_block dk fq eE dO eF wp_skip wp_exit wp_ret eJ eM eP eO eS eT eR dU cM L.bA cY cW cX fo dI storeD de hJ co eK cJ nI L.bE L.closed V.closed PV.bare PV.flat
def Mn {z:Nat}{r:List (List PV)}:fb (.one (.own z r))=eQ r:=rfl
def mb {α:Type}(f:α->Nat)(xs:List α):Nat:=(xs.map f).sum
def tg {α:Type}{f:α->Nat}{xs:List α}{k:Nat}(hk:k<xs.length):mb f (xs.take (k+1))=mb f (xs.take k)+f xs[k]:=by unfold mb;rw[ZQ hk,Qf,List.sum_append];simp
def wH {α:Type}{f:α->Nat}{c:Nat}(h:∀x,f x<=c):∀(xs:List α),mb f xs<=c*xs.length
 |[]=>by simp[mb]
 |x::xs=>by have:=wH h xs;have:=h x;simp only[mb,Zt,QY,Zo,Nat.mul_add]at*;omega
def zC (x:Q2):Nat:=(qn x.aZ).length+(yy x.au).length
def qT (x:Q2):zC x<=110:=by have:=Ip x.aZ;have:=Iq x.au;unfold zC;omega
def qe (s:Q5):Nat:=mb zC s.a1
def vS {s:Q5}(h:s.Ok 1048576):cf Ph cL 197 [s.v]=some (ce .i64 (qe s:Nat)):=by
 refine ca rfl ?_;simp +contextual (maxSteps:=9^9) [ru];refine cP dG Cl.fin [.f,.f,.f,.t,.f,.f,.f,.t,.t,.t,.f,.f,.f,.f,.f,.f,.f,.f,.f,.f,.f,.f,.f,.f,.f,.f] (fun k=>[(3,ce .i64 (mb zC (s.a1.take k):Nat)),(9,ce .i64 k)]) s.a1.length (fun _=>false) rfl (by simp[mb]) (fun k hk _=> ?_) (fun _ _=> ?_);have hx:=Q2.e.eq_1 s.a1[k];have hi:=Q2.Ok.mono (B:=maxLen) (by unfold maxLen;omega) (h.2.1.2 _ (Zf hk));have e1:=Do hi.1;have e2:=yZ hi.2;have l1:=Ip s.a1[k].aZ;have l2:=Iq s.a1[k].au;have l3:=wH qT (s.a1.take k);have l4:(s.a1.take k).length<=1048576:=by rw[ZH];have:=h.2.1.1;omega
 have ht:mb zC (s.a1.take (k+1))=mb zC (s.a1.take k)+((qn s.a1[k].aZ).length+(yy s.a1[k].au).length):=tg hk;rw[ht];generalize mb zC (s.a1.take k)=A at l3⊢;have g:=JY s.a1[k].au;generalize FW s.a1[k].au=W at e2 g;have q1:(cC (qn s.a1[k].aZ)).length=(qn s.a1[k].aZ).length:=eU;have q2:(cC (yy s.a1[k].au)).length=(yy s.a1[k].au).length:=eU;generalize (qn s.a1[k].aZ).length=a at l1 q1⊢;generalize (yy s.a1[k].au).length=b at l2 q2⊢;have w1:IntKind.i64.wrap ((a:Int)+(b:Int))=(a:Int)+(b:Int):=by rw[IntKind.wrap_i64];omega
 have w2:IntKind.i64.wrap ((A:Int)+((a:Int)+(b:Int)))=(A:Int)+((a:Int)+(b:Int)):=by rw[IntKind.wrap_i64];omega
 have w3:IntKind.i64.wrap ((A:Int)+(a:Int))=(A:Int)+(a:Int):=by rw[IntKind.wrap_i64];omega
 have w4:IntKind.i64.wrap ((A:Int)+(a:Int)+(b:Int))=(A:Int)+((a:Int)+(b:Int)):=by rw[IntKind.wrap_i64];omega
 simp(maxSteps:=9^9) [mn,hk,hx,e1,e2,Mn, ↓g,q1,q2,w1,w2,w3,w4,da (n:=s.a1.length) (by have:=h.2.1.1;unfold maxLen;omega) hk,dw hk,-fb];rw[Yd];simp(maxSteps:=9^9) [mn,qe]
def vX {s:Q5}(h:s.Ok 1048576):cf Ph cL 194 [s.v]=some (ce .i64 (qe s:Nat)):=by
 refine ca rfl ?_;simp +contextual (maxSteps:=9^9) [r8];refine cP dG Cl.fin [.f,.t,.f,.t,.t,.f,.f,.f,.f,.f,.f,.f,.f,.f,.f,.f,.f,.f,.f,.f,.f,.f,.f,.f,.f,.f,.f,.f,.f,.f,.f,.f] (fun k=>[(3,ce .i64 (mb zC (s.a1.take k):Nat)),(4,ce .i64 k)]) s.a1.length (fun _=>false) rfl (by simp[mb]) (fun k hk _=> ?_) (fun _ _=> ?_);have hx:=Q2.e.eq_1 s.a1[k];have hi:=Q2.Ok.mono (B:=maxLen) (by unfold maxLen;omega) (h.2.1.2 _ (Zf hk));have e1:=DM hi.1;have e2:=zD hi.2;have l1:=Ip s.a1[k].aZ;have l2:=Iq s.a1[k].au;have l3:=wH qT (s.a1.take k);have l4:(s.a1.take k).length<=1048576:=by rw[ZH];have:=h.2.1.1;omega
 have ht:mb zC (s.a1.take (k+1))=mb zC (s.a1.take k)+((qn s.a1[k].aZ).length+(yy s.a1[k].au).length):=tg hk;rw[ht];generalize mb zC (s.a1.take k)=A at l3⊢;have g:=JY s.a1[k].au;generalize FW s.a1[k].au=W at e2 g;have q1:(cC (qn s.a1[k].aZ)).length=(qn s.a1[k].aZ).length:=eU;have q2:(cC (yy s.a1[k].au)).length=(yy s.a1[k].au).length:=eU;generalize (qn s.a1[k].aZ).length=a at l1 q1⊢;generalize (yy s.a1[k].au).length=b at l2 q2⊢;have w1:IntKind.i64.wrap ((a:Int)+(b:Int))=(a:Int)+(b:Int):=by rw[IntKind.wrap_i64];omega
 have w2:IntKind.i64.wrap ((A:Int)+((a:Int)+(b:Int)))=(A:Int)+((a:Int)+(b:Int)):=by rw[IntKind.wrap_i64];omega
 have w3:IntKind.i64.wrap ((A:Int)+(a:Int))=(A:Int)+(a:Int):=by rw[IntKind.wrap_i64];omega
 have w4:IntKind.i64.wrap ((A:Int)+(a:Int)+(b:Int))=(A:Int)+((a:Int)+(b:Int)):=by rw[IntKind.wrap_i64];omega
 simp(maxSteps:=9^9) [mz,hk,hx,e1,e2,Mn, ↓g,q1,q2,w1,w2,w3,w4,da (n:=s.a1.length) (by have:=h.2.1.1;unfold maxLen;omega) hk,dw hk,-fb];rw[Yd];simp(maxSteps:=9^9) [mz,qe]
def sD {α:Type}{f:α->Nat}{c:Nat}:∀{xs:List α},(∀x∈xs,f x<=c)->mb f xs<=c*xs.length
 |[],_=>by simp[mb]
 |x::xs,h=>by have h1:=sD (xs:=xs) (fun y hy=>h y (by simp[hy]));have h2:=h x (by simp);simp only[mb,Zt,QY,Zo,Nat.mul_add]at*;omega
def yp (d:Y2):Nat:=mb qe d.a9
def DK {d:Y2}(h:d.Ok 1048576):yp d<=115343360*1048576:=Zc (sD (c:=115343360) fun s hs=>Zc (wH qT _) (by have:=(h.2.2.1.2 s hs).2.1.1;omega)) (QM _ h.2.2.1.1)
def zc {d:Y2}(h:d.Ok 1048576):cf Ph cL 224 [d.v]=some (ce .i64 (yp d:Nat)):=by
 refine ca rfl ?_;simp +contextual (maxSteps:=9^9) [oN];refine cP dG Cl.fin [.f,.f,.f,.t,.f,.f,.f,.t,.t,.t,.f,.f,.f,.f,.f,.f,.f,.f,.f] (fun k=>[(3,ce .i64 (mb qe (d.a9.take k):Nat)),(9,ce .i64 k)]) d.a9.length (fun _=>false) rfl (by simp[mb]) (fun k hk _=> ?_) (fun _ _=> ?_);have hx:=Q5.e.eq_1 d.a9[k];have hi:=h.2.2.1.2 _ (Zf hk);have e1:=vS hi;have l1:qe d.a9[k]<=115343360:=Zc (wH qT _) (by have:=hi.2.1.1;omega);have l3:=sD (f:=qe) (c:=115343360) (xs:=d.a9.take k) (fun s hs=>Zc (wH qT _) (by have:=(h.2.2.1.2 s (ZA hs)).2.1.1;omega));have l4:(d.a9.take k).length<=1048576:=by rw[ZH];have:=h.2.2.1.1;omega
 rw[tg hk];generalize mb qe (d.a9.take k)=A at l3⊢;generalize qe d.a9[k]=a at l1 e1⊢;have w1:IntKind.i64.wrap ((A:Int)+(a:Int))=(A:Int)+(a:Int):=by rw[IntKind.wrap_i64];omega
 simp(maxSteps:=9^9) [kw,hk,hx,e1,w1,da (n:=d.a9.length) (by have:=h.2.2.1.1;unfold maxLen;omega) hk,dw hk];rw[Yd];simp(maxSteps:=9^9) [kw,yp]
def Fa {x:Z8}(h:x.Ok 1048576):cf Ph cL 196 [x.v]=some (ce .i64 (yp x.aB+x.aw.length:Nat)):=by
 have e1:=zc h.1;have l1:=DK h.1;have l2:=h.2.1;generalize yp x.aB=A at e1 l1⊢;have w1:IntKind.i64.wrap ((A:Int)+(x.aw.length:Int))=(A:Int)+(x.aw.length:Int):=by rw[IntKind.wrap_i64];omega
 refine ca rfl ?_;simp +contextual (maxSteps:=9^9) [tz,e1,w1,eU]
def zF {d:Y2}(h:d.Ok 1048576):cf Ph cL 220 [d.v]=some (ce .i64 (yp d:Nat)):=by
 refine ca rfl ?_;simp +contextual (maxSteps:=9^9) [oS];refine cP dG Cl.fin [.f,.t,.f,.t,.t,.f,.f,.f,.f,.f,.f,.f,.f,.f,.f,.f,.f,.f,.f,.f,.f] (fun k=>[(3,ce .i64 (mb qe (d.a9.take k):Nat)),(4,ce .i64 k)]) d.a9.length (fun _=>false) rfl (by simp[mb]) (fun k hk _=> ?_) (fun _ _=> ?_);have hx:=Q5.e.eq_1 d.a9[k];have hi:=h.2.2.1.2 _ (Zf hk);have e1:=vX hi;have l1:qe d.a9[k]<=115343360:=Zc (wH qT _) (by have:=hi.2.1.1;omega);have l3:=sD (f:=qe) (c:=115343360) (xs:=d.a9.take k) (fun s hs=>Zc (wH qT _) (by have:=(h.2.2.1.2 s (ZA hs)).2.1.1;omega));have l4:(d.a9.take k).length<=1048576:=by rw[ZH];have:=h.2.2.1.1;omega
 rw[tg hk];generalize mb qe (d.a9.take k)=A at l3⊢;generalize qe d.a9[k]=a at l1 e1⊢;have w1:IntKind.i64.wrap ((A:Int)+(a:Int))=(A:Int)+(a:Int):=by rw[IntKind.wrap_i64];omega
 simp(maxSteps:=9^9) [kA,hk,hx,e1,w1,da (n:=d.a9.length) (by have:=h.2.2.1.1;unfold maxLen;omega) hk,dw hk];rw[Yd];simp(maxSteps:=9^9) [kA,yp]
def FE {x:Z8}(h:x.Ok 1048576):cf Ph cL 193 [x.v]=some (ce .i64 (yp x.aB+x.aw.length:Nat)):=by
 have e1:=zF h.1;have l1:=DK h.1;have l2:=h.2.1;generalize yp x.aB=A at e1 l1⊢;have w1:IntKind.i64.wrap ((A:Int)+(x.aw.length:Int))=(A:Int)+(x.aw.length:Int):=by rw[IntKind.wrap_i64];omega
 refine ca rfl ?_;simp +contextual (maxSteps:=9^9) [tQ,e1,w1,eU]
def Gn (b:Bool)(x:Y5):Nat:=cond b 76 (16+x.body.length)
def xn (e:X3):Nat:=Gn (e.ao.b3==3) e.ao
def zB {e:X3}(h:e.Ok 1048576):xn e<=1048592:=by have:=h.2.2.2.2.2;unfold xn Gn;cases(e.ao.b3==3)<;>simp only[cond_true,cond_false]<;>omega
def Bk (c:X1):Nat:=mb xn c.a8
def J0 {c:X1}(h:c.Ok 1048576):Bk c<=1048592*1048576:=Zc (sD fun e he=>zB (h.2.2 e he)) (QM _ h.2.1)
def Gl (s:Y6):Nat:=mb Bk s.a3
def BY {x:Y5}(h:x.body.length<=1048576)(b:Bool):cf Ph cL 223 [x.v,cK b]=some (ce .i64 (Gn b x:Nat)):=by
 have w1:IntKind.i64.wrap (16+(x.body.length:Int))=16+(x.body.length:Int):=by rw[IntKind.wrap_i64];omega
 refine ca rfl ?_;cases b<;>simp(maxSteps:=9^9) [qx,Gn,w1,eU]
def BX {s:Y6}(h:s.Ok 1048576):cf Ph cL 195 [s.v]=some (ce .i64 (Gl s:Nat)):=by
 refine ca rfl ?_;simp +contextual (maxSteps:=9^9) [qw];refine cP dG Cl.fin [.f,.f,.f,.t,.f,.f,.f,.f,.f,.t,.t,.t,.f,.f,.f,.f,.f,.f,.f,.f,.f,.f,.f,.f,.f,.f,.f,.f,.f,.f,.f,.f,.f,.f] (fun k=>[(3,ce .i64 (mb Bk (s.a3.take k):Nat)),(11,ce .i64 k)]) s.a3.length (fun _=>false) rfl (by simp[mb]) (fun k hk _=> ?_) (fun _ _=> ?_);have hx:=X1.e.eq_1 s.a3[k];have hc:=h.2 _ (Zf hk);have wk:=da (n:=s.a3.length) (by have:=h.1;unfold maxLen;omega) hk;have l4:=sD (f:=Bk) (c:=1048592*1048576) (xs:=s.a3.take k) (fun c hm=>J0 (h.2 c (ZA hm)));have l5:(s.a3.take k).length<=1048576:=by rw[ZH];have:=h.1;omega
 rw[tg hk];generalize mb Bk (s.a3.take k)=A at l4⊢;simp(maxSteps:=9^9) [lf,hk,hx,dw hk];refine cP dG Cl.kn [.f,.f,.f,.t,.f,.f,.f,.f,.f,.t,.t,.t,.f,.f,.f,.f,.t,.t,.t,.f,.f,.f,.f,.f,.f,.f,.f,.f,.f,.f,.f,.f,.f,.f] (fun j=>[(3,ce .i64 (A+mb xn (s.a3[k].a8.take j):Nat)),(18,ce .i64 j)]) s.a3[k].a8.length (fun _=>false) rfl (by simp[mb]) (fun j hj _=> ?_) (fun _ _=> ?_);have hy:=X3.e.eq_1 s.a3[k].a8[j];have he:=hc.2.2 _ (Zf hj);have e1:=fun b=>BY (x:=s.a3[k].a8[j].ao) he.2.2.2.2.2 b;have wj:=da (n:=s.a3[k].a8.length) (by have:=hc.2.1;unfold maxLen;omega) hj;have l1:=zB he;have l2:=sD (f:=xn) (c:=1048592) (xs:=s.a3[k].a8.take j) (fun c hm=>zB (hc.2.2 c (ZA hm)));have l3:(s.a3[k].a8.take j).length<=1048576:=by rw[ZH];have:=hc.2.1;omega
 have hs:Gn (s.a3[k].a8[j].ao.b3==3) s.a3[k].a8[j].ao=xn s.a3[k].a8[j]:=rfl;have e2:=e1 (s.a3[k].a8[j].ao.b3==3);rw[hs]at e2;rw[tg hj];generalize mb xn (s.a3[k].a8.take j)=D at l2⊢;generalize xn s.a3[k].a8[j]=a at l1 e2⊢;have w1:IntKind.i64.wrap ((A:Int)+(D:Int)+(a:Int))=(A:Int)+((D:Int)+(a:Int)):=by rw[IntKind.wrap_i64];omega
 simp(maxSteps:=9^9) [jS,hk,hj,hx,hy,e2,w1,wj,dw hj];rw[Yd];simp(maxSteps:=9^9) [jS,hk,hx,wk,Bk];rw[Yd];simp(maxSteps:=9^9) [lf,Gl]
def Cf {x:Y5}(h:x.body.length<=1048576)(b:Bool):cf Ph cL 219 [x.v,cK b]=some (ce .i64 (Gn b x:Nat)):=by
 have w1:IntKind.i64.wrap (16+(x.body.length:Int))=16+(x.body.length:Int):=by rw[IntKind.wrap_i64];omega
 refine ca rfl ?_;cases b<;>simp(maxSteps:=9^9) [qL,Gn,w1,eU]
def Ce {s:Y6}(h:s.Ok 1048576):cf Ph cL 192 [s.v]=some (ce .i64 (Gl s:Nat)):=by
 refine ca rfl ?_;simp +contextual (maxSteps:=9^9) [qK];refine cP dG Cl.fin [.f,.t,.f,.t,.t,.f,.f,.f,.f,.f,.f,.f,.f,.f,.f,.f,.f,.f,.f,.f,.f,.f,.f,.f,.f,.f,.f,.f,.f,.f,.f,.f,.f,.f,.f,.f,.f,.f,.f,.f,.f,.f,.f] (fun k=>[(3,ce .i64 (mb Bk (s.a3.take k):Nat)),(4,ce .i64 k)]) s.a3.length (fun _=>false) rfl (by simp[mb]) (fun k hk _=> ?_) (fun _ _=> ?_);have hx:=X1.e.eq_1 s.a3[k];have hc:=h.2 _ (Zf hk);have wk:=da (n:=s.a3.length) (by have:=h.1;unfold maxLen;omega) hk;have l4:=sD (f:=Bk) (c:=1048592*1048576) (xs:=s.a3.take k) (fun c hm=>J0 (h.2 c (ZA hm)));have l5:(s.a3.take k).length<=1048576:=by rw[ZH];have:=h.1;omega
 rw[tg hk];generalize mb Bk (s.a3.take k)=A at l4⊢;simp(maxSteps:=9^9) [lu,hk,hx,dw hk];refine cP dG Cl.kn [.f,.t,.f,.t,.t,.t,.f,.f,.f,.f,.f,.f,.f,.f,.f,.f,.f,.f,.f,.f,.f,.f,.f,.f,.f,.f,.f,.f,.f,.f,.f,.f,.f,.f,.f,.f,.f,.f,.f,.f,.f,.f,.f] (fun j=>[(3,ce .i64 (A+mb xn (s.a3[k].a8.take j):Nat)),(5,ce .i64 j)]) s.a3[k].a8.length (fun _=>false) rfl (by simp[mb]) (fun j hj _=> ?_) (fun _ _=> ?_);have hy:=X3.e.eq_1 s.a3[k].a8[j];have he:=hc.2.2 _ (Zf hj);have e1:=fun b=>Cf (x:=s.a3[k].a8[j].ao) he.2.2.2.2.2 b;have wj:=da (n:=s.a3[k].a8.length) (by have:=hc.2.1;unfold maxLen;omega) hj;have l1:=zB he;have l2:=sD (f:=xn) (c:=1048592) (xs:=s.a3[k].a8.take j) (fun c hm=>zB (hc.2.2 c (ZA hm)));have l3:(s.a3[k].a8.take j).length<=1048576:=by rw[ZH];have:=hc.2.1;omega
 have hs:Gn (s.a3[k].a8[j].ao.b3==3) s.a3[k].a8[j].ao=xn s.a3[k].a8[j]:=rfl;have e2:=e1 (s.a3[k].a8[j].ao.b3==3);rw[hs]at e2;rw[tg hj];generalize mb xn (s.a3[k].a8.take j)=D at l2⊢;generalize xn s.a3[k].a8[j]=a at l1 e2⊢;have w1:IntKind.i64.wrap ((A:Int)+(D:Int)+(a:Int))=(A:Int)+((D:Int)+(a:Int)):=by rw[IntKind.wrap_i64];omega
 simp(maxSteps:=9^9) [jU,hk,hj,hx,hy,e2,w1,wj,dw hj];rw[Yd];simp(maxSteps:=9^9) [jU,hk,hx,wk,Bk];rw[Yd];simp(maxSteps:=9^9) [lu,Gl]
def RG {s:Y6}(h:s.Ok 1048576):Gl s<=1048592*1048576*1048576:=Zc (sD fun c hm=>J0 (h.2 c hm)) (QM _ h.1)
def Sl (x:Q1):Nat:=Gl x.a3+(yp x.aM.aB+x.aM.aw.length)+qe x.a4.aB+40*x.a4.aH.a6.aA.length
def Hg {x:Q1}(h:x.Ok 1048576):cf Ph cL 162 [x.v]=some (ce .i64 (Sl x:Nat)):=by
 obtain⟨_,_,_,hc,hd,hr,_⟩:=h;have e1:=BX hc;have e2:=Fa hd;have e3:=vS hr.1;have l1:=RG hc;have l2:=DK hd.1;have l3:qe x.a4.aB<=115343360:=Zc (wH qT _) (by have:=hr.1.2.1.1;omega);have l4:=hd.2.1;have l5:x.a4.aH.a6.aA.length<=1048576:=hr.2.2.1.2.2.1;unfold Sl;generalize Gl x.a3=A at e1 l1⊢;generalize yp x.aM.aB=B at e2 l2⊢;generalize qe x.a4.aB=C at e3 l3⊢;have w1:IntKind.i64.wrap ((A:Int)+((B:Int)+(x.aM.aw.length:Int)))=(A:Int)+((B:Int)+(x.aM.aw.length:Int)):=by rw[IntKind.wrap_i64];omega
 have w2:IntKind.i64.wrap ((A:Int)+((B:Int)+(x.aM.aw.length:Int))+(C:Int))=(A:Int)+((B:Int)+(x.aM.aw.length:Int))+(C:Int):=by rw[IntKind.wrap_i64];omega
 have w3:IntKind.i64.wrap (40*(x.a4.aH.a6.aA.length:Int))=40*(x.a4.aH.a6.aA.length:Int):=by rw[IntKind.wrap_i64];omega
 have w4:IntKind.i64.wrap ((A:Int)+((B:Int)+(x.aM.aw.length:Int))+(C:Int)+40*(x.a4.aH.a6.aA.length:Int))=(A:Int)+((B:Int)+(x.aM.aw.length:Int))+(C:Int)+40*(x.a4.aH.a6.aA.length:Int):=by rw[IntKind.wrap_i64];omega
 refine ca rfl ?_;simp +contextual (maxSteps:=9^9) [uB,e1,e2,e3,w1,w2,w3,w4]
def Ho {x:Q1}(h:x.Ok 1048576):cf Ph cL 161 [x.v]=some (ce .i64 (Sl x:Nat)):=by
 obtain⟨_,_,_,hc,hd,hr,_⟩:=h;have e1:=Ce hc;have e2:=FE hd;have e3:=vX hr.1;have l1:=RG hc;have l2:=DK hd.1;have l3:qe x.a4.aB<=115343360:=Zc (wH qT _) (by have:=hr.1.2.1.1;omega);have l4:=hd.2.1;have l5:x.a4.aH.a6.aA.length<=1048576:=hr.2.2.1.2.2.1;unfold Sl;generalize Gl x.a3=A at e1 l1⊢;generalize yp x.aM.aB=B at e2 l2⊢;generalize qe x.a4.aB=C at e3 l3⊢;have w1:IntKind.i64.wrap ((A:Int)+((B:Int)+(x.aM.aw.length:Int)))=(A:Int)+((B:Int)+(x.aM.aw.length:Int)):=by rw[IntKind.wrap_i64];omega
 have w2:IntKind.i64.wrap ((A:Int)+((B:Int)+(x.aM.aw.length:Int))+(C:Int))=(A:Int)+((B:Int)+(x.aM.aw.length:Int))+(C:Int):=by rw[IntKind.wrap_i64];omega
 have w3:IntKind.i64.wrap (40*(x.a4.aH.a6.aA.length:Int))=40*(x.a4.aH.a6.aA.length:Int):=by rw[IntKind.wrap_i64];omega
 have w4:IntKind.i64.wrap ((A:Int)+((B:Int)+(x.aM.aw.length:Int))+(C:Int)+40*(x.a4.aH.a6.aA.length:Int))=(A:Int)+((B:Int)+(x.aM.aw.length:Int))+(C:Int)+40*(x.a4.aH.a6.aA.length:Int):=by rw[IntKind.wrap_i64];omega
 refine ca rfl ?_;simp +contextual (maxSteps:=9^9) [uI,e1,e2,e3,w1,w2,w3,w4]
end Gi
