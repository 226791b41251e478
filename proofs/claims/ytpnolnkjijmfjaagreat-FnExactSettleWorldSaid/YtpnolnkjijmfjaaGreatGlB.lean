/- Of this proof. -/
import Derived.Test.YtpnolnkjijmfjaaGreatGks
import Derived.Test.YtpnolnkjijmfjaaGreatGka
set_option linter.all false
namespace Gi
open Go Go.RowKit
set_option maxHeartbeats 8000000
set_option maxRecDepth 4000
attribute [local simp] start qt dY fa fh gj fg gi gr gq rB rY rE rZ rH r8 rI r9 rJ sa rS sd rU se rV sf rW sh V.cells plain dP ja isInt isStr isBool bin eu i7 ew i9 gl un asList L.view cy V.view viewL dd cu eC dN eh comp cU dS eV dW dD dA dC cF ct df co cE cO cA dx du cH dE dF V.flat L.flat fe fv dK putAt thaw thawL thawT V.ow gn fj fk ez gm eA fi freezeVs freezeLs freezeL V.mut L.mut cN fx iI dj dQ cZ fI ed dH eB L.bD cQ fy ej fE ep eH wp_seq wp_block dh fo eD dO eE wp_skip wp_exit wp_ret eG eM eP eN eT eU eS dV cM L.bB cX cV cW fm dI storeD dg gZ cq eK cJ nP L.bG L.closed V.closed PV.bare PV.flat
def Gq (r:X7):V:=cond (gL r.fs) (eW (cC (yR r))) (.one (.own 1 []))
def Kl (r:X7):fe (Gq r)=eW (cC (yR r)):=by unfold Gq;cases c:gL r.fs;simp[yR,c,fe,fv,cC];rfl
def zz {r:X7}(h:r.Ok maxLen):cf Ph cK 226 [r.v]=some (Gq r):=by
 have e1:=oK h;unfold Gq;refine ca rfl ?_;cases c1:gL r.fs<;>rw[c1]at e1;simp(maxSteps:=9^9) [lH,e1];obtain⟨hf,ho⟩:=AM (r:=r) c1;have e2:=nl (b:=[]) (by simp) (n:=r.fs.length) (by omega);rw[Zk,show cC []=[]from rfl]at e2;simp(maxSteps:=9^9) [lH,e1,e2];refine cP dz Cl.fin [.f,.f,.f,.t,.f,.f,.f,.f,.f,.f,.f,.f,.f,.f,.f,.t,.t,.t,.f,.f,.f,.f,.f,.f,.f,.f,.f,.f,.f,.f,.f] (fun k=>[(3,eW (cC (xT r.fs.length++mq (r.fs.take k)))),(17,ce .i64 k)]) r.fs.length (fun _=>false) rfl (by simp[mq]) (fun k hk _=> ?_) (fun _ _=> ?_);have hx:=Q9.e.eq_1 r.fs[k];have hq:=ho _ (Zf hk);have l1:=yB r.fs.length;have l2:=Az (r.fs.take k) (fun f hf=>ho f (ZB hf));have l3:(r.fs.take k).length<=6:=by rw[ZI];omega
 have l4:=yB r.fs[k].aG.length;have e3:=AY (b:=xT r.fs.length++mq (r.fs.take k)) (s:=r.fs[k].aG) (by rw[Zv];omega) (by have:=hq.1;omega);have e4:=nl (b:=xT r.fs.length++mq (r.fs.take k)++Pm r.fs[k].aG) (by simp only[Zv,Pm];have:=hq.1;omega) (n:=r.fs[k].n.toNat) (by have:=hq.2.2;omega);rw[show((r.fs[k].n.toNat:Nat):Int)=r.fs[k].n by have:=hq.2.1;omega]at e4;have ht:mq (r.fs.take (k+1))=mq (r.fs.take k)++(Pm r.fs[k].aG++xT r.fs[k].n.toNat):=by unfold mq;rw[ZQ hk,List.flatMap_append];simp[acC]
 have ha:xT r.fs.length++mq (r.fs.take (k+1))=xT r.fs.length++mq (r.fs.take k)++Pm r.fs[k].aG++xT r.fs[k].n.toNat:=by rw[ht];simp
 rw[ha];generalize xT r.fs.length++mq (r.fs.take k)=W at e3 e4⊢;generalize W++Pm r.fs[k].aG=W2 at e3 e4⊢;generalize W2++xT r.fs[k].n.toNat=W3 at e4⊢;simp(maxSteps:=9^9) [kD,hk,hx,e3,e4,cY h.1 hk,dw hk];have he:yR r=xT r.fs.length++mq r.fs:=by simp[yR,c1]
 rw[he];simp(maxSteps:=9^9) [kD]
def zW {r:X7}(h:r.Ok maxLen):cf Ph cK 222 [r.v]=some (Gq r):=by
 have e1:=mi h;unfold Gq;refine ca rfl ?_;cases c1:gL r.fs<;>rw[c1]at e1;simp(maxSteps:=9^9) [lI,e1];obtain⟨hf,ho⟩:=AM (r:=r) c1;have e2:=nq (b:=[]) (by simp) (n:=r.fs.length) (by omega);rw[Zk,show cC []=[]from rfl]at e2;simp(maxSteps:=9^9) [lI,e1,e2];refine cP dz Cl.fin [.f,.t,.f,.t,.t,.f,.f,.f,.f,.f,.f,.f,.f,.f,.f,.f,.f,.f,.f,.f,.f,.f,.f,.f,.f,.f,.f,.f,.f,.f,.f,.f,.f,.f,.f,.f,.f,.f] (fun k=>[(3,eW (cC (xT r.fs.length++mq (r.fs.take k)))),(4,ce .i64 k)]) r.fs.length (fun _=>false) rfl (by simp[mq]) (fun k hk _=> ?_) (fun _ _=> ?_);have hx:=Q9.e.eq_1 r.fs[k];have hq:=ho _ (Zf hk);have l1:=yB r.fs.length;have l2:=Az (r.fs.take k) (fun f hf=>ho f (ZB hf));have l3:(r.fs.take k).length<=6:=by rw[ZI];omega
 have l4:=yB r.fs[k].aG.length;have e3:=Bf (b:=xT r.fs.length++mq (r.fs.take k)) (s:=r.fs[k].aG) (by rw[Zv];omega) (by have:=hq.1;omega);have e4:=nq (b:=xT r.fs.length++mq (r.fs.take k)++Pm r.fs[k].aG) (by simp only[Zv,Pm];have:=hq.1;omega) (n:=r.fs[k].n.toNat) (by have:=hq.2.2;omega);rw[show((r.fs[k].n.toNat:Nat):Int)=r.fs[k].n by have:=hq.2.1;omega]at e4;have ht:mq (r.fs.take (k+1))=mq (r.fs.take k)++(Pm r.fs[k].aG++xT r.fs[k].n.toNat):=by unfold mq;rw[ZQ hk,List.flatMap_append];simp[acC]
 have ha:xT r.fs.length++mq (r.fs.take (k+1))=xT r.fs.length++mq (r.fs.take k)++Pm r.fs[k].aG++xT r.fs[k].n.toNat:=by rw[ht];simp
 rw[ha];generalize xT r.fs.length++mq (r.fs.take k)=W at e3 e4⊢;generalize W++Pm r.fs[k].aG=W2 at e3 e4⊢;generalize W2++xT r.fs[k].n.toNat=W3 at e4⊢;simp(maxSteps:=9^9) [kF,hk,hx,e3,e4,cY h.1 hk,dw hk];have he:yR r=xT r.fs.length++mq r.fs:=by simp[yR,c1]
 rw[he];simp(maxSteps:=9^9) [kF]
def Vy {n:Int}(h1: -9223372036854775808<=n)(h2:n<=9223372036854775807):IntKind.i64.wrap n=n:=by rw[IntKind.wrap_i64];omega
def wrap_u8 (n:Int):IntKind.u8.wrap n=n%256:=by simp[IntKind.wrap,IntKind.signed,IntKind.bits]
def HJ {x:Nat}{b:Int}{k:Nat}(hk:k<=63)(h:b=(k:Int)):qw .shr .i64 (x:Int) b=some (ce .i64 ((x/2^k:Nat):Int)):=by subst h;simp only[qw];rw[if_neg (by omega),show min (Int.toNat (k:Int)) IntKind.i64.bits=k by rw[Int.toNat_natCast];exact Nat.min_eq_left (Nat.le_succ_of_le hk)];rw[Int.fdiv_eq_ediv_of_nonneg _ (Int.le_of_lt (Int.pow_pos (by decide)))];norm_cast
def DG {k:Y7}(h:k.Ok maxLen):cf Ph cK 225 [k.v]=some (.one (.own 1 (cC (qA k)))):=by
 have e1:=pk h;refine ca rfl ?_;cases c1:nI k<;>rw[c1]at e1;rw[show qA k=[] by simp[qA,c1]];simp(maxSteps:=9^9) [lU,e1,show cC []=[]from rfl];obtain⟨h1,h2,h3,h4,h5,h6⟩:=xw c1;have m1:1+k.ad.length<=140737488355328/\ 1+k.ad.length<=9223372036854775807/\ 7+k.ad.length<=140737488355328/\ 7+k.ad.length<=9223372036854775807/\ k.ad.length+7<=140737488355328/\ k.ad.length+7<=9223372036854775807:=by omega
 have hk:k.aW%256=k.aW:=by omega
 obtain⟨x,hx⟩:∃x:Nat,k.n+1000000000000=(x:Int):=⟨(k.n+1000000000000).toNat,by omega⟩;have hw:IntKind.i64.wrap (k.n+1000000000000)=(x:Int):=by rw[hx,IntKind.wrap_i64];omega
 have s0:=HJ (x:=x) (b:=0) (k:=0) (by decide) rfl;have s1:=HJ (x:=x) (b:=8) (k:=8) (by decide) rfl;have s2:=HJ (x:=x) (b:=16) (k:=16) (by decide) rfl;have s3:=HJ (x:=x) (b:=24) (k:=24) (by decide) rfl;have s4:=HJ (x:=x) (b:=32) (k:=32) (by decide) rfl;have s5:=HJ (x:=x) (b:=40) (k:=40) (by decide) rfl;have lt:dZ 5 0=false/\ dZ 4 0=false/\ dZ 3 0=false/\ dZ 2 0=false/\ dZ 1 0=false/\ dZ 0 0=false/\ dZ (-1) 0=true:=by decide
 have a5:(UInt8.ofNat k.aW.toNat).toNat=k.aW.toNat:=by simp;omega
 have a7:((k.aW.toNat:Nat):Int)=k.aW:=by omega
 have w1:=m8 k.ad;by_cases hq:k.aW=2;have he:cC (qA k)=[.int .u8 k.aW]::cC k.ad:=by rw[show qA k=UInt8.ofNat k.aW.toNat::k.ad by simp[qA,c1,hq]];simp only[cC,Zt,a5,a7]
 rw[he];have hb:(k.aW==2)=true:=by simp[hq]
 simp(maxSteps:=9^9) [lU,e1,hb,hk,wrap_u8,m1,w1,eY,xS,mC,lt];have he:cC (qA k)=[.int .u8 k.aW]::([.int .u8 ((x/2^40:Nat)%256:Int)]::[.int .u8 ((x/2^32:Nat)%256:Int)]::[.int .u8 ((x/2^24:Nat)%256:Int)]::[.int .u8 ((x/2^16:Nat)%256:Int)]::[.int .u8 ((x/2^8:Nat)%256:Int)]::[.int .u8 ((x/2^0:Nat)%256:Int)]::cC k.ad):=by rw[show qA k=UInt8.ofNat k.aW.toNat::(be6 x++k.ad) by simp[qA,c1,hq,hx]];simp[cC,be6,a5,a7]
 rw[he];have hb:(k.aW==2)=false:=by simp[hq]
 simp(maxSteps:=9^9) [lU,e1,hb,hk,hw,wrap_u8,Vy,s0,s1,s2,s3,s4,s5,m1,w1,eY,lt,xS,mC]
def ad3 {n:Nat}:IntKind.i64.wrap ((BitVec.ofInt IntKind.i64.bits (n:Int)&&&BitVec.ofInt IntKind.i64.bits 255).toNat:Int)=(n:Int)%256:=by
 have e1:(BitVec.ofInt IntKind.i64.bits (n:Int)).toNat=n%2^64:=by show(BitVec.ofInt 64 (n:Int)).toNat=n%2^64;simp[BitVec.toNat_ofInt]
 have e2:(BitVec.ofInt IntKind.i64.bits 255).toNat=255:=by decide
 rw[BitVec.toNat_and,e1,e2,show(255:Nat)=2^8-1 from rfl,Qv];rw[IntKind.wrap_i64];omega
def Ao (y:Nat):IntKind.i64.wrap (((((y:Int)%2^IntKind.i64.bits).toNat&&&255%2^IntKind.i64.bits:Nat)):Int)%256=(y:Int)%256:=by
 have h:=ad3 (n:=y);rw[BitVec.toNat_and,BitVec.toNat_ofInt,BitVec.toNat_ofInt]at h;have e:(255%((2^IntKind.i64.bits:Nat):Int)).toNat=255%2^IntKind.i64.bits:=by decide
 rw[e]at h;have e3:((2^IntKind.i64.bits:Nat):Int)=(2:Int)^IntKind.i64.bits:=by decide
 rw[e3]at h;rw[h];omega
def D5 {k:Y7}(h:k.Ok maxLen):cf Ph cK 221 [k.v]=some (.one (.own 1 (cC (qA k)))):=by
 have e1:=px h;refine ca rfl ?_;cases c1:nI k<;>rw[c1]at e1;rw[show qA k=[] by simp[qA,c1]];simp(maxSteps:=9^9) [lZ,e1,show cC []=[]from rfl];obtain⟨h1,h2,h3,h4,h5,h6⟩:=xw c1;have m1:1+k.ad.length<=140737488355328/\ 1+k.ad.length<=9223372036854775807/\ 7+k.ad.length<=140737488355328/\ 7+k.ad.length<=9223372036854775807/\ k.ad.length+7<=140737488355328/\ k.ad.length+7<=9223372036854775807:=by omega
 have hk:k.aW%256=k.aW:=by omega
 obtain⟨x,hx⟩:∃x:Nat,k.n+1000000000000=(x:Int):=⟨(k.n+1000000000000).toNat,by omega⟩;have hw:IntKind.i64.wrap (k.n+1000000000000)=(x:Int):=by rw[hx,IntKind.wrap_i64];omega
 have s0:=HJ (x:=x) (b:=0) (k:=0) (by decide) rfl;have s1:=HJ (x:=x) (b:=8) (k:=8) (by decide) rfl;have s2:=HJ (x:=x) (b:=16) (k:=16) (by decide) rfl;have s3:=HJ (x:=x) (b:=24) (k:=24) (by decide) rfl;have s4:=HJ (x:=x) (b:=32) (k:=32) (by decide) rfl;have s5:=HJ (x:=x) (b:=40) (k:=40) (by decide) rfl;have lt:dZ 5 0=false/\ dZ 4 0=false/\ dZ 3 0=false/\ dZ 2 0=false/\ dZ 1 0=false/\ dZ 0 0=false/\ dZ (-1) 0=true:=by decide
 have a5:(UInt8.ofNat k.aW.toNat).toNat=k.aW.toNat:=by simp;omega
 have a7:((k.aW.toNat:Nat):Int)=k.aW:=by omega
 have w1:=m8 k.ad;by_cases hq:k.aW=2;have he:cC (qA k)=[.int .u8 k.aW]::cC k.ad:=by rw[show qA k=UInt8.ofNat k.aW.toNat::k.ad by simp[qA,c1,hq]];simp only[cC,Zt,a5,a7]
 rw[he];have hb:(k.aW==2)=true:=by simp[hq]
 simp(maxSteps:=9^9) [lZ,e1,hb,hk,wrap_u8,m1,w1,eY,xS,mG,lt];have he:cC (qA k)=[.int .u8 k.aW]::([.int .u8 ((x/2^40:Nat)%256:Int)]::[.int .u8 ((x/2^32:Nat)%256:Int)]::[.int .u8 ((x/2^24:Nat)%256:Int)]::[.int .u8 ((x/2^16:Nat)%256:Int)]::[.int .u8 ((x/2^8:Nat)%256:Int)]::[.int .u8 ((x/2^0:Nat)%256:Int)]::cC k.ad):=by rw[show qA k=UInt8.ofNat k.aW.toNat::(be6 x++k.ad) by simp[qA,c1,hq,hx]];simp[cC,be6,a5,a7]
 rw[he];have hb:(k.aW==2)=false:=by simp[hq]
 simp(maxSteps:=9^9) [lZ,e1,hb,hk,hw,wrap_u8,Vy,s0,s1,s2,s3,s4,s5,m1,w1,eY,lt,xS,mG];have k5:=Ao (x/1099511627776);have k4:=Ao (x/4294967296);have k3:=Ao (x/16777216);have k2:=Ao (x/65536);have k1:=Ao (x/256);simp only[Int.natCast_ediv,Int.cast_ofNat_Int]at k5 k4 k3 k2 k1;have k0:=Ao x;rw[show(x:Int)%2^IntKind.i64.bits=((x%2^IntKind.i64.bits:Nat):Int) by norm_cast,Int.toNat_natCast]at k0;exact⟨k5,k4,k3,k2,k1,k0⟩
end Gi
namespace Gi
open Go Go.RowKit
def Y7.Ok.mono {A B:Nat}(a2:A<=B){x:Y7}(h:x.Ok A):x.Ok B:=by obtain⟨h0,h1,h2⟩:=h;exact⟨h0,h1,Zc h2 a2⟩
def Q9.Ok.mono {A B:Nat}(a2:A<=B){x:Q9}(h:x.Ok A):x.Ok B:=by obtain⟨h0,h1⟩:=h;exact⟨Zc h0 a2,h1⟩
def X7.Ok.mono {A B:Nat}(a2:A<=B){x:X7}(h:x.Ok A):x.Ok B:=by have h0:=h;exact⟨Zc h0.1 a2,fun y m=>Q9.Ok.mono a2 (h0.2 y m)⟩
def Q3.Ok.mono {A B:Nat}(a2:A<=B){x:Q3}(h:x.Ok A):x.Ok B:=by obtain⟨h0,h1⟩:=h;exact⟨Y7.Ok.mono a2 h0,X7.Ok.mono a2 h1⟩
def Q6.Ok.mono {A B:Nat}(a2:A<=B){x:Q6}(h:x.Ok A):x.Ok B:=by obtain⟨h0,h1,h2⟩:=h;exact⟨Zc h0 a2,⟨Zc h1.1 a2,fun y m=>Q3.Ok.mono a2 (h1.2 y m)⟩,h2⟩
def Q4.Ok.mono {A B:Nat}(a2:A<=B){x:Q4}(h:x.Ok A):x.Ok B:=by obtain⟨h0,h1,h2,h3,h4⟩:=h;exact⟨h0,h1,Y7.Ok.mono a2 h2,Zc h3 a2,h4⟩
def Q8.Ok.mono {A B:Nat}(a2:A<=B){x:Q8}(h:x.Ok A):x.Ok B:=by obtain⟨h0,h1⟩:=h;exact⟨h0,h1⟩
def Q2.Ok.mono {A B:Nat}(a2:A<=B){x:Q2}(h:x.Ok A):x.Ok B:=by obtain⟨h0,h1,h2⟩:=h;exact⟨Q6.Ok.mono a2 h0,⟨Zc h1.1 a2,fun y m=>Q8.Ok.mono a2 (h1.2 y m)⟩,⟨Zc h2.1 a2,fun y m=>Q4.Ok.mono a2 (h2.2 y m)⟩⟩
def Y0.Ok.mono {A B:Nat}(a2:A<=B){x:Y0}(h:x.Ok A):x.Ok B:=by obtain⟨h0,h1,h2⟩:=h;exact⟨h0,h1,⟨Zc h2.1 a2,fun y m=>Q4.Ok.mono a2 (h2.2 y m)⟩⟩
def Z0.Ok.mono {A B:Nat}(a2:A<=B){x:Z0}(h:x.Ok A):x.Ok B:=by obtain⟨h0,h1,h2⟩:=h;exact⟨Y0.Ok.mono a2 h0,h1,h2⟩
def X8.Ok.mono {A B:Nat}(a2:A<=B){x:X8}(h:x.Ok A):x.Ok B:=by obtain⟨h0,h1,h2⟩:=h;exact⟨Q6.Ok.mono a2 h0,h1,Z0.Ok.mono a2 h2⟩
def Y5.Ok.mono {A B:Nat}(a2:A<=B){x:Y5}(h:x.Ok A):x.Ok B:=by obtain⟨h0,h1,h2,h3⟩:=h;exact⟨h0,h1,h2,Zc h3 a2⟩
def X4.Ok.mono {A B:Nat}(a2:A<=B){x:X4}(h:x.Ok A):x.Ok B:=by obtain⟨h0,h1,h2⟩:=h;exact⟨Zc h0 a2,Zc h1 a2,Y5.Ok.mono a2 h2⟩
def X1.Ok.mono {A B:Nat}(a2:A<=B){x:X1}(h:x.Ok A):x.Ok B:=by obtain⟨h0,h1⟩:=h;exact⟨h0,⟨Zc h1.1 a2,fun y m=>X4.Ok.mono a2 (h1.2 y m)⟩⟩
def Y6.Ok.mono {A B:Nat}(a2:A<=B){x:Y6}(h:x.Ok A):x.Ok B:=by have h0:=h;exact⟨Zc h0.1 a2,fun y m=>X1.Ok.mono a2 (h0.2 y m)⟩
def Y1.Ok.mono {A B:Nat}(a2:A<=B){x:Y1}(h:x.Ok A):x.Ok B:=by obtain⟨h0,h1,h2,h3⟩:=h;exact⟨Zc h0 a2,h1,h2,h3⟩
def Y4.Ok.mono {A B:Nat}(a2:A<=B){x:Y4}(h:x.Ok A):x.Ok B:=by obtain⟨h0,h1⟩:=h;exact⟨Zc h0 a2,h1⟩
def Y8.Ok.mono {A B:Nat}(a2:A<=B){x:Y8}(h:x.Ok A):x.Ok B:=by obtain⟨h0,h1,h2,h3⟩:=h;exact⟨h0,h1,h2,Zc h3 a2⟩
def Z4.Ok.mono {A B:Nat}(a2:A<=B){x:Z4}(h:x.Ok A):x.Ok B:=by obtain⟨h0,h1,h2,h3⟩:=h;exact⟨⟨Zc h0.1 a2,fun y m=>Y8.Ok.mono a2 (h0.2 y m)⟩,h1,⟨Zc h2.1 a2,h2.2⟩,h3⟩
def X6.Ok.mono {A B:Nat}(a2:A<=B){x:X6}(h:x.Ok A):x.Ok B:=by obtain⟨h0,h1,h2,h3,h4,h5⟩:=h;exact⟨h0,Zc h1 a2,Zc h2 a2,h3,⟨Zc h4.1 a2,fun y m=>Y4.Ok.mono a2 (h4.2 y m)⟩,Z4.Ok.mono a2 h5⟩
def X0.Ok.mono {A B:Nat}(a2:A<=B){x:X0}(h:x.Ok A):x.Ok B:=by obtain⟨h0,h1⟩:=h;exact⟨Zc h0 a2,Zc h1 a2⟩
def Y2.Ok.mono {A B:Nat}(a2:A<=B){x:Y2}(h:x.Ok A):x.Ok B:=by obtain⟨h0,h1,h2,h3⟩:=h;exact⟨Zc h0 a2,h1,⟨Zc h2.1 a2,fun y m=>Q6.Ok.mono a2 (h2.2 y m)⟩,⟨Zc h3.1 a2,fun y m=>X0.Ok.mono a2 (h3.2 y m)⟩⟩
def Z8.Ok.mono {A B:Nat}(a2:A<=B){x:Z8}(h:x.Ok A):x.Ok B:=by obtain⟨h0,h1,h2⟩:=h;exact⟨Y2.Ok.mono a2 h0,Zc h1 a2,h2⟩
def Q1.Ok.mono {A B:Nat}(a2:A<=B){x:Q1}(h:x.Ok A):x.Ok B:=by obtain⟨h0,h1,h2,h3,h4,h5,h6⟩:=h;exact⟨Zc h0 a2,Zc h1 a2,Y1.Ok.mono a2 h2,Y6.Ok.mono a2 h3,Z8.Ok.mono a2 h4,X8.Ok.mono a2 h5,h6⟩
def Z5.Ok.mono {A B:Nat}(a2:A<=B){x:Z5}(h:x.Ok A):x.Ok B:=by have h0:=h;exact⟨Zc h0.1 a2,fun y m=>Q1.Ok.mono a2 (h0.2 y m)⟩
def X5.Ok.mono {A B:Nat}(a2:A<=B){x:X5}(h:x.Ok A):x.Ok B:=by obtain⟨h0,h1⟩:=h;exact⟨Zc h0 a2,h1⟩
def Y9.Ok.mono {A B:Nat}(a2:A<=B){x:Y9}(h:x.Ok A):x.Ok B:=by have h0:=h;exact⟨Zc h0.1 a2,fun y m=>X5.Ok.mono a2 (h0.2 y m)⟩
def X9.Ok.mono {A B:Nat}(a2:A<=B){x:X9}(h:x.Ok A):x.Ok B:=by obtain⟨h0,h1,h2⟩:=h;exact⟨h0,h1,h2⟩
def Z3.Ok.mono {A B:Nat}(a2:A<=B){x:Z3}(h:x.Ok A):x.Ok B:=by have h0:=h;exact⟨Zc h0.1 a2,fun y m=>X9.Ok.mono a2 (h0.2 y m)⟩
def X3.Ok.mono {A B:Nat}(a2:A<=B){x:X3}(h:x.Ok A):x.Ok B:=by obtain⟨h0,h1,h2⟩:=h;exact⟨Zc h0 a2,h1,⟨Zc h2.1 a2,fun y m=>Zc (h2.2 y m) a2⟩⟩
def Q5.Ok.mono {A B:Nat}(a2:A<=B){x:Q5}(h:x.Ok A):x.Ok B:=by obtain⟨h0,h2,h3,h4,h5,h6,h7,h8,h9⟩:=h;exact⟨h0,h2,Z5.Ok.mono a2 h3,⟨Zc h4.1 a2,fun y m=>X6.Ok.mono a2 (h4.2 y m)⟩,h5,Y9.Ok.mono a2 h6,Z3.Ok.mono a2 h7,⟨Zc h8.1 a2,fun y m=>X3.Ok.mono a2 (h8.2 y m)⟩,⟨Zc h9.1 a2,fun y m=>Q2.Ok.mono a2 (h9.2 y m)⟩⟩
end Gi
namespace Gi
open Go Go.RowKit
set_option maxHeartbeats 8000000
set_option maxRecDepth 4000
attribute [local simp] start qt dY fa fh gj fg gi gr gq rB rY rE rZ rH r8 rI r9 rJ sa rS sd rU se rV sf rW sh V.cells plain dP ja isInt isStr isBool bin eu i7 ew i9 gl un asList L.view cy V.view viewL dd cu eC dN eh comp cU dS eV dW dD dA dC cF ct df co cE cO cA dx du cH dE dF V.flat L.flat fe fv dK putAt thaw thawL thawT V.ow gn fj fk ez gm eA fi freezeVs freezeLs freezeL V.mut L.mut cN fx iI dj dQ cZ fI ed dH eB L.bD cQ fy ej fE ep eH wp_seq wp_block dh fo eD dO eE wp_skip wp_exit wp_ret eG eM eP eN eT eU eS dV cM L.bB cX cV cW fm dI storeD dg gZ cq eK cJ nP L.bG L.closed V.closed PV.bare PV.flat
def MK {z:Nat}{r:List (List PV)}:fe (.one (.own z r))=eW r:=rfl
def mn {α:Type}(f:α->Nat)(xs:List α):Nat:=(xs.map f).sum
def tB {α:Type}{f:α->Nat}{xs:List α}{k:Nat}(hk:k<xs.length):mn f (xs.take (k+1))=mn f (xs.take k)+f xs[k]:=by unfold mn;rw[ZQ hk,Qf,List.sum_append];simp
def xa {α:Type}{f:α->Nat}{c:Nat}(h:∀x,f x<=c):∀(xs:List α),mn f xs<=c*xs.length
 |[]=>by simp[mn]
 |x::xs=>by have:=xa h xs;have:=h x;simp only[mn,Zt,QZ,Zo,Nat.mul_add]at*;omega
def zV (x:Q3):Nat:=(qA x.aZ).length+(yR x.au).length
def rl (x:Q3):zV x<=110:=by have:=IK x.aZ;have:=IL x.au;unfold zV;omega
def qp (s:Q6):Nat:=mn zV s.a1
def wi {s:Q6}(h:s.Ok 1048576):cf Ph cK 197 [s.v]=some (ce .i64 (qp s:Nat)):=by
 refine ca rfl ?_;simp +contextual (maxSteps:=9^9) [sE];refine cP dz Cl.fin [.f,.f,.f,.t,.f,.f,.f,.t,.t,.t,.f,.f,.f,.f,.f,.f,.f,.f,.f,.f,.f,.f,.f,.f,.f,.f] (fun k=>[(3,ce .i64 (mn zV (s.a1.take k):Nat)),(9,ce .i64 k)]) s.a1.length (fun _=>false) rfl (by simp[mn]) (fun k hk _=> ?_) (fun _ _=> ?_);have hx:=Q3.e.eq_1 s.a1[k];have hi:=Q3.Ok.mono (B:=maxLen) (by unfold maxLen;omega) (h.2.1.2 _ (Zf hk));have e1:=DG hi.1;have e2:=zz hi.2;have l1:=IK s.a1[k].aZ;have l2:=IL s.a1[k].au;have l3:=xa rl (s.a1.take k);have l4:(s.a1.take k).length<=1048576:=by rw[ZI];have:=h.2.1.1;omega
 have ht:mn zV (s.a1.take (k+1))=mn zV (s.a1.take k)+((qA s.a1[k].aZ).length+(yR s.a1[k].au).length):=tB hk;rw[ht];generalize mn zV (s.a1.take k)=A at l3⊢;have g:=Kl s.a1[k].au;generalize Gq s.a1[k].au=W at e2 g;have q1:(cC (qA s.a1[k].aZ)).length=(qA s.a1[k].aZ).length:=eY;have q2:(cC (yR s.a1[k].au)).length=(yR s.a1[k].au).length:=eY;generalize (qA s.a1[k].aZ).length=a at l1 q1⊢;generalize (yR s.a1[k].au).length=b at l2 q2⊢;have w1:IntKind.i64.wrap ((a:Int)+(b:Int))=(a:Int)+(b:Int):=by rw[IntKind.wrap_i64];omega
 have w2:IntKind.i64.wrap ((A:Int)+((a:Int)+(b:Int)))=(A:Int)+((a:Int)+(b:Int)):=by rw[IntKind.wrap_i64];omega
 have w3:IntKind.i64.wrap ((A:Int)+(a:Int))=(A:Int)+(a:Int):=by rw[IntKind.wrap_i64];omega
 have w4:IntKind.i64.wrap ((A:Int)+(a:Int)+(b:Int))=(A:Int)+((a:Int)+(b:Int)):=by rw[IntKind.wrap_i64];omega
 simp(maxSteps:=9^9) [mD,hk,hx,e1,e2,MK, ↓g,q1,q2,w1,w2,w3,w4,cY (n:=s.a1.length) (by have:=h.2.1.1;unfold maxLen;omega) hk,dw hk,-fe];rw[Yd];simp(maxSteps:=9^9) [mD,qp]
def wu {s:Q6}(h:s.Ok 1048576):cf Ph cK 194 [s.v]=some (ce .i64 (qp s:Nat)):=by
 refine ca rfl ?_;simp +contextual (maxSteps:=9^9) [sU];refine cP dz Cl.fin [.f,.t,.f,.t,.t,.f,.f,.f,.f,.f,.f,.f,.f,.f,.f,.f,.f,.f,.f,.f,.f,.f,.f,.f,.f,.f,.f,.f,.f,.f,.f,.f] (fun k=>[(3,ce .i64 (mn zV (s.a1.take k):Nat)),(4,ce .i64 k)]) s.a1.length (fun _=>false) rfl (by simp[mn]) (fun k hk _=> ?_) (fun _ _=> ?_);have hx:=Q3.e.eq_1 s.a1[k];have hi:=Q3.Ok.mono (B:=maxLen) (by unfold maxLen;omega) (h.2.1.2 _ (Zf hk));have e1:=D5 hi.1;have e2:=zW hi.2;have l1:=IK s.a1[k].aZ;have l2:=IL s.a1[k].au;have l3:=xa rl (s.a1.take k);have l4:(s.a1.take k).length<=1048576:=by rw[ZI];have:=h.2.1.1;omega
 have ht:mn zV (s.a1.take (k+1))=mn zV (s.a1.take k)+((qA s.a1[k].aZ).length+(yR s.a1[k].au).length):=tB hk;rw[ht];generalize mn zV (s.a1.take k)=A at l3⊢;have g:=Kl s.a1[k].au;generalize Gq s.a1[k].au=W at e2 g;have q1:(cC (qA s.a1[k].aZ)).length=(qA s.a1[k].aZ).length:=eY;have q2:(cC (yR s.a1[k].au)).length=(yR s.a1[k].au).length:=eY;generalize (qA s.a1[k].aZ).length=a at l1 q1⊢;generalize (yR s.a1[k].au).length=b at l2 q2⊢;have w1:IntKind.i64.wrap ((a:Int)+(b:Int))=(a:Int)+(b:Int):=by rw[IntKind.wrap_i64];omega
 have w2:IntKind.i64.wrap ((A:Int)+((a:Int)+(b:Int)))=(A:Int)+((a:Int)+(b:Int)):=by rw[IntKind.wrap_i64];omega
 have w3:IntKind.i64.wrap ((A:Int)+(a:Int))=(A:Int)+(a:Int):=by rw[IntKind.wrap_i64];omega
 have w4:IntKind.i64.wrap ((A:Int)+(a:Int)+(b:Int))=(A:Int)+((a:Int)+(b:Int)):=by rw[IntKind.wrap_i64];omega
 simp(maxSteps:=9^9) [mI,hk,hx,e1,e2,MK, ↓g,q1,q2,w1,w2,w3,w4,cY (n:=s.a1.length) (by have:=h.2.1.1;unfold maxLen;omega) hk,dw hk,-fe];rw[Yd];simp(maxSteps:=9^9) [mI,qp]
def tn {α:Type}{f:α->Nat}{c:Nat}:∀{xs:List α},(∀x∈xs,f x<=c)->mn f xs<=c*xs.length
 |[],_=>by simp[mn]
 |x::xs,h=>by have h1:=tn (xs:=xs) (fun y hy=>h y (by simp[hy]));have h2:=h x (by simp);simp only[mn,Zt,QZ,Zo,Nat.mul_add]at*;omega
def yJ (d:Y2):Nat:=mn qp d.a9
def D3 {d:Y2}(h:d.Ok 1048576):yJ d<=115343360*1048576:=Zc (tn (c:=115343360) fun s hs=>Zc (xa rl _) (by have:=(h.2.2.1.2 s hs).2.1.1;omega)) (QN _ h.2.2.1.1)
def zB {d:Y2}(h:d.Ok 1048576):cf Ph cK 224 [d.v]=some (ce .i64 (yJ d:Nat)):=by
 refine ca rfl ?_;simp +contextual (maxSteps:=9^9) [oW];refine cP dz Cl.fin [.f,.f,.f,.t,.f,.f,.f,.t,.t,.t,.f,.f,.f,.f,.f,.f,.f,.f,.f] (fun k=>[(3,ce .i64 (mn qp (d.a9.take k):Nat)),(9,ce .i64 k)]) d.a9.length (fun _=>false) rfl (by simp[mn]) (fun k hk _=> ?_) (fun _ _=> ?_);have hx:=Q6.e.eq_1 d.a9[k];have hi:=h.2.2.1.2 _ (Zf hk);have e1:=wi hi;have l1:qp d.a9[k]<=115343360:=Zc (xa rl _) (by have:=hi.2.1.1;omega);have l3:=tn (f:=qp) (c:=115343360) (xs:=d.a9.take k) (fun s hs=>Zc (xa rl _) (by have:=(h.2.2.1.2 s (ZB hs)).2.1.1;omega));have l4:(d.a9.take k).length<=1048576:=by rw[ZI];have:=h.2.2.1.1;omega
 rw[tB hk];generalize mn qp (d.a9.take k)=A at l3⊢;generalize qp d.a9[k]=a at l1 e1⊢;have w1:IntKind.i64.wrap ((A:Int)+(a:Int))=(A:Int)+(a:Int):=by rw[IntKind.wrap_i64];omega
 simp(maxSteps:=9^9) [kE,hk,hx,e1,w1,cY (n:=d.a9.length) (by have:=h.2.2.1.1;unfold maxLen;omega) hk,dw hk];rw[Yd];simp(maxSteps:=9^9) [kE,yJ]
def Fz {x:Z8}(h:x.Ok 1048576):cf Ph cK 196 [x.v]=some (ce .i64 (yJ x.aB+x.aw.length:Nat)):=by
 have e1:=zB h.1;have l1:=D3 h.1;have l2:=h.2.1;generalize yJ x.aB=A at e1 l1⊢;have w1:IntKind.i64.wrap ((A:Int)+(x.aw.length:Int))=(A:Int)+(x.aw.length:Int):=by rw[IntKind.wrap_i64];omega
 refine ca rfl ?_;simp +contextual (maxSteps:=9^9) [tR,e1,w1,eY]
def zY {d:Y2}(h:d.Ok 1048576):cf Ph cK 220 [d.v]=some (ce .i64 (yJ d:Nat)):=by
 refine ca rfl ?_;simp +contextual (maxSteps:=9^9) [pa];refine cP dz Cl.fin [.f,.t,.f,.t,.t,.f,.f,.f,.f,.f,.f,.f,.f,.f,.f,.f,.f,.f,.f,.f,.f] (fun k=>[(3,ce .i64 (mn qp (d.a9.take k):Nat)),(4,ce .i64 k)]) d.a9.length (fun _=>false) rfl (by simp[mn]) (fun k hk _=> ?_) (fun _ _=> ?_);have hx:=Q6.e.eq_1 d.a9[k];have hi:=h.2.2.1.2 _ (Zf hk);have e1:=wu hi;have l1:qp d.a9[k]<=115343360:=Zc (xa rl _) (by have:=hi.2.1.1;omega);have l3:=tn (f:=qp) (c:=115343360) (xs:=d.a9.take k) (fun s hs=>Zc (xa rl _) (by have:=(h.2.2.1.2 s (ZB hs)).2.1.1;omega));have l4:(d.a9.take k).length<=1048576:=by rw[ZI];have:=h.2.2.1.1;omega
 rw[tB hk];generalize mn qp (d.a9.take k)=A at l3⊢;generalize qp d.a9[k]=a at l1 e1⊢;have w1:IntKind.i64.wrap ((A:Int)+(a:Int))=(A:Int)+(a:Int):=by rw[IntKind.wrap_i64];omega
 simp(maxSteps:=9^9) [kG,hk,hx,e1,w1,cY (n:=d.a9.length) (by have:=h.2.2.1.1;unfold maxLen;omega) hk,dw hk];rw[Yd];simp(maxSteps:=9^9) [kG,yJ]
def F2 {x:Z8}(h:x.Ok 1048576):cf Ph cK 193 [x.v]=some (ce .i64 (yJ x.aB+x.aw.length:Nat)):=by
 have e1:=zY h.1;have l1:=D3 h.1;have l2:=h.2.1;generalize yJ x.aB=A at e1 l1⊢;have w1:IntKind.i64.wrap ((A:Int)+(x.aw.length:Int))=(A:Int)+(x.aw.length:Int):=by rw[IntKind.wrap_i64];omega
 refine ca rfl ?_;simp +contextual (maxSteps:=9^9) [t9,e1,w1,eY]
def GJ (b:Bool)(x:Y5):Nat:=cond b 76 (16+x.body.length)
def xI (e:X4):Nat:=GJ (e.ao.b3==3) e.ao
def zU {e:X4}(h:e.Ok 1048576):xI e<=1048592:=by have:=h.2.2.2.2.2;unfold xI GJ;cases(e.ao.b3==3)<;>simp only[cond_true,cond_false]<;>omega
def BE (c:X1):Nat:=mn xI c.a8
def Ko {c:X1}(h:c.Ok 1048576):BE c<=1048592*1048576:=Zc (tn fun e he=>zU (h.2.2 e he)) (QN _ h.2.1)
def GI (s:Y6):Nat:=mn BE s.a3
def Ci {x:Y5}(h:x.body.length<=1048576)(b:Bool):cf Ph cK 223 [x.v,cL b]=some (ce .i64 (GJ b x:Nat)):=by
 have w1:IntKind.i64.wrap (16+(x.body.length:Int))=16+(x.body.length:Int):=by rw[IntKind.wrap_i64];omega
 refine ca rfl ?_;cases b<;>simp(maxSteps:=9^9) [qK,GJ,w1,eY]
def Cg {s:Y6}(h:s.Ok 1048576):cf Ph cK 195 [s.v]=some (ce .i64 (GI s:Nat)):=by
 refine ca rfl ?_;simp +contextual (maxSteps:=9^9) [qJ];refine cP dz Cl.fin [.f,.f,.f,.t,.f,.f,.f,.f,.f,.t,.t,.t,.f,.f,.f,.f,.f,.f,.f,.f,.f,.f,.f,.f,.f,.f,.f,.f,.f,.f,.f,.f,.f,.f] (fun k=>[(3,ce .i64 (mn BE (s.a3.take k):Nat)),(11,ce .i64 k)]) s.a3.length (fun _=>false) rfl (by simp[mn]) (fun k hk _=> ?_) (fun _ _=> ?_);have hx:=X1.e.eq_1 s.a3[k];have hc:=h.2 _ (Zf hk);have wk:=cY (n:=s.a3.length) (by have:=h.1;unfold maxLen;omega) hk;have l4:=tn (f:=BE) (c:=1048592*1048576) (xs:=s.a3.take k) (fun c hm=>Ko (h.2 c (ZB hm)));have l5:(s.a3.take k).length<=1048576:=by rw[ZI];have:=h.1;omega
 rw[tB hk];generalize mn BE (s.a3.take k)=A at l4⊢;simp(maxSteps:=9^9) [lA,hk,hx,dw hk];refine cP dz Cl.kn [.f,.f,.f,.t,.f,.f,.f,.f,.f,.t,.t,.t,.f,.f,.f,.f,.t,.t,.t,.f,.f,.f,.f,.f,.f,.f,.f,.f,.f,.f,.f,.f,.f,.f] (fun j=>[(3,ce .i64 (A+mn xI (s.a3[k].a8.take j):Nat)),(18,ce .i64 j)]) s.a3[k].a8.length (fun _=>false) rfl (by simp[mn]) (fun j hj _=> ?_) (fun _ _=> ?_);have hy:=X4.e.eq_1 s.a3[k].a8[j];have he:=hc.2.2 _ (Zf hj);have e1:=fun b=>Ci (x:=s.a3[k].a8[j].ao) he.2.2.2.2.2 b;have wj:=cY (n:=s.a3[k].a8.length) (by have:=hc.2.1;unfold maxLen;omega) hj;have l1:=zU he;have l2:=tn (f:=xI) (c:=1048592) (xs:=s.a3[k].a8.take j) (fun c hm=>zU (hc.2.2 c (ZB hm)));have l3:(s.a3[k].a8.take j).length<=1048576:=by rw[ZI];have:=hc.2.1;omega
 have hs:GJ (s.a3[k].a8[j].ao.b3==3) s.a3[k].a8[j].ao=xI s.a3[k].a8[j]:=rfl;have e2:=e1 (s.a3[k].a8[j].ao.b3==3);rw[hs]at e2;rw[tB hj];generalize mn xI (s.a3[k].a8.take j)=D at l2⊢;generalize xI s.a3[k].a8[j]=a at l1 e2⊢;have w1:IntKind.i64.wrap ((A:Int)+(D:Int)+(a:Int))=(A:Int)+((D:Int)+(a:Int)):=by rw[IntKind.wrap_i64];omega
 simp(maxSteps:=9^9) [jX,hk,hj,hx,hy,e2,w1,wj,dw hj];rw[Yd];simp(maxSteps:=9^9) [jX,hk,hx,wk,BE];rw[Yd];simp(maxSteps:=9^9) [lA,GI]
def Cz {x:Y5}(h:x.body.length<=1048576)(b:Bool):cf Ph cK 219 [x.v,cL b]=some (ce .i64 (GJ b x:Nat)):=by
 have w1:IntKind.i64.wrap (16+(x.body.length:Int))=16+(x.body.length:Int):=by rw[IntKind.wrap_i64];omega
 refine ca rfl ?_;cases b<;>simp(maxSteps:=9^9) [qW,GJ,w1,eY]
def Cy {s:Y6}(h:s.Ok 1048576):cf Ph cK 192 [s.v]=some (ce .i64 (GI s:Nat)):=by
 refine ca rfl ?_;simp +contextual (maxSteps:=9^9) [qV];refine cP dz Cl.fin [.f,.t,.f,.t,.t,.f,.f,.f,.f,.f,.f,.f,.f,.f,.f,.f,.f,.f,.f,.f,.f,.f,.f,.f,.f,.f,.f,.f,.f,.f,.f,.f,.f,.f,.f,.f,.f,.f,.f,.f,.f,.f,.f] (fun k=>[(3,ce .i64 (mn BE (s.a3.take k):Nat)),(4,ce .i64 k)]) s.a3.length (fun _=>false) rfl (by simp[mn]) (fun k hk _=> ?_) (fun _ _=> ?_);have hx:=X1.e.eq_1 s.a3[k];have hc:=h.2 _ (Zf hk);have wk:=cY (n:=s.a3.length) (by have:=h.1;unfold maxLen;omega) hk;have l4:=tn (f:=BE) (c:=1048592*1048576) (xs:=s.a3.take k) (fun c hm=>Ko (h.2 c (ZB hm)));have l5:(s.a3.take k).length<=1048576:=by rw[ZI];have:=h.1;omega
 rw[tB hk];generalize mn BE (s.a3.take k)=A at l4⊢;simp(maxSteps:=9^9) [lF,hk,hx,dw hk];refine cP dz Cl.kn [.f,.t,.f,.t,.t,.t,.f,.f,.f,.f,.f,.f,.f,.f,.f,.f,.f,.f,.f,.f,.f,.f,.f,.f,.f,.f,.f,.f,.f,.f,.f,.f,.f,.f,.f,.f,.f,.f,.f,.f,.f,.f,.f] (fun j=>[(3,ce .i64 (A+mn xI (s.a3[k].a8.take j):Nat)),(5,ce .i64 j)]) s.a3[k].a8.length (fun _=>false) rfl (by simp[mn]) (fun j hj _=> ?_) (fun _ _=> ?_);have hy:=X4.e.eq_1 s.a3[k].a8[j];have he:=hc.2.2 _ (Zf hj);have e1:=fun b=>Cz (x:=s.a3[k].a8[j].ao) he.2.2.2.2.2 b;have wj:=cY (n:=s.a3[k].a8.length) (by have:=hc.2.1;unfold maxLen;omega) hj;have l1:=zU he;have l2:=tn (f:=xI) (c:=1048592) (xs:=s.a3[k].a8.take j) (fun c hm=>zU (hc.2.2 c (ZB hm)));have l3:(s.a3[k].a8.take j).length<=1048576:=by rw[ZI];have:=hc.2.1;omega
 have hs:GJ (s.a3[k].a8[j].ao.b3==3) s.a3[k].a8[j].ao=xI s.a3[k].a8[j]:=rfl;have e2:=e1 (s.a3[k].a8[j].ao.b3==3);rw[hs]at e2;rw[tB hj];generalize mn xI (s.a3[k].a8.take j)=D at l2⊢;generalize xI s.a3[k].a8[j]=a at l1 e2⊢;have w1:IntKind.i64.wrap ((A:Int)+(D:Int)+(a:Int))=(A:Int)+((D:Int)+(a:Int)):=by rw[IntKind.wrap_i64];omega
 simp(maxSteps:=9^9) [jZ,hk,hj,hx,hy,e2,w1,wj,dw hj];rw[Yd];simp(maxSteps:=9^9) [jZ,hk,hx,wk,BE];rw[Yd];simp(maxSteps:=9^9) [lF,GI]
def R9 {s:Y6}(h:s.Ok 1048576):GI s<=1048592*1048576*1048576:=Zc (tn fun c hm=>Ko (h.2 c hm)) (QN _ h.1)
def SN (x:Q1):Nat:=GI x.a3+(yJ x.aM.aB+x.aM.aw.length)+qp x.a4.aB+40*x.a4.aH.a6.aA.length
def HE {x:Q1}(h:x.Ok 1048576):cf Ph cK 162 [x.v]=some (ce .i64 (SN x:Nat)):=by
 obtain⟨_,_,_,hc,hd,hr,_⟩:=h;have e1:=Cg hc;have e2:=Fz hd;have e3:=wi hr.1;have l1:=R9 hc;have l2:=D3 hd.1;have l3:qp x.a4.aB<=115343360:=Zc (xa rl _) (by have:=hr.1.2.1.1;omega);have l4:=hd.2.1;have l5:x.a4.aH.a6.aA.length<=1048576:=hr.2.2.1.2.2.1;unfold SN;generalize GI x.a3=A at e1 l1⊢;generalize yJ x.aM.aB=B at e2 l2⊢;generalize qp x.a4.aB=C at e3 l3⊢;have w1:IntKind.i64.wrap ((A:Int)+((B:Int)+(x.aM.aw.length:Int)))=(A:Int)+((B:Int)+(x.aM.aw.length:Int)):=by rw[IntKind.wrap_i64];omega
 have w2:IntKind.i64.wrap ((A:Int)+((B:Int)+(x.aM.aw.length:Int))+(C:Int))=(A:Int)+((B:Int)+(x.aM.aw.length:Int))+(C:Int):=by rw[IntKind.wrap_i64];omega
 have w3:IntKind.i64.wrap (40*(x.a4.aH.a6.aA.length:Int))=40*(x.a4.aH.a6.aA.length:Int):=by rw[IntKind.wrap_i64];omega
 have w4:IntKind.i64.wrap ((A:Int)+((B:Int)+(x.aM.aw.length:Int))+(C:Int)+40*(x.a4.aH.a6.aA.length:Int))=(A:Int)+((B:Int)+(x.aM.aw.length:Int))+(C:Int)+40*(x.a4.aH.a6.aA.length:Int):=by rw[IntKind.wrap_i64];omega
 refine ca rfl ?_;simp +contextual (maxSteps:=9^9) [uN,e1,e2,e3,w1,w2,w3,w4]
def HM {x:Q1}(h:x.Ok 1048576):cf Ph cK 161 [x.v]=some (ce .i64 (SN x:Nat)):=by
 obtain⟨_,_,_,hc,hd,hr,_⟩:=h;have e1:=Cy hc;have e2:=F2 hd;have e3:=wu hr.1;have l1:=R9 hc;have l2:=D3 hd.1;have l3:qp x.a4.aB<=115343360:=Zc (xa rl _) (by have:=hr.1.2.1.1;omega);have l4:=hd.2.1;have l5:x.a4.aH.a6.aA.length<=1048576:=hr.2.2.1.2.2.1;unfold SN;generalize GI x.a3=A at e1 l1⊢;generalize yJ x.aM.aB=B at e2 l2⊢;generalize qp x.a4.aB=C at e3 l3⊢;have w1:IntKind.i64.wrap ((A:Int)+((B:Int)+(x.aM.aw.length:Int)))=(A:Int)+((B:Int)+(x.aM.aw.length:Int)):=by rw[IntKind.wrap_i64];omega
 have w2:IntKind.i64.wrap ((A:Int)+((B:Int)+(x.aM.aw.length:Int))+(C:Int))=(A:Int)+((B:Int)+(x.aM.aw.length:Int))+(C:Int):=by rw[IntKind.wrap_i64];omega
 have w3:IntKind.i64.wrap (40*(x.a4.aH.a6.aA.length:Int))=40*(x.a4.aH.a6.aA.length:Int):=by rw[IntKind.wrap_i64];omega
 have w4:IntKind.i64.wrap ((A:Int)+((B:Int)+(x.aM.aw.length:Int))+(C:Int)+40*(x.a4.aH.a6.aA.length:Int))=(A:Int)+((B:Int)+(x.aM.aw.length:Int))+(C:Int)+40*(x.a4.aH.a6.aA.length:Int):=by rw[IntKind.wrap_i64];omega
 refine ca rfl ?_;simp +contextual (maxSteps:=9^9) [uU,e1,e2,e3,w1,w2,w3,w4]
end Gi
