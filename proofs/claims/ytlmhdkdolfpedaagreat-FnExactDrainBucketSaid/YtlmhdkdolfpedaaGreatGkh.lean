/- Of this proof. -/
import Derived.Test.YtlmhdkdolfpedaaGreatGks
import Derived.Test.YtlmhdkdolfpedaaGreatGlB
set_option linter.all false
namespace Gi
open Go Go.RowKit
set_option maxHeartbeats 8000000
set_option maxRecDepth 4000
attribute [local simp] start qY dX eX fi gx fh gv gC gB sE sO sF sP sG sQ sH sR sI sS sJ sU sK sV sM sW sN sX V.cells plain dM iZ isInt isStr isBool bin ez je eA jf gy un asList L.view cy V.view viewL dd cu eD dN ee comp cV dS eV dV dC dz dA cG ct df cq cF cO cA dx du cI dD dF V.flat L.flat fb ft dK putAt thaw thawL thawT V.ow gA fk fm eB gz eC fj freezeVs freezeLs freezeL V.mut L.mut cN fI iE dj dQ cZ fK ed dE ew L.bC cT fA ep fD ej eG wp_seq wp_block dk fq eE dO eF wp_skip wp_exit wp_ret eJ eM eP eO eS eT eR dU cM L.bA cY cW cX fo dI storeD de hJ co eK cJ nI L.bE L.closed V.closed PV.bare PV.flat
abbrev xS (s:List UInt8):Bool:=vi s 30 true
def BV {s:List UInt8}(h:s.length<=maxLen):cf Ph cL 389 [fY s]=some (cK (xS s)):=by refine ca rfl ?_;simp(maxSteps:=9^9) [qt,zj h]
def Cb {s:List UInt8}(h:s.length<=maxLen):cf Ph cL 386 [fY s]=some (cK (xS s)):=by refine ca rfl ?_;simp +contextual (maxSteps:=9^9) [qH];refine cP dG Cl.fin [.t,.f,.f,.t,.f,.f,.f,.f,.f,.f,.f,.f,.f,.f,.f,.f,.f,.f,.f,.f,.f,.f,.f,.f,.f,.f,.f,.f,.f] (fun k=>[(3,ce .i64 k)]) s.length (SD true s) rfl (by simp) (fun k hk _=> ?_) (fun _ hp=> ?_);simp +contextual (maxSteps:=9^9) [lq,SD,xS,vi,hk,da h hk,dw hk];simp +contextual (maxSteps:=9^9) [lq,xS,vi,hp,eN]
def vh (x:Y5):Bool:=rg x.b3 1 4&&(rg x.ay 0 999&&(rg x.aC 0 1000000000000&& !(dZ 60 x.body.length)))
def mD (x:Y5):cf Ph cL 403 [x.v]=some (cK (vh x)):=by refine ca rfl ?_;simp +contextual (maxSteps:=9^9) [qu,dR,vh,eU]
def Cc (x:Y5):cf Ph cL 408 [x.v]=some (cK (vh x)):=by refine ca rfl ?_;simp +contextual (maxSteps:=9^9) [qI,eN,vh,eU]
def AO (x:Q4):Bool:=rg x.aY 1 1000000&&(rg x.an 1 1000000&&(nA x.aZ&&(fU x.aU&&rg x.n 0 1000000000)))
def nc {x:Q4}(h:x.Ok maxLen):cf Ph cL 390 [x.v]=some (cK (AO x)):=by refine ca rfl ?_;simp +contextual (maxSteps:=9^9) [nP,dR,pb h.2.2.1,eL h.2.2.2.1,AO]
def ng {x:Q4}(h:x.Ok maxLen):cf Ph cL 383 [x.v]=some (cK (AO x)):=by refine ca rfl ?_;simp +contextual (maxSteps:=9^9) [nT,eN,pf h.2.2.1,fR h.2.2.2.1,AO]
def yM (a b:Q1):Bool:=Op.bytesLess a.aP b.aP||(a.aP==b.aP&&Op.bytesLess a.av b.av)
def ze (a b:Q1):cf Ph cL 388 [a.v,b.v]=some (cK (yM a b)):=by refine ca rfl ?_;simp +contextual (maxSteps:=9^9) [oO,yM]
def Hy (a b:Q1):cf Ph cL 385 [a.v,fY b.aP,fY b.av]=some (cK (yM a b)):=by refine ca rfl ?_;simp +contextual (maxSteps:=9^9) [uY,yM]
def Co :List (List UInt8):=[[98,97,110,107],[110,101,119,115],[115,104,111,112]]
def xq :cf Ph cL 181 []=some (.one (.own 1 (Co.map zz))):=by refine ca rfl ?_;simp(maxSteps:=9^9) [tU,Co,zz]
def Js {us:List (List UInt8)}(hl:us.length<=maxLen)(x:List UInt8):cf Ph cL 182 [eQ (us.map zz),fY x]=some (ce .i64 (fO (fun u=>x==u) us)):=by
 refine ca rfl ?_;simp +contextual (maxSteps:=9^9) [jM];refine cP dG Cl.fin [.t,.t,.f,.f,.f,.f,.f,.t,.t,.f,.f,.f,.f,.f,.f,.f,.f,.f,.f] (fun k=>[(8,ce .i64 k)]) us.length (kE (fun u=>x==u) us) rfl (by simp) (fun k hk hj=> ?_) (fun hj _=> ?_);have hf:=wB hk hj;have hs:(us.map zz)[k]'(by simpa using hk)=[.str us[k]]:=by simp[zz]
 cases hg:(x==us[k]);simp(maxSteps:=9^9) [gn,kE,hk,hg,da hl hk,dw hk,zz];have aj:=hf hg;have ha:kE (fun u=>x==u) us k=true:=by simp only[kE,hk,Zk,hg]
 generalize fO (fun u=>x==u) us=F at aj⊢;generalize kE (fun u=>x==u) us=A at ha⊢;simp(maxSteps:=9^9) [gn,ha,hk,hg,aj,da hl hk,dw hk,zz];simp +contextual (maxSteps:=9^9) [gn,wA hj]
def iR (s:List UInt8):Int:=fO (fun u=>s==u) Co
def ko (s:List UInt8):cf Ph cL 154 [fY s]=some (ce .i64 (iR s)):=by have e1:=Js (us:=Co) (by decide) s;simp only[Co,Zt,Zy,zz]at e1;refine ca rfl ?_;simp(maxSteps:=9^9) [qv,e1,iR,Co]
def MP (l v:Int):Bool:= !(rg v 0 1000000000000)||(!(v==0)&& !(dZ l v))
def nxG (l v:Int):Int:=if v=0 then l else v
def V9 (V:List Int)(k:Nat):Int:=(V.take k).foldl nxG 0
def MQ (V:List Int)(k:Nat):Bool:=match V[k]? with
 |some v=>MP (V9 V k) v
 |none=>false
def Jy (r:Y1):Bool:= !(jP [r.ak,r.ah,r.aV].length (MQ [r.ak,r.ah,r.aV]))&&fU r.aP
def acV {l v:Int}(h:MP l v=true):(rg v 0 1000000000000=true->(v==0)=false)/\ (rg v 0 1000000000000=true->dZ l v=false):=by refine⟨fun g=> ?_,fun g=> ?_⟩<;>rw[MP,g]at h<;>simp at h;simpa using h.1;exact h.2
def aaj {l v:Int}(h:MP l v=false)(hl:0<=l):rg v 0 1000000000000=true/\ ((v==0)=false->dZ l v=true)/\ (if l<v then v else l)=nxG l v/\ 0<=nxG l v:=by simp only[MP,ZR,Ya,Qr,beq_iff_eq]at h;obtain⟨h1,h2⟩:=h;unfold nxG;by_cases z:v=0;rw[if_pos z];subst z;exact⟨h1,fun q=>by simp at q,by rw[if_neg (by omega)],hl⟩;rw[if_neg z];have h3:=h2.resolve_left z;have:=of_decide_eq_true h3;exact⟨h1,fun _=>h3,by rw[if_pos this],by omega⟩
def aaZ {V:List Int}{k:Nat}(hk:k<V.length):V9 V (k+1)=nxG (V9 V k) V[k]:=by unfold V9;rw[ZQ hk,Qn];rfl
def NJ {V:List Int}:∀{k:Nat},k<=V.length->(∀j,j<k->MQ V j=false)->0<=V9 V k
 |0,_,_=>Int.le_refl 0
 |k+1,hk,hj=>by have ih:=NJ (V:=V) (k:=k) (by omega) (fun j h=>hj j (by omega));have hb:=hj k (by omega);have al:k<V.length:=hk;simp only[MQ,al,Zk]at hb;rw[aaZ al];exact(aaj hb ih).2.2.2
def xP {r:Y1}(h:r.Ok maxLen):cf Ph cL 395 [r.v]=some (cK (Jy r)):=by
 have e1:=eL h.1;unfold Jy;obtain⟨V,hV⟩:∃V,V=[r.ak,r.ah,r.aV]:=⟨_,rfl⟩;have hR:[[PV.int .i64 r.ak],[PV.int .i64 r.ah],[PV.int .i64 r.aV]]=V.map AC:=by rw[hV];rfl
 have hl:V.length=3:=by rw[hV];rfl
 rw[<-hV];refine ca rfl ?_;simp(maxSteps:=9^9) [mY];rw[hR];clear hR hV;refine cP dG Cl.fin [.f,.t,.f,.t,.f,.f,.f,.f,.f,.f,.f,.f,.t,.t,.t,.f,.f,.f,.f,.f,.f,.f,.f,.f,.f,.f,.f,.f,.f,.f,.f,.f,.f,.f,.f,.f,.f] (fun k=>[(3,ce .i64 (V9 V k)),(14,ce .i64 k)]) V.length (MQ V) rfl (by simp[V9,hl]) (fun k hk hj=> ?_) (fun _ hp=> ?_);have a6:=NJ (YU hk) hj;have hs:=aaZ hk;have hb:MQ V k=MP (V9 V k) V[k]:=by simp[MQ,hk]
 have e3:=dR V[k] 0 1000000000000;have w:=da (n:=V.length) (by rw[hl];decide) hk;have lk:dZ (k:Int) 3=true:=ji (by omega);have a7:k<3:=by omega
 rw[hb,hs];generalize V9 V k=l at a6⊢;generalize hv:V[k]=v at e3⊢;cases b:MP l v;obtain⟨g,z,mx,_⟩:=aaj b a6;rw[g]at e3;cases z0:(v==0);have z1:=z z0;have nx:nxG l v=v:=if_neg (by simpa using z0);simp(maxSteps:=9^9) [gm,hk,a7,hl,hv,AC,e3,z0,z1,mx,nx,w,lk];have nx:nxG l v=l:=if_pos (by simpa using z0);simp(maxSteps:=9^9) [gm,hk,a7,hl,hv,AC,e3,z0,mx,nx,w,lk];obtain⟨q1,q2⟩:=acV b;cases g:rg v 0 1000000000000<;>rw[g]at e3;simp +contextual (maxSteps:=9^9) [gm,hk,a7,hl,hv,AC,e3,w,lk];have q3:=q1 g;have q4:=q2 g;simp +contextual (maxSteps:=9^9) [gm,hk,a7,hl,hv,AC,e3,q3,q4,w,lk];rw[hl]at hp;simp(maxSteps:=9^9) [gm,hp,hl,e1,show dZ 3 3=false from rfl]
def yc {r:Y1}(h:r.Ok maxLen):cf Ph cL 391 [r.v]=some (cK (Jy r)):=by
 have e1:=fR h.1;unfold Jy;obtain⟨V,hV⟩:∃V,V=[r.ak,r.ah,r.aV]:=⟨_,rfl⟩;have hR:[[PV.int .i64 r.ak],[PV.int .i64 r.ah],[PV.int .i64 r.aV]]=V.map AC:=by rw[hV];rfl
 have hl:V.length=3:=by rw[hV];rfl
 rw[<-hV];refine ca rfl ?_;simp(maxSteps:=9^9) [m6];rw[hR];clear hR hV;refine cP dG Cl.fin [.f,.t,.f,.t,.t,.t,.f,.f,.f,.f,.f,.f,.f,.f,.f,.f,.f,.f,.f,.f,.f,.f,.f,.f,.f,.f,.f,.f,.f,.f,.f,.f,.f,.f,.f,.f,.f,.f,.f,.f,.f,.f,.f,.f,.f,.f,.f,.f,.f,.f,.f,.f] (fun k=>[(3,ce .i64 (V9 V k)),(5,ce .i64 k)]) V.length (MQ V) rfl (by simp[V9,hl]) (fun k hk hj=> ?_) (fun _ hp=> ?_);have a6:=NJ (YU hk) hj;have hs:=aaZ hk;have hb:MQ V k=MP (V9 V k) V[k]:=by simp[MQ,hk]
 have e3:=eN V[k] 0 1000000000000;have w:=da (n:=V.length) (by rw[hl];decide) hk;have lk:dZ (k:Int) 3=true:=ji (by omega);have a7:k<3:=by omega
 rw[hb,hs];generalize V9 V k=l at a6⊢;generalize hv:V[k]=v at e3⊢;cases b:MP l v;obtain⟨g,z,mx,_⟩:=aaj b a6;rw[g]at e3;cases z0:(v==0);have z1:=z z0;have nx:nxG l v=v:=if_neg (by simpa using z0);simp(maxSteps:=9^9) [gq,hk,a7,hl,hv,AC,e3,z0,z1,mx,nx,w,lk];have nx:nxG l v=l:=if_pos (by simpa using z0);simp(maxSteps:=9^9) [gq,hk,a7,hl,hv,AC,e3,z0,mx,nx,w,lk];obtain⟨q1,q2⟩:=acV b;cases g:rg v 0 1000000000000<;>rw[g]at e3;simp +contextual (maxSteps:=9^9) [gq,hk,a7,hl,hv,AC,e3,w,lk];have q3:=q1 g;have q4:=q2 g;simp +contextual (maxSteps:=9^9) [gq,hk,a7,hl,hv,AC,e3,q3,q4,w,lk];rw[hl]at hp;simp(maxSteps:=9^9) [gq,hp,hl,e1,show dZ 3 3=false from rfl]
def zx (fs:List Q8)(nm:List UInt8):Nat:=fs.findIdx fun f=> !(Op.bytesLess f.aG nm)
def NS (fs:List Q8)(nm:List UInt8):zx fs nm<=fs.length:=List.findIdx_le_length
def Tq {fs:List Q8}{nm:List UInt8}{k:Nat}(h:k<zx fs nm)(hk:k<fs.length):Op.bytesLess fs[k].aG nm=true:=by have:=List.not_of_lt_findIdx h;simpa using this
def Tp {fs:List Q8}{nm:List UInt8}(h:zx fs nm<fs.length):Op.bytesLess fs[zx fs nm].aG nm=false:=by have:=List.findIdx_getElem (w:=h);unfold zx;simpa using this
def yb (fs:List Q8)(nm:List UInt8)(n:Int):List Q8:=match fs[zx fs nm]? with
 |some f=>if f.aG=nm then fs.set (zx fs nm) ⟨nm,n⟩else fs.take (zx fs nm)++(⟨nm,n⟩::fs.drop (zx fs nm))
 |none=>fs.take (zx fs nm)++(⟨nm,n⟩::fs.drop (zx fs nm))
def abh (fs:List Q8)(nm:List UInt8)(n:Int):(yb fs nm n).length<=fs.length+1:=by have:=NS fs nm;unfold yb;split;split;simp;simp;omega;simp;omega
def abi {fs:List Q8}{nm:List UInt8}{n:Int}{f:Q8}(h:f∈yb fs nm n):f∈fs \/f=⟨nm,n⟩:=by
 have key:f∈fs.take (zx fs nm)++(⟨nm,n⟩::fs.drop (zx fs nm))->f∈fs \/f=⟨nm,n⟩:=fun h=>by rw[Ye,ZF]at h;rcases h with h|h|h;exact .inl (ZA h);exact .inr h;exact .inl (Yc h)
 unfold yb at h;split at h;split at h;exact ZK h;exact key h;exact key h
def UL {B:Nat}{fs:List Q8}(h:fs.length<=B/\ ∀f∈fs,f.Ok B){nm:List UInt8}(hn:nm.length<=B){n:Int}(hi:nV n):(yb fs nm n).length<=B+1/\ ∀f∈yb fs nm n,f.Ok (B+1):=by refine⟨by have:=abh fs nm n;omega,fun f hf=> ?_⟩;rcases abi hf with h1|rfl;exact Q8.Ok.mono (by omega) (h.2 f h1);exact⟨by simp only;omega,hi⟩
def B3 :∀{a b c:List UInt8},Op.bytesLess a b=true->Op.bytesLess b c=true->Op.bytesLess a c=true
 |[],[],_,h,_=>by cases h
 |[],_::_,[],_,h=>by cases h
 |[],_::_,_::_,_,_=>rfl
 |_::_,[],_,h,_=>by cases h
 |_::_,_::_,[],_,h=>by cases h
 |a::x,b::y,c::z,h,k=>by simp only[Op.bytesLess,YL,Zg,decide_eq_true_eq,beq_iff_eq]at h k⊢;rcases h with h|⟨rfl,h⟩;rcases k with k|⟨rfl,k⟩;exact .inl (UInt8.lt_trans h k);exact .inl h;rcases k with k|⟨rfl,k⟩;exact .inl k;exact .inr ⟨rfl,B3 h k⟩
def JD :∀(a:List UInt8),Op.bytesLess a a=false
 |[]=>rfl
 |a::x=>by simp[Op.bytesLess,UInt8.lt_irrefl,JD x]
def srt :List Q8->Prop
 |[]=>True
 |f::t=>(∀g∈t,Op.bytesLess f.aG g.aG=true)/\ srt t
def abu :∀{fs:List Q8},(∀j(h:j+1<fs.length),Op.bytesLess fs[j].aG fs[j+1].aG=true)->srt fs
 |[],_=>trivial
 |[f],_=>⟨by simp,trivial⟩
 |f::g::t,h=>by have ih:=abu (fs:=g::t) (fun j hj=>by have:=h (j+1) (by simpa using hj);simpa using this);refine⟨fun x hx=> ?_,ih⟩;have h0:=h 0 (by simp);simp at h0;rcases ZF.1 hx with rfl|hx;exact h0;exact B3 h0 (ih.1 x hx)
def abt :∀{fs:List Q8},srt fs->∀{i j:Nat}(h:i<j)(hj:j<fs.length),Op.bytesLess (fs[i]'(by omega)).aG fs[j].aG=true
 |[],_,_,_,_,hj=>by simp at hj
 |f::t,h,0,j+1,_,hj=>by simp only[Yy,YV];exact h.1 _ (Zf _)
 |f::t,h,i+1,j+1,aw,hj=>by simp only[YV];exact abt h.2 (by omega) _
 |f::t,h,i+1,0,aw,hj=>by omega
def V5 {a b:List UInt8}(h1:Op.bytesLess a b=false)(h2:a≠b):Op.bytesLess b a=true:=by have:=vj a b;rw[h1,beq_eq_false_iff_ne.2 h2]at this;simpa using this
def acA {fs:List Q8}(h:gJ fs=true):srt fs:=by refine abu fun j hj=> ?_;simp only[gJ,Zg,ZB]at h;have:=tq h.1 hj;simp only[Pa,hj,Zk,Qj,show j<fs.length by omega,ZR,Qr,Ya]at this;rcases this.2.2 with q|q;rw[ji (by omega)]at q;cases q;exact q
def aaD {nm:List UInt8}{fs:List Q8}(h:srt fs):fO (isF nm) fs=(match fs[zx fs nm]? with
 |some f=>if f.aG=nm then((zx fs nm:Nat):Int)else-1
 |none=> -1):=by
 have before:∀j,j<zx fs nm->kE (isF nm) fs j=false:=fun j hj=>by have h1:j<fs.length:=ZD hj (NS _ _);have:=Tq hj h1;simp only[kE,h1,Zk,isF,beq_eq_false_iff_ne];intro e;rw[e,JD]at this;cases this
 by_cases hp:zx fs nm<fs.length;simp only[hp,Zk];split;rename_i e;exact wB hp before (by simp[isF,e]);rename_i e;refine wA fun j hj=> ?_;by_cases q:j<zx fs nm;exact before j q;have h2:=V5 (Tp hp) e;simp only[kE,hj,Zk,isF,beq_eq_false_iff_ne];by_cases q2:j=zx fs nm;subst q2;exact e;intro e3;have:=abt h (i:=zx fs nm) (j:=j) (by omega) hj;rw[e3]at this;have:=B3 h2 this;rw[JD]at this;cases this;have:fs[zx fs nm]? =none:=ZT (by omega);rw[this];exact wA fun j hj=>before j (by omega)
def setR (fs:List Q8)(nm:List UInt8)(n:Int):List Q8×Bool:=cond (gJ fs&&gJ (yb fs nm n)) (yb fs nm n,true) (fs,false)
abbrev Fw (x:List Q8×Bool):V:= .b8 [(true,[.own 2 (x.1.map Q8.e)]),(false,[.pv (.bool x.2)])]
def DH (fs:List Q8)(nm:List UInt8)(n:Int)(h:∀f,fs[zx fs nm]? =some f->f.aG≠nm):(yb fs nm n).map Q8.e=(fs.map Q8.e).take (zx fs nm)++([.str nm, .int .i64 n]::(fs.map Q8.e).drop (zx fs nm)):=by
 have:yb fs nm n=fs.take (zx fs nm)++(⟨nm,n⟩::fs.drop (zx fs nm)):=by unfold yb;split;rename_i f hf;rw[if_neg (h f hf)];rfl
 rw[this];simp[Q8.e]
def DJ {fs:List Q8}{nm:List UInt8}{n:Int}(hk:zx fs nm<fs.length)(h:fs[zx fs nm].aG=nm):(yb fs nm n).map Q8.e=(fs.map Q8.e).set (zx fs nm) [.str fs[zx fs nm].aG, .int .i64 n]:=by
 have:yb fs nm n=fs.set (zx fs nm) ⟨nm,n⟩:=by unfold yb;simp[hk,h]
 rw[this,YJ,h];rfl
def E9 {B:Nat}(hB:B<=1048576){r:X6}(h:r.Ok B){nm:List UInt8}(hn:nm.length<=B){n:Int}(hi:nV n):cf Ph cL 341 [r.v,fY nm,ce .i64 n]=some (Fw (setR r.fs nm n)):=by
 have hM:B+1<=maxLen:=by unfold maxLen;omega
 have e1:=p6 hB h;have e2:=oC (X6.Ok.mono (by omega) h);have e3:=oC (r:=⟨yb r.fs nm n⟩) (X6.Ok.mono hM (UL h hn hi));have hl:r.fs.length<=1048576:=Zc h.1 hB;have e4:=yl (r:=r) (by unfold maxLen;omega) nm;have fp:=fun hv=>aaD (nm:=nm) (fs:=r.fs) (acA hv);have hs:=DJ (fs:=r.fs) (nm:=nm) (n:=n);have a2:=DH r.fs nm n;unfold setR;generalize yb r.fs nm n=F at e3 hs a2⊢;refine ca rfl ?_;have hp:=NS r.fs nm;have m1:=gS (m:=r.fs.length+1) (z:=24) (by omega) (by omega);rcases Ai (isF nm) r.fs with hf|⟨j,hj,hf,hq⟩<;>rw[hf]at e4 fp;simp +contextual (maxSteps:=9^9) [kG,e1,e4,dZ];have b1:= @Tq r.fs nm;have b2:= @Tp r.fs nm;generalize zx r.fs nm=k at fp a2 hp b1 b2;refine cP dG Cl.fin [.f,.t,.t,.t,.f,.f,.t,.f,.t,.f,.t,.f,.f,.f,.f,.f,.f,.f,.f,.f,.f,.f,.f,.f,.f,.f,.f,.f,.f,.f,.f,.f,.f,.f,.f,.f,.f,.f,.f,.f,.f,.f,.f,.f,.f,.f,.f,.f,.f,.f,.f,.f,.f,.f,.f,.f,.f,.f,.f,.f,.f] (fun k=>[(10,ce .i64 k)]) k (fun _=>false) rfl (by simp) (fun j hj _=> ?_) (fun _ _=> ?_);have a5:j<r.fs.length:=by omega
 have l1:=b1 hj a5;simp +contextual (maxSteps:=9^9) [gU,a5,l1,da (n:=r.fs.length) (by unfold maxLen;omega) a5,dw a5,Q8.e.eq_1 r.fs[j]];have hm:gJ r.fs=true->_:=fun hv=>(a2 fun f az e=>by
  have:=fp hv
  rw[az]at this
  simp only[e,if_true]at this
  omega).symm
 by_cases hlt:k<r.fs.length;have l1:=b2 hlt;have hx:=Q8.e.eq_1 r.fs[k];cases c1:gJ r.fs<;>rw[c1]at e2;simp +contextual (maxSteps:=9^9) [gU,hlt,hx,l1,hp,m1,e2,e1,dw hlt];have hm:=hm c1;cases c2:gJ F<;>rw[c2]at e3;simp +contextual (maxSteps:=9^9) [gU,hlt,hx,l1,hp,m1,hm,e2,e3,e1,dw hlt];simp +contextual (maxSteps:=9^9) [gU,hlt,hx,l1,hp,m1,hm,e2,e3,dw hlt];obtain rfl:k=r.fs.length:=by omega
 cases c1:gJ r.fs<;>rw[c1]at e2;simp +contextual (maxSteps:=9^9) [gU,m1,e2,e1];have hm:=hm c1;cases c2:gJ F<;>rw[c2]at e3;simp +contextual (maxSteps:=9^9) [gU,m1, ↓hm,e2,e3,e1];simp +contextual (maxSteps:=9^9) [gU,m1, ↓hm,e2,e3];have hx:=Q8.e.eq_1 r.fs[j];cases c1:gJ r.fs<;>rw[c1]at e2;simp +contextual (maxSteps:=9^9) [kG,e1,e4,dZ,hj,hx,e2];have fp:=fp c1;have hm:(r.fs.map Q8.e).set j [.str r.fs[j].aG, .int .i64 n]=F.map Q8.e:=by
  cases hc:r.fs[zx r.fs nm]? with
  |none=>rw[hc]at fp;simp only at fp;omega
  |some f=>
   rw[hc]at fp;by_cases e:f.aG=nm;simp only[e,if_true]at fp;obtain rfl:j=zx r.fs nm:=by omega
   rw[Zk hj]at hc;cases hc;exact(hs hj e).symm;simp only[e,if_false]at fp;omega
 cases c2:gJ F<;>rw[c2]at e3;simp +contextual (maxSteps:=9^9) [kG,e1,e4,dZ,hj,hx,hm,e2,e3];simp +contextual (maxSteps:=9^9) [kG,e1,e4,dZ,hj,hx,hm,e2,e3]
def FD {B:Nat}(hB:B<=1048576){r:X6}(h:r.Ok B){nm:List UInt8}(hn:nm.length<=B){n:Int}(hi:nV n):cf Ph cL 338 [r.v,fY nm,ce .i64 n]=some (Fw (setR r.fs nm n)):=by
 have hM:B+1<=maxLen:=by unfold maxLen;omega
 have e1:=vu hB h;have e2:=lY (X6.Ok.mono (by omega) h);have e3:=lY (r:=⟨yb r.fs nm n⟩) (X6.Ok.mono hM (UL h hn hi));have hl:r.fs.length<=1048576:=Zc h.1 hB;have hs:=DJ (fs:=r.fs) (nm:=nm) (n:=n);have a2:=DH r.fs nm n;unfold setR;generalize yb r.fs nm n=F at e3 hs a2⊢;refine ca rfl ?_;have hp:=NS r.fs nm;have m1:=gS (m:=r.fs.length+1) (z:=24) (by omega) (by omega);simp +contextual (maxSteps:=9^9) [tP,e1];have b1:= @Tq r.fs nm;have b2:= @Tp r.fs nm;generalize zx r.fs nm=k at hs a2 hp b1 b2;have m2:=gS (m:=k) (z:=24) (by omega) (by omega);have m3:=gS (m:=k+1) (z:=24) (by omega) (by omega);have w2:((r.fs.map Q8.e).take k).all (fun e=>e.length==2)=true:=by rw[<-List.map_take];exact fL (e:=Q8.e) (z:=2) (fun _=>rfl) _
 have w3:((r.fs.map Q8.e).drop k).all (fun e=>e.length==2)=true:=by rw[<-List.map_drop];exact fL (e:=Q8.e) (z:=2) (fun _=>rfl) _
 have t1:List.take (r.fs.length-k) ((r.fs.map Q8.e).drop k)=(r.fs.map Q8.e).drop k:=Zs (by simp);have t2:k+1+(r.fs.length-k)=r.fs.length+1:=by omega
 have w4:=fL (e:=Q8.e) (z:=2) (fun _=>rfl) r.fs;refine cP dG Cl.fin [.f,.t,.t,.t,.f,.f,.t,.f,.t,.t,.f,.f,.f,.f,.f,.f,.f,.f,.f,.f,.f,.f,.f,.f,.f,.f,.f,.f,.f,.f,.f,.f,.f,.f,.f,.f,.f,.f,.f,.f,.f,.f,.f,.f,.f,.f,.f,.f,.f,.f,.f,.f,.f,.f,.f,.f,.f,.f,.f,.f,.f,.f,.f,.f,.f,.f,.f,.f,.f,.f,.f,.f,.f,.f,.f,.f,.f,.f] (fun k=>[(9,ce .i64 k)]) k (fun _=>false) rfl (by simp) (fun j hj _=> ?_) (fun _ _=> ?_);have a5:j<r.fs.length:=by omega
 have l1:=b1 hj a5;simp +contextual (maxSteps:=9^9) [jE,a5,l1,da (n:=r.fs.length) (by unfold maxLen;omega) a5,dw a5,Q8.e.eq_1 r.fs[j]];by_cases hlt:k<r.fs.length;have l1:=b2 hlt;have hx:=Q8.e.eq_1 r.fs[k];by_cases hq:r.fs[k].aG=nm;have hm:=(hs hlt hq).symm;have hb:(r.fs[k].aG==nm)=true:=by simp[hq]
 cases c1:gJ r.fs<;>rw[c1]at e2<;>cases c2:gJ F<;>rw[c2]at e3<;>simp +contextual (maxSteps:=9^9) [jE,hlt,hx,l1,hb,hm,e2,e3,e1,dw hlt];have hm:=(a2 fun f hf e=>hq (by rw[Zk hlt]at hf;cases hf;exact e)).symm;have hb:(r.fs[k].aG==nm)=false:=by simp[hq]
 cases c1:gJ r.fs<;>rw[c1]at e2<;>cases c2:gJ F<;>rw[c2]at e3<;>simp +contextual (maxSteps:=9^9) [jE,hlt,hx,l1,hb,hm,e2,e3,e1,dw hlt,m1,m2,m3,w2,w3,w4,hp,t1,t2];obtain rfl:k=r.fs.length:=by omega
 have hm:=(a2 fun f hf e=>by rw[ZT (Zi _)]at hf;cases hf).symm;have ab:(r.fs.map Q8.e).take r.fs.length++[[.str nm, .int .i64 n]]=F.map Q8.e:=by rw[<-hm];simp
 have hF:F.length=r.fs.length+1:=by have:=congrArg List.length ab;simpa using this.symm
 cases c1:gJ r.fs<;>rw[c1]at e2<;>cases c2:gJ F<;>rw[c2]at e3<;>simp +contextual (maxSteps:=9^9) [jE,hm,ab,hF,e2,e3,e1,m1,m2,m3,w2,w3,w4,t1,t2]
def okI (x:Q2):Bool:=nA x.aZ&&gJ x.au.fs
def xD :List Q2->Bool
 |[]=>true
 |[_]=>true
 |a::b::t=>decide (wU a.aZ b.aZ<0)&&xD (b::t)
def JC :Option Q2->Option Q2->Bool
 |some a,some b=>decide (wU a.aZ b.aZ<0)
 |_,_=>true
def MF :∀{xs:List Q2},xD xs=true↔∀j(h:j+1<xs.length),wU xs[j].aZ xs[j+1].aZ<0
 |[]=>by simp[xD]
 |[_]=>by simp[xD]
 |a::b::t=>by
  have ih:=MF (xs:=b::t);simp only[xD,Zg,decide_eq_true_eq,ih];constructor;intro⟨h1,h2⟩ j hj;cases j with
  |zero=>simpa using h1
  |succ j=>have:=h2 j (by simpa using hj);simpa using this
  intro h;refine⟨by have:=h 0 (by simp);simpa using this,fun j hj=> ?_⟩;have:=h (j+1) (by simpa using hj);simpa using this
def xR (xs:List Q2):Bool:= !(jP xs.length (KH xs))
def Jx (xs:List Q2):xR xs=(xs.all okI&&xD xs):=by
 rw[Qg];unfold xR;simp only[ZB,Zg,MF,Zu];have ag:∀k(hk:k<xs.length),KH xs k=(!(nA xs[k].aZ)||(!(gJ xs[k].au.fs)||(dZ 0 k&& !(dZ (wU (xs[k-1]'(by omega)).aZ xs[k].aZ) 0)))):=fun k hk=>by simp[KH,hk,show k-1<xs.length by omega]
 constructor;intro h;refine⟨fun x hx=> ?_,fun j hj=> ?_⟩;obtain⟨k,hk,rfl⟩:=Yb.1 hx;have:=tq h hk;rw[ag k hk]at this;simp only[ZR,Ya]at this;simp[okI,this.1,this.2.1];have:=tq h hj;rw[ag _ hj]at this;simp only[ZR,Qr,Ya,Qj]at this;rcases this.2.2 with q|q;rw[ji (by omega)]at q;cases q;exact of_decide_eq_true q;intro⟨h1,h2⟩;refine MJ fun k hk=> ?_;rw[ag k hk];have h3:=h1 _ (Zf hk);simp only[okI,Zg]at h3;rw[h3.1,h3.2];cases k with
 |zero=>rw[iN (by simp)];rfl
 |succ j=>have:=h2 j hk;simp only[Qj,ji this];simp
def Ct :∀(l m:List Q2),xD (l++m)=(xD l&&(xD m&&JC l.getLast? m.head?))
 |[],m=>by cases m<;>simp[xD,JC]
 |[a],[]=>by simp[xD,JC]
 |[a],b::m=>by simp[xD,JC,Bool.and_comm]
 |a::b::t,m=>by
  have ih:=Ct (b::t) m;simp only[Zh]at ih⊢;simp only[xD,ih,Bool.and_assoc];have:(a::b::t).getLast? =(b::t).getLast?:=by simp[List.getLast?_cons_cons]
  rw[this]
def U8 (x:Q2)(m:List Q2):xD (x::m)=(xD m&&JC (some x) m.head?):=by have:=Ct [x] m;simpa[xD]using this
def AP (xs:List Q2)(k:Y7):Nat:=xs.findIdx fun x=> !(decide (wU x.aZ k<0))
def DD (xs:List Q2)(k:Y7):AP xs k<=xs.length:=List.findIdx_le_length
def NR {xs:List Q2}{k:Y7}{j:Nat}(h:j<AP xs k)(hj:j<xs.length):wU xs[j].aZ k<0:=by have:=List.not_of_lt_findIdx h;simpa using this
def NQ {xs:List Q2}{k:Y7}(h:AP xs k<xs.length):¬wU xs[AP xs k].aZ k<0:=by have:=List.findIdx_getElem (w:=h);unfold AP;simpa using this
def Vr {a b:List UInt8}(h:Lib.compareBytes a b=0):a=b:=by rw[kR]at h;have ht:=vj a b;cases q:Op.bytesLess a b<;>cases q2:Op.bytesLess b a<;>simp[q,q2]at h ht⊢;exact ht
def Vs {a b:Y7}(ha:nA a=true)(hb:nA b=true)(ae:a≠b)(h:¬wU a b<0):wU b a<0:=by
 have h1:=aap a b;have hz:wU a b≠0:=fun e=>by obtain⟨ak,an,ax⟩:=a;obtain⟨bk,bn,bx⟩:=b;simp only[ne_eq,Y7.mk.injEq]at ae;have hc:= @Vr ax bx;simp only[wU,ha,hb]at e;grind [sgn,dZ]
 omega
def NF {k:Y7}{x:Q2}:Fj k x=true↔x.aZ=k:=by obtain⟨⟨a,b,c⟩,r⟩:=x;obtain⟨d,e,f⟩:=k;simp[Fj]
def Ui {α:Type}{p:α->Bool}{xs:List α}(h:fO p xs= -1):∀x∈xs,p x=false:=fun x hx=>by
 unfold fO at h;cases q:xs.findIdx? p with
 |none=>rw[YB]at q;exact q x hx
 |some i=>rw[q]at h;simp only at h;omega
def A3 (s:Q5)(k:Y7):Int:=if k.aX=1/\ s.aS<k.n/\ k.n<=1000000 then k.n else s.aS
def t8 (s:Q5)(k:Y7)(r:X6):List Q2:=s.a1.take (AP s.a1 k)++(⟨k,r⟩::s.a1.drop (AP s.a1 k))
def AS (s:Q5)(k:Y7)(r:X6):Q5×Bool:=
 cond (gj s&&(nA k&&gJ r.fs))
  (if 0<=fO (Fj k) s.a1 then(⟨s.aG,s.a1.set (fO (Fj k) s.a1).toNat ⟨k,r⟩,s.aS⟩,true)
   else if 16<=s.a1.length then(s,false)else(⟨s.aG,t8 s k r,A3 s k⟩,true))
  (s,false)
def aab {xs:List Q2}{j:Nat}{x:Q2}(hj:j<xs.length)(hk:xs[j].aZ=x.aZ)(h:xD xs=true):xD (xs.set j x)=true:=by
 have aa:∀i(hi:i<xs.length),((xs.set j x)[i]'(by simpa using hi)).aZ=xs[i].aZ:=fun i hi=>by rw[List.getElem_set];split;rename_i e;subst e;exact hk.symm;rfl
 rw[MF]at h⊢;intro i hi;have ao:i+1<xs.length:=by simpa using hi
 rw[aa i (by omega),aa (i+1) ao];exact h i ao
def Ga {s:Q5}{k:Y7}{r:X6}{j:Nat}(hs:gj s=true)(hj:j<s.a1.length)(hk:s.a1[j].aZ=k):gj ⟨s.aG,s.a1.set j ⟨k,r⟩,s.aS⟩=gJ r.fs:=by
 unfold gj at hs⊢;simp only[Zg]at hs;obtain⟨h1,h2,h3,h4⟩:=hs;simp only[h2,h3,h4,ZC,ZG,Yj,Yi];change xR _=true at h1;have e:(!jP s.a1.length (KH (s.a1.set j ⟨k,r⟩)))=xR (s.a1.set j ⟨k,r⟩):=by unfold xR;rw[ZC]
 rw[e];rw[Jx]at h1⊢;simp only[Zg]at h1;rw[aab hj hk h1.2,Yj];cases hr:gJ r.fs with
 |true=>rw[Zu];intro x hx;rcases ZK hx with hx|rfl;exact Zu.1 h1.1 x hx;have:=Zu.1 h1.1 _ (Zf hj);simp only[okI,hk,Zg]at this;simp[okI,hr,this.1]
 |false=>rw[List.all_eq_false];refine⟨⟨k,r⟩,Yb.2 ⟨j,by simpa using hj,by simp⟩,by simp[okI,hr]⟩
def F7 {s:Q5}{k:Y7}{r:X6}(hs:gj s=true)(hk:nA k=true)(hf:fO (Fj k) s.a1= -1):gj ⟨s.aG,t8 s k r,A3 s k⟩=(gJ r.fs&&decide (s.a1.length+1<=16)):=by
 unfold gj at hs⊢;simp only[Zg]at hs;obtain⟨h1,h2,h3,h4⟩:=hs;change xR _=true at h1;change (xR _&&_)=_;rw[Jx]at h1⊢;simp only[Zg,rg,dZ,decide_eq_true_eq,ZB,decide_eq_false_iff_not]at h1 h4;have hp:=DD s.a1 k;have hlen:(t8 s k r).length=s.a1.length+1:=by unfold t8;simp;omega
 have ha:rg (A3 s k) 0 1000000=true:=by unfold A3 rg dZ;split<;>simp<;>omega
 have hl:(!(dZ 16 ((t8 s k r).length:Nat)))=decide (s.a1.length+1<=16):=by rw[hlen,Qg];simp[dZ];omega
 simp only[h2,ha,hl,Yj,Yi];congr 1;have ai:xD (t8 s k r)=true:=by
  unfold t8;rw[Ct,U8];have af:=Ct (s.a1.take (AP s.a1 k)) (s.a1.drop (AP s.a1 k));rw[List.take_append_drop,h1.2]at af;simp only[Bool.true_eq,Zg]at af;rw[af.1,af.2.1];simp only[Yi,List.head?_cons,Zg];constructor;cases hq:(s.a1.drop (AP s.a1 k)).head? with
  |none=>rfl
  |some y=>rw[List.head?_drop]at hq;obtain⟨hlt,rfl⟩:=Zb.1 hq;have hy:=Zu.1 h1.1 _ (Zf hlt);simp only[okI,Zg]at hy;have:=Vs hy.1 hk (fun e=>by have:=Ui hf _ (Zf hlt);rw[NF.2 e]at this;cases this) (NQ hlt);simp[JC,this]
  cases hq:(s.a1.take (AP s.a1 k)).getLast? with
  |none=>rfl
  |some y=>rw[List.getLast?_eq_getElem?]at hq;obtain⟨hlt,rfl⟩:=Zb.1 hq;simp only[ZH]at hlt⊢;rw[List.getElem_take];have:=NR (xs:=s.a1) (k:=k) (j:=min (AP s.a1 k) s.a1.length-1) (by omega) (by omega);simp[JC,this]
 rw[ai,Yj];cases hr:gJ r.fs with
 |true=>rw[Zu];intro x hx;unfold t8 at hx;rw[Ye,ZF]at hx;rcases hx with hx|rfl|hx;exact Zu.1 h1.1 x (ZA hx);simp[okI,hr,hk];exact Zu.1 h1.1 x (Yc hx)
 |false=>rw[List.all_eq_false];exact⟨⟨k,r⟩,by unfold t8;simp,by simp[okI,hr]⟩
def xX {j:Nat}:dZ (j:Int) 0=false:=iN (by omega)
def O8 (s:Q5)(k:Y7):A3 s k=cond (k.aX==1&&(dZ s.aS k.n&& !(dZ 1000000 k.n))) k.n s.aS:=by
 have e3:decide (1000000<k.n)= !(decide (k.n<=1000000)):=by rw[Qg];simp
 have e4:(k.aX==1)=decide (k.aX=1):=by rw[Qg];simp
 unfold A3 dZ;rw[e3,e4];by_cases h1:k.aX=1<;>by_cases h2:s.aS<k.n<;>by_cases h3:k.n<=1000000<;>simp[h1,h2,h3]
abbrev sC (x:Q5×Bool):V:= .b8 [(true,[.pv (.str x.1.aG),nd 4 (x.1.a1.map Q2.e), .pv (.int .i64 x.1.aS)]),(false,[.pv (.bool x.2)])]
abbrev NT (x:Q5×Bool):V:= .b8 [(true,[.pv (.str x.1.aG),oW 4 (x.1.a1.map Q2.e), .pv (.int .i64 x.1.aS)]),(false,[.pv (.bool x.2)])]
def P4 (s:Q5)(k:Y7)(r:X6):(t8 s k r).map Q2.e=(s.a1.map Q2.e).take (AP s.a1 k)++([.int .i64 k.aX, .int .i64 k.n, .str k.ad, .lst (r.fs.map Q8.e)]::(s.a1.map Q2.e).drop (AP s.a1 k)):=by simp[t8,Q2.e]
def NE {B:Nat}{s:Q5}(h:s.Ok B){k:Y7}(hk:k.Ok B){r:X6}(hr:r.Ok B):(t8 s k r).length<=B+1/\ ∀x∈t8 s k r,x.Ok (B+1):=by obtain⟨_,⟨h1,h2⟩,_⟩:=h;have:=DD s.a1 k;refine⟨by simp[t8];omega,fun x hx=>Q2.Ok.mono (A:=B) (by omega) ?_⟩;unfold t8 at hx;rw[Ye,ZF]at hx;rcases hx with hx|rfl|hx;exact h2 x (ZA hx);exact⟨hk,hr⟩;exact h2 x (Yc hx)
def NZ {B:Nat}{s:Q5}(h:s.Ok B){k:Y7}(hk:k.Ok B){r:X6}(hr:r.Ok B)(j:Nat):(s.a1.set j ⟨k,r⟩).length<=B/\ ∀x∈s.a1.set j ⟨k,r⟩,x.Ok B:=by obtain⟨_,⟨h1,h2⟩,_⟩:=h;refine⟨by simpa using h1,fun x hx=> ?_⟩;rcases ZK hx with hx|rfl;exact h2 x hx;exact⟨hk,hr⟩
def O9 {s:Q5}{k:Y7}(h1:nV s.aS)(h2:nV k.n):nV (A3 s k):=by unfold A3;split<;>assumption
def Hf {B:Nat}(hB:B<=1048576){s:Q5}(h:s.Ok B){k:Y7}(hk:k.Ok B){r:X6}(hr:r.Ok B):cf Ph cL 342 [s.v,k.v,r.v]=some (sC (AS s k r)):=by
 have hM:B+1<=maxLen:=by unfold maxLen;omega
 have hl:s.a1.length<=1048576:=Zc h.2.1.1 hB;have e1:=jH hB h;have e2:=kJ (Q5.Ok.mono (by omega) h);have e3:=pb (Y7.Ok.mono (by omega) hk);have e4:=xc (s:=s) (by unfold maxLen;omega) k;have e5:=p6 hB hr;have O:=jK 4 (s.a1.map Q2.e);unfold AS;refine ca rfl ?_;cases c1:gj s<;>rw[c1]at e2;rcases O with⟨_,q2,q1⟩|⟨_,q2,q1⟩<;>rw[q2]at e1<;>simp(maxSteps:=9^9) [kl,e1,e2,q2];cases c2:nA k<;>rw[c2]at e3;rcases O with⟨_,q2,q1⟩|⟨_,q2,q1⟩<;>rw[q2]at e1<;>simp(maxSteps:=9^9) [kl,e1,e2,e3,q2];rcases Ai (Fj k) s.a1 with hf|⟨j,hj,hf,hq⟩<;>rw[hf]at e4⊢;have e6:∀a,a=A3 s k->cf Ph cL 354 [Q5.v ⟨s.aG,t8 s k r,a⟩]=some (cK (gJ r.fs&&decide (s.a1.length+1<=16))):=fun a ha=>by subst ha;rw[<-F7 (r:=r) c1 c2 hf];exact kJ (s:=⟨s.aG,t8 s k r,A3 s k⟩) ⟨Zc h.1 (by omega),⟨Zc (NE h hk hr).1 (by omega),fun x hx=>Q2.Ok.mono (by omega) ((NE h hk hr).2 x hx)⟩,O9 h.2.2 hk.2.1⟩
 have hA:=O8 s k;obtain⟨g1,h1⟩:∃g,(k.aX==1)=g:=⟨_,rfl⟩;rw[h1]at hA;have hL:(16<=s.a1.length)=(decide (s.a1.length+1<=16)=false):=by simp;omega
 have a2:=P4 s k r;have hp:=DD s.a1 k;have b1:= @NR s.a1 k;have b2:= @NQ s.a1 k;have m1:=gS (m:=s.a1.length+1) (z:=56) (by omega) (by omega);have O2:=jK 4 ((t8 s k r).map Q2.e);rcases O2 with⟨q,_⟩|⟨_,q3,_⟩;rw[a2]at q;simp at q;simp only[hL];generalize t8 s k r=F at e6 a2 q3⊢;generalize AP s.a1 k=p at a2 hp b1 b2;generalize decide (s.a1.length+1<=16)=d at e6 hL⊢;have l0:dZ (-1) 0=true:=rfl;have aA:dZ 0 0=false:=rfl;rcases O with⟨q0,q2,q1⟩|⟨q0,q2,q1⟩<;>rw[q2]at e1;have a8:s.a1=[]:=by simpa using q0
 rw[a8]at a2 hp;have aB:p=0:=by simpa using hp
 subst aB;simp only[Zy,Qc,QW,Zj]at a2;simp(maxSteps:=9^9) [kl,e1,e2,e3,e4,l0];rw[xA];have aq:=e1;rw[a8,Zy]at aq;have aD:nd 4 []= .nil:=rfl;have hF:F.length=1:=by have:=congrArg List.length a2;simpa using this
 cases c4:gJ r.fs<;>rw[c4]at e6<;>cases d<;>simp +contextual (maxSteps:=9^9) [j5,e1,aq,aD,e2,e3,e4,e5,a8,aA,q2,hF,<-a2,e6,hA,h1,q3];simp(maxSteps:=9^9) [kl,e1,e2,e3,e4,l0];refine cP dG Cl.fin [.f,.f,.f,.t,.t,.t,.t,.f,.t,.f,.t,.f,.f,.f,.f,.f,.f,.f,.f,.f,.f,.f,.f,.f,.f,.f,.f,.f,.f,.f,.f,.f,.f,.f,.f,.f,.f,.f,.f,.f,.f,.f,.f,.f,.f,.f,.f,.f,.f,.f,.f,.f,.f,.f,.f,.f,.f,.f,.f,.f,.f,.f,.f,.f,.f,.f,.f,.f,.f,.f,.f,.f,.f,.f,.f,.f,.f,.f,.f,.f,.f,.f,.f,.f,.f,.f,.f] (fun k=>[(10,ce .i64 k)]) p (fun _=>false) rfl (by simp) (fun j hj _=> ?_) (fun _ _=> ?_);have a5:j<s.a1.length:=by omega
 have l1:=ji (b1 hj a5);have e7:=lB (Y7.Ok.mono (by omega) (h.2.1.2 _ (Zf a5)).1) (Y7.Ok.mono (by omega) hk);simp +contextual (maxSteps:=9^9) [j5,a5,l1,e7,da (n:=s.a1.length) (by unfold maxLen;omega) a5,dw a5,Q2.e.eq_1 s.a1[j]];by_cases hlt:p<s.a1.length;have l1:=iN (Int.not_lt.1 (b2 hlt));have hx:=Q2.e.eq_1 s.a1[p];have e7:=lB (Y7.Ok.mono (by omega) (h.2.1.2 _ (Zf hlt)).1) (Y7.Ok.mono (by omega) hk);cases c4:gJ r.fs<;>rw[c4]at e6<;>cases d<;>simp +contextual (maxSteps:=9^9) [j5,hlt,hx,l1,e7,hp,m1,dw hlt,e1,e2,e3,e4,e5,q2,<-a2,e6,hA,h1,q3];obtain rfl:p=s.a1.length:=by omega
 have ab:(s.a1.map Q2.e).take s.a1.length++[[.int .i64 k.aX, .int .i64 k.n, .str k.ad, .lst (r.fs.map Q8.e)]]=F.map Q2.e:=by rw[a2];simp
 have hd:(s.a1.map Q2.e).drop s.a1.length=[]:=Yu (by simp);cases c4:gJ r.fs<;>rw[c4]at e6<;>cases d<;>simp +contextual (maxSteps:=9^9) [j5,m1,e1,e2,e3,e4,e5,q2,hd, ↓ab,e6,hA,h1,q3];have ar:=NF.1 hq;have hx:=Q2.e.eq_1 s.a1[j];have hm:(s.a1.map Q2.e).set j [.int .i64 s.a1[j].aZ.aX, .int .i64 s.a1[j].aZ.n, .str s.a1[j].aZ.ad, .lst (r.fs.map Q8.e)]=(s.a1.set j ⟨k,r⟩).map Q2.e:=by rw[YJ,ar];rfl
 have e6:=kJ (s:=⟨s.aG,s.a1.set j ⟨k,r⟩,s.aS⟩) ⟨Zc h.1 (by omega),⟨Zc (NZ h hk hr j).1 (by omega),fun x hx=>Q2.Ok.mono (by omega) ((NZ h hk hr j).2 x hx)⟩,h.2.2⟩;rw[Ga c1 hj ar]at e6;have ae:s.a1.map Q2.e≠[]:=by intro e;have:=congrArg List.length e;simp only[Zr,Zx]at this;omega
 have O2:=jK 4 ((s.a1.set j ⟨k,r⟩).map Q2.e);rw[<-hm]at O2;rcases O with⟨q,_⟩|⟨_,q2,q1⟩;exact absurd q ae;rcases O2 with⟨q,_⟩|⟨_,q3,_⟩;exact absurd (by simpa using q) ae;rw[hm]at q3;rw[q2]at e1;simp only[Int.toNat_natCast];generalize s.a1.set j ⟨k,r⟩=F at hm e6 q3⊢;cases c3:gJ r.fs<;>rw[c3]at e6<;>simp(maxSteps:=9^9) [kl,e1,e2,e3,e4,e5,e6,q2,q3,hm,hx,hj,xX]
end Gi
