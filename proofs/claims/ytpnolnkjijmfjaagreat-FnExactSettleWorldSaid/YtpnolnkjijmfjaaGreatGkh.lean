/- Of this proof. -/
import Derived.Test.YtpnolnkjijmfjaaGreatGks
import Derived.Test.YtpnolnkjijmfjaaGreatGlB
set_option linter.all false
namespace Gi
open Go Go.RowKit
set_option maxHeartbeats 8000000
set_option maxRecDepth 4000
attribute [local simp] start qt dY fa fh gj fg gi gr gq rB rY rE rZ rH r8 rI r9 rJ sa rS sd rU se rV sf rW sh V.cells plain dP ja isInt isStr isBool bin eu i7 ew i9 gl un asList L.view cy V.view viewL dd cu eC dN eh comp cU dS eV dW dD dA dC cF ct df co cE cO cA dx du cH dE dF V.flat L.flat fe fv dK putAt thaw thawL thawT V.ow gn fj fk ez gm eA fi freezeVs freezeLs freezeL V.mut L.mut cN fx iI dj dQ cZ fI ed dH eB L.bD cQ fy ej fE ep eH wp_seq wp_block dh fo eD dO eE wp_skip wp_exit wp_ret eG eM eP eN eT eU eS dV cM L.bB cX cV cW fm dI storeD dg gZ cq eK cJ nP L.bG L.closed V.closed PV.bare PV.flat
abbrev yj (s:List UInt8):Bool:=vz s 30 true
def Cf {s:List UInt8}(h:s.length<=maxLen):cf Ph cK 389 [fZ s]=some (cL (yj s)):=by refine ca rfl ?_;simp(maxSteps:=9^9) [qG,zH h]
def Cw {s:List UInt8}(h:s.length<=maxLen):cf Ph cK 386 [fZ s]=some (cL (yj s)):=by refine ca rfl ?_;simp +contextual (maxSteps:=9^9) [qS];refine cP dz Cl.fin [.t,.f,.f,.t,.f,.f,.f,.f,.f,.f,.f,.f,.f,.f,.f,.f,.f,.f,.f,.f,.f,.f,.f,.f,.f,.f,.f,.f,.f] (fun k=>[(3,ce .i64 k)]) s.length (S6 true s) rfl (by simp) (fun k hk _=> ?_) (fun _ hp=> ?_);simp +contextual (maxSteps:=9^9) [lD,S6,yj,vz,hk,cY h hk,dw hk];simp +contextual (maxSteps:=9^9) [lD,yj,vz,hp,eQ]
def vy (x:Y5):Bool:=rg x.b3 1 4&&(rg x.ay 0 999&&(rg x.aC 0 1000000000000&& !(dZ 60 x.body.length)))
def mM (x:Y5):cf Ph cK 403 [x.v]=some (cL (vy x)):=by refine ca rfl ?_;simp +contextual (maxSteps:=9^9) [qH,dU,vy,eY]
def Cx (x:Y5):cf Ph cK 408 [x.v]=some (cL (vy x)):=by refine ca rfl ?_;simp +contextual (maxSteps:=9^9) [qT,eQ,vy,eY]
def Ba (x:Q4):Bool:=rg x.aY 1 1000000&&(rg x.an 1 1000000&&(nI x.aZ&&(fV x.aU&&rg x.n 0 1000000000)))
def nn {x:Q4}(h:x.Ok maxLen):cf Ph cK 390 [x.v]=some (cL (Ba x)):=by refine ca rfl ?_;simp +contextual (maxSteps:=9^9) [nY,dU,pk h.2.2.1,eO h.2.2.2.1,Ba]
def nu {x:Q4}(h:x.Ok maxLen):cf Ph cK 383 [x.v]=some (cL (Ba x)):=by refine ca rfl ?_;simp +contextual (maxSteps:=9^9) [n7,eQ,px h.2.2.1,fS h.2.2.2.1,Ba]
def ze (a b:Q1):Bool:=Op.bytesLess a.aP b.aP||(a.aP==b.aP&&Op.bytesLess a.av b.av)
def zD (a b:Q1):cf Ph cK 388 [a.v,b.v]=some (cL (ze a b)):=by refine ca rfl ?_;simp +contextual (maxSteps:=9^9) [oX,ze]
def H2 (a b:Q1):cf Ph cK 385 [a.v,fZ b.aP,fZ b.av]=some (cL (ze a b)):=by refine ca rfl ?_;simp +contextual (maxSteps:=9^9) [vm,ze]
def CL :List (List UInt8):=[[98,97,110,107],[110,101,119,115],[115,104,111,112]]
def xK :cf Ph cK 181 []=some (.one (.own 1 (CL.map zS))):=by refine ca rfl ?_;simp(maxSteps:=9^9) [uc,CL,zS]
def JN {us:List (List UInt8)}(hl:us.length<=maxLen)(x:List UInt8):cf Ph cK 182 [eW (us.map zS),fZ x]=some (ce .i64 (fP (fun u=>x==u) us)):=by
 refine ca rfl ?_;simp +contextual (maxSteps:=9^9) [jQ];refine cP dz Cl.fin [.t,.t,.f,.f,.f,.f,.f,.t,.t,.f,.f,.f,.f,.f,.f,.f,.f,.f,.f] (fun k=>[(8,ce .i64 k)]) us.length (kK (fun u=>x==u) us) rfl (by simp) (fun k hk hj=> ?_) (fun hj _=> ?_);have hf:=wV hk hj;have hs:(us.map zS)[k]'(by simpa using hk)=[.str us[k]]:=by simp[zS]
 cases hg:(x==us[k]);simp(maxSteps:=9^9) [gB,kK,hk,hg,cY hl hk,dw hk,zS];have al:=hf hg;have ha:kK (fun u=>x==u) us k=true:=by simp only[kK,hk,Zj,hg]
 generalize fP (fun u=>x==u) us=F at al⊢;generalize kK (fun u=>x==u) us=A at ha⊢;simp(maxSteps:=9^9) [gB,ha,hk,hg,al,cY hl hk,dw hk,zS];simp +contextual (maxSteps:=9^9) [gB,wU hj]
def iV (s:List UInt8):Int:=fP (fun u=>s==u) CL
def kB (s:List UInt8):cf Ph cK 154 [fZ s]=some (ce .i64 (iV s)):=by have e1:=JN (us:=CL) (by decide) s;simp only[CL,Zt,Zy,zS]at e1;refine ca rfl ?_;simp(maxSteps:=9^9) [qI,e1,iV,CL]
def Ng (l v:Int):Bool:= !(rg v 0 1000000000000)||(!(v==0)&& !(dZ l v))
def nxG (l v:Int):Int:=if v=0 then l else v
def WE (V:List Int)(k:Nat):Int:=(V.take k).foldl nxG 0
def Nh (V:List Int)(k:Nat):Bool:=match V[k]? with
 |some v=>Ng (WE V k) v
 |none=>false
def JU (r:Y1):Bool:= !(jU [r.aj,r.ah,r.aV].length (Nh [r.aj,r.ah,r.aV]))&&fV r.aP
def adv {l v:Int}(h:Ng l v=true):(rg v 0 1000000000000=true->(v==0)=false)/\ (rg v 0 1000000000000=true->dZ l v=false):=by refine⟨fun g=> ?_,fun g=> ?_⟩<;>rw[Ng,g]at h<;>simp at h;simpa using h.1;exact h.2
def aaN {l v:Int}(h:Ng l v=false)(hl:0<=l):rg v 0 1000000000000=true/\ ((v==0)=false->dZ l v=true)/\ (if l<v then v else l)=nxG l v/\ 0<=nxG l v:=by simp only[Ng,ZR,Ya,Qs,beq_iff_eq]at h;obtain⟨h1,h2⟩:=h;unfold nxG;by_cases z:v=0;rw[if_pos z];subst z;exact⟨h1,fun q=>by simp at q,by rw[if_neg (by omega)],hl⟩;rw[if_neg z];have h3:=h2.resolve_left z;have:=of_decide_eq_true h3;exact⟨h1,fun _=>h3,by rw[if_pos this],by omega⟩
def abt {V:List Int}{k:Nat}(hk:k<V.length):WE V (k+1)=nxG (WE V k) V[k]:=by unfold WE;rw[ZQ hk,Qn];rfl
def N7 {V:List Int}:∀{k:Nat},k<=V.length->(∀j,j<k->Nh V j=false)->0<=WE V k
 |0,_,_=>Int.le_refl 0
 |k+1,hk,hj=>by have ih:=N7 (V:=V) (k:=k) (by omega) (fun j h=>hj j (by omega));have hb:=hj k (by omega);have ao:k<V.length:=hk;simp only[Nh,ao,Zj]at hb;rw[abt ao];exact(aaN hb ih).2.2.2
def yg {r:Y1}(h:r.Ok maxLen):cf Ph cK 395 [r.v]=some (cL (JU r)):=by
 have e1:=eO h.1;unfold JU;obtain⟨V,hV⟩:∃V,V=[r.aj,r.ah,r.aV]:=⟨_,rfl⟩;have hR:[[PV.int .i64 r.aj],[PV.int .i64 r.ah],[PV.int .i64 r.aV]]=V.map AX:=by rw[hV];rfl
 have hl:V.length=3:=by rw[hV];rfl
 rw[<-hV];refine ca rfl ?_;simp(maxSteps:=9^9) [nc];rw[hR];clear hR hV;refine cP dz Cl.fin [.f,.t,.f,.t,.f,.f,.f,.f,.f,.f,.f,.f,.t,.t,.t,.f,.f,.f,.f,.f,.f,.f,.f,.f,.f,.f,.f,.f,.f,.f,.f,.f,.f,.f,.f,.f,.f] (fun k=>[(3,ce .i64 (WE V k)),(14,ce .i64 k)]) V.length (Nh V) rfl (by simp[WE,hl]) (fun k hk hj=> ?_) (fun _ hp=> ?_);have a6:=N7 (Yy hk) hj;have hs:=abt hk;have hb:Nh V k=Ng (WE V k) V[k]:=by simp[Nh,hk]
 have e3:=dU V[k] 0 1000000000000;have w:=cY (n:=V.length) (by rw[hl];decide) hk;have lk:dZ (k:Int) 3=true:=jl (by omega);have a7:k<3:=by omega
 rw[hb,hs];generalize WE V k=l at a6⊢;generalize hv:V[k]=v at e3⊢;cases b:Ng l v;obtain⟨g,z,mx,_⟩:=aaN b a6;rw[g]at e3;cases z0:(v==0);have z1:=z z0;have nx:nxG l v=v:=if_neg (by simpa using z0);simp(maxSteps:=9^9) [gA,hk,a7,hl,hv,AX,e3,z0,z1,mx,nx,w,lk];have nx:nxG l v=l:=if_pos (by simpa using z0);simp(maxSteps:=9^9) [gA,hk,a7,hl,hv,AX,e3,z0,mx,nx,w,lk];obtain⟨q1,q2⟩:=adv b;cases g:rg v 0 1000000000000<;>rw[g]at e3;simp +contextual (maxSteps:=9^9) [gA,hk,a7,hl,hv,AX,e3,w,lk];have q3:=q1 g;have q4:=q2 g;simp +contextual (maxSteps:=9^9) [gA,hk,a7,hl,hv,AX,e3,q3,q4,w,lk];rw[hl]at hp;simp(maxSteps:=9^9) [gA,hp,hl,e1,show dZ 3 3=false from rfl]
def yw {r:Y1}(h:r.Ok maxLen):cf Ph cK 391 [r.v]=some (cL (JU r)):=by
 have e1:=fS h.1;unfold JU;obtain⟨V,hV⟩:∃V,V=[r.aj,r.ah,r.aV]:=⟨_,rfl⟩;have hR:[[PV.int .i64 r.aj],[PV.int .i64 r.ah],[PV.int .i64 r.aV]]=V.map AX:=by rw[hV];rfl
 have hl:V.length=3:=by rw[hV];rfl
 rw[<-hV];refine ca rfl ?_;simp(maxSteps:=9^9) [ni];rw[hR];clear hR hV;refine cP dz Cl.fin [.f,.t,.f,.t,.t,.t,.f,.f,.f,.f,.f,.f,.f,.f,.f,.f,.f,.f,.f,.f,.f,.f,.f,.f,.f,.f,.f,.f,.f,.f,.f,.f,.f,.f,.f,.f,.f,.f,.f,.f,.f,.f,.f,.f,.f,.f,.f,.f,.f,.f,.f,.f] (fun k=>[(3,ce .i64 (WE V k)),(5,ce .i64 k)]) V.length (Nh V) rfl (by simp[WE,hl]) (fun k hk hj=> ?_) (fun _ hp=> ?_);have a6:=N7 (Yy hk) hj;have hs:=abt hk;have hb:Nh V k=Ng (WE V k) V[k]:=by simp[Nh,hk]
 have e3:=eQ V[k] 0 1000000000000;have w:=cY (n:=V.length) (by rw[hl];decide) hk;have lk:dZ (k:Int) 3=true:=jl (by omega);have a7:k<3:=by omega
 rw[hb,hs];generalize WE V k=l at a6⊢;generalize hv:V[k]=v at e3⊢;cases b:Ng l v;obtain⟨g,z,mx,_⟩:=aaN b a6;rw[g]at e3;cases z0:(v==0);have z1:=z z0;have nx:nxG l v=v:=if_neg (by simpa using z0);simp(maxSteps:=9^9) [gC,hk,a7,hl,hv,AX,e3,z0,z1,mx,nx,w,lk];have nx:nxG l v=l:=if_pos (by simpa using z0);simp(maxSteps:=9^9) [gC,hk,a7,hl,hv,AX,e3,z0,mx,nx,w,lk];obtain⟨q1,q2⟩:=adv b;cases g:rg v 0 1000000000000<;>rw[g]at e3;simp +contextual (maxSteps:=9^9) [gC,hk,a7,hl,hv,AX,e3,w,lk];have q3:=q1 g;have q4:=q2 g;simp +contextual (maxSteps:=9^9) [gC,hk,a7,hl,hv,AX,e3,q3,q4,w,lk];rw[hl]at hp;simp(maxSteps:=9^9) [gC,hp,hl,e1,show dZ 3 3=false from rfl]
def zQ (fs:List Q9)(nm:List UInt8):Nat:=fs.findIdx fun f=> !(Op.bytesLess f.aG nm)
def Og (fs:List Q9)(nm:List UInt8):zQ fs nm<=fs.length:=List.findIdx_le_length
def TP {fs:List Q9}{nm:List UInt8}{k:Nat}(h:k<zQ fs nm)(hk:k<fs.length):Op.bytesLess fs[k].aG nm=true:=by have:=List.not_of_lt_findIdx h;simpa using this
def TO {fs:List Q9}{nm:List UInt8}(h:zQ fs nm<fs.length):Op.bytesLess fs[zQ fs nm].aG nm=false:=by have:=List.findIdx_getElem (w:=h);unfold zQ;simpa using this
def yv (fs:List Q9)(nm:List UInt8)(n:Int):List Q9:=match fs[zQ fs nm]? with
 |some f=>if f.aG=nm then fs.set (zQ fs nm) ⟨nm,n⟩else fs.take (zQ fs nm)++(⟨nm,n⟩::fs.drop (zQ fs nm))
 |none=>fs.take (zQ fs nm)++(⟨nm,n⟩::fs.drop (zQ fs nm))
def abM (fs:List Q9)(nm:List UInt8)(n:Int):(yv fs nm n).length<=fs.length+1:=by have:=Og fs nm;unfold yv;split;split;simp;simp;omega;simp;omega
def abN {fs:List Q9}{nm:List UInt8}{n:Int}{f:Q9}(h:f∈yv fs nm n):f∈fs \/f=⟨nm,n⟩:=by
 have key:f∈fs.take (zQ fs nm)++(⟨nm,n⟩::fs.drop (zQ fs nm))->f∈fs \/f=⟨nm,n⟩:=fun h=>by rw[Ye,ZG]at h;rcases h with h|h|h;exact .inl (ZB h);exact .inr h;exact .inl (Yc h)
 unfold yv at h;split at h;split at h;exact ZF h;exact key h;exact key h
def Ve {B:Nat}{fs:List Q9}(h:fs.length<=B/\ ∀f∈fs,f.Ok B){nm:List UInt8}(hn:nm.length<=B){n:Int}(hi:og n):(yv fs nm n).length<=B+1/\ ∀f∈yv fs nm n,f.Ok (B+1):=by refine⟨by have:=abM fs nm n;omega,fun f hf=> ?_⟩;rcases abN hf with h1|rfl;exact Q9.Ok.mono (by omega) (h.2 f h1);exact⟨by simp only;omega,hi⟩
def Cn :∀{a b c:List UInt8},Op.bytesLess a b=true->Op.bytesLess b c=true->Op.bytesLess a c=true
 |[],[],_,h,_=>by cases h
 |[],_::_,[],_,h=>by cases h
 |[],_::_,_::_,_,_=>rfl
 |_::_,[],_,h,_=>by cases h
 |_::_,_::_,[],_,h=>by cases h
 |a::x,b::y,c::z,h,k=>by simp only[Op.bytesLess,YM,Zg,decide_eq_true_eq,beq_iff_eq]at h k⊢;rcases h with h|⟨rfl,h⟩;rcases k with k|⟨rfl,k⟩;exact .inl (UInt8.lt_trans h k);exact .inl h;rcases k with k|⟨rfl,k⟩;exact .inl k;exact .inr ⟨rfl,Cn h k⟩
def J0 :∀(a:List UInt8),Op.bytesLess a a=false
 |[]=>rfl
 |a::x=>by simp[Op.bytesLess,UInt8.lt_irrefl,J0 x]
def srt :List Q9->Prop
 |[]=>True
 |f::t=>(∀g∈t,Op.bytesLess f.aG g.aG=true)/\ srt t
def abY :∀{fs:List Q9},(∀j(h:j+1<fs.length),Op.bytesLess fs[j].aG fs[j+1].aG=true)->srt fs
 |[],_=>trivial
 |[f],_=>⟨by simp,trivial⟩
 |f::g::t,h=>by have ih:=abY (fs:=g::t) (fun j hj=>by have:=h (j+1) (by simpa using hj);simpa using this);refine⟨fun x hx=> ?_,ih⟩;have h0:=h 0 (by simp);simp at h0;rcases ZG.1 hx with rfl|hx;exact h0;exact Cn h0 (ih.1 x hx)
def abX :∀{fs:List Q9},srt fs->∀{i j:Nat}(h:i<j)(hj:j<fs.length),Op.bytesLess (fs[i]'(by omega)).aG fs[j].aG=true
 |[],_,_,_,_,hj=>by simp at hj
 |f::t,h,0,j+1,_,hj=>by simp only[Yz,YV];exact h.1 _ (Zf _)
 |f::t,h,i+1,j+1,az,hj=>by simp only[YV];exact abX h.2 (by omega) _
 |f::t,h,i+1,0,az,hj=>by omega
def Wz {a b:List UInt8}(h1:Op.bytesLess a b=false)(h2:a≠b):Op.bytesLess b a=true:=by have:=vA a b;rw[h1,beq_eq_false_iff_ne.2 h2]at this;simpa using this
def ac9 {fs:List Q9}(h:gL fs=true):srt fs:=by refine abY fun j hj=> ?_;simp only[gL,Zg,Zz]at h;have:=tJ h.1 hj;simp only[PD,hj,Zj,Qj,show j<fs.length by omega,ZR,Qs,Ya]at this;rcases this.2.2 with q|q;rw[jl (by omega)]at q;cases q;exact q
def aa7 {nm:List UInt8}{fs:List Q9}(h:srt fs):fP (isF nm) fs=(match fs[zQ fs nm]? with
 |some f=>if f.aG=nm then((zQ fs nm:Nat):Int)else-1
 |none=> -1):=by
 have before:∀j,j<zQ fs nm->kK (isF nm) fs j=false:=fun j hj=>by have h1:j<fs.length:=ZD hj (Og _ _);have:=TP hj h1;simp only[kK,h1,Zj,isF,beq_eq_false_iff_ne];intro e;rw[e,J0]at this;cases this
 by_cases hp:zQ fs nm<fs.length;simp only[hp,Zj];split;rename_i e;exact wV hp before (by simp[isF,e]);rename_i e;refine wU fun j hj=> ?_;by_cases q:j<zQ fs nm;exact before j q;have h2:=Wz (TO hp) e;simp only[kK,hj,Zj,isF,beq_eq_false_iff_ne];by_cases q2:j=zQ fs nm;subst q2;exact e;intro e3;have:=abX h (i:=zQ fs nm) (j:=j) (by omega) hj;rw[e3]at this;have:=Cn h2 this;rw[J0]at this;cases this;have:fs[zQ fs nm]? =none:=ZT (by omega);rw[this];exact wU fun j hj=>before j (by omega)
def setR (fs:List Q9)(nm:List UInt8)(n:Int):List Q9×Bool:=cond (gL fs&&gL (yv fs nm n)) (yv fs nm n,true) (fs,false)
abbrev FS (x:List Q9×Bool):V:= .b8 [(true,[.own 2 (x.1.map Q9.e)]),(false,[.pv (.bool x.2)])]
def D1 (fs:List Q9)(nm:List UInt8)(n:Int)(h:∀f,fs[zQ fs nm]? =some f->f.aG≠nm):(yv fs nm n).map Q9.e=(fs.map Q9.e).take (zQ fs nm)++([.str nm, .int .i64 n]::(fs.map Q9.e).drop (zQ fs nm)):=by
 have:yv fs nm n=fs.take (zQ fs nm)++(⟨nm,n⟩::fs.drop (zQ fs nm)):=by unfold yv;split;rename_i f hf;rw[if_neg (h f hf)];rfl
 rw[this];simp[Q9.e]
def D2 {fs:List Q9}{nm:List UInt8}{n:Int}(hk:zQ fs nm<fs.length)(h:fs[zQ fs nm].aG=nm):(yv fs nm n).map Q9.e=(fs.map Q9.e).set (zQ fs nm) [.str fs[zQ fs nm].aG, .int .i64 n]:=by
 have:yv fs nm n=fs.set (zQ fs nm) ⟨nm,n⟩:=by unfold yv;simp[hk,h]
 rw[this,YK,h];rfl
def Fy {B:Nat}(hB:B<=1048576){r:X7}(h:r.Ok B){nm:List UInt8}(hn:nm.length<=B){n:Int}(hi:og n):cf Ph cK 341 [r.v,fZ nm,ce .i64 n]=some (FS (setR r.fs nm n)):=by
 have hM:B+1<=maxLen:=by unfold maxLen;omega
 have e1:=qh hB h;have e2:=oK (X7.Ok.mono (by omega) h);have e3:=oK (r:=⟨yv r.fs nm n⟩) (X7.Ok.mono hM (Ve h hn hi));have hl:r.fs.length<=1048576:=Zc h.1 hB;have e4:=yG (r:=r) (by unfold maxLen;omega) nm;have fp:=fun hv=>aa7 (nm:=nm) (fs:=r.fs) (ac9 hv);have hs:=D2 (fs:=r.fs) (nm:=nm) (n:=n);have a2:=D1 r.fs nm n;unfold setR;generalize yv r.fs nm n=F at e3 hs a2⊢;refine ca rfl ?_;have hp:=Og r.fs nm;have m1:=gU (m:=r.fs.length+1) (z:=24) (by omega) (by omega);rcases AB (isF nm) r.fs with hf|⟨j,hj,hf,hq⟩<;>rw[hf]at e4 fp;simp +contextual (maxSteps:=9^9) [kM,e1,e4,dZ];have b1:= @TP r.fs nm;have b2:= @TO r.fs nm;generalize zQ r.fs nm=k at fp a2 hp b1 b2;refine cP dz Cl.fin [.f,.t,.t,.t,.f,.f,.t,.f,.t,.f,.t,.f,.f,.f,.f,.f,.f,.f,.f,.f,.f,.f,.f,.f,.f,.f,.f,.f,.f,.f,.f,.f,.f,.f,.f,.f,.f,.f,.f,.f,.f,.f,.f,.f,.f,.f,.f,.f,.f,.f,.f,.f,.f,.f,.f,.f,.f,.f,.f,.f,.f] (fun k=>[(10,ce .i64 k)]) k (fun _=>false) rfl (by simp) (fun j hj _=> ?_) (fun _ _=> ?_);have a5:j<r.fs.length:=by omega
 have l1:=b1 hj a5;simp +contextual (maxSteps:=9^9) [gW,a5,l1,cY (n:=r.fs.length) (by unfold maxLen;omega) a5,dw a5,Q9.e.eq_1 r.fs[j]];have hm:gL r.fs=true->_:=fun hv=>(a2 fun f aA e=>by
  have:=fp hv
  rw[aA]at this
  simp only[e,if_true]at this
  omega).symm
 by_cases hlt:k<r.fs.length;have l1:=b2 hlt;have hx:=Q9.e.eq_1 r.fs[k];cases c1:gL r.fs<;>rw[c1]at e2;simp +contextual (maxSteps:=9^9) [gW,hlt,hx,l1,hp,m1,e2,e1,dw hlt];have hm:=hm c1;cases c2:gL F<;>rw[c2]at e3;simp +contextual (maxSteps:=9^9) [gW,hlt,hx,l1,hp,m1,hm,e2,e3,e1,dw hlt];simp +contextual (maxSteps:=9^9) [gW,hlt,hx,l1,hp,m1,hm,e2,e3,dw hlt];obtain rfl:k=r.fs.length:=by omega
 cases c1:gL r.fs<;>rw[c1]at e2;simp +contextual (maxSteps:=9^9) [gW,m1,e2,e1];have hm:=hm c1;cases c2:gL F<;>rw[c2]at e3;simp +contextual (maxSteps:=9^9) [gW,m1, ↓hm,e2,e3,e1];simp +contextual (maxSteps:=9^9) [gW,m1, ↓hm,e2,e3];have hx:=Q9.e.eq_1 r.fs[j];cases c1:gL r.fs<;>rw[c1]at e2;simp +contextual (maxSteps:=9^9) [kM,e1,e4,dZ,hj,hx,e2];have fp:=fp c1;have hm:(r.fs.map Q9.e).set j [.str r.fs[j].aG, .int .i64 n]=F.map Q9.e:=by
  cases hc:r.fs[zQ r.fs nm]? with
  |none=>rw[hc]at fp;simp only at fp;omega
  |some f=>
   rw[hc]at fp;by_cases e:f.aG=nm;simp only[e,if_true]at fp;obtain rfl:j=zQ r.fs nm:=by omega
   rw[Zj hj]at hc;cases hc;exact(hs hj e).symm;simp only[e,if_false]at fp;omega
 cases c2:gL F<;>rw[c2]at e3;simp +contextual (maxSteps:=9^9) [kM,e1,e4,dZ,hj,hx,hm,e2,e3];simp +contextual (maxSteps:=9^9) [kM,e1,e4,dZ,hj,hx,hm,e2,e3]
def FZ {B:Nat}(hB:B<=1048576){r:X7}(h:r.Ok B){nm:List UInt8}(hn:nm.length<=B){n:Int}(hi:og n):cf Ph cK 338 [r.v,fZ nm,ce .i64 n]=some (FS (setR r.fs nm n)):=by
 have hM:B+1<=maxLen:=by unfold maxLen;omega
 have e1:=vJ hB h;have e2:=mi (X7.Ok.mono (by omega) h);have e3:=mi (r:=⟨yv r.fs nm n⟩) (X7.Ok.mono hM (Ve h hn hi));have hl:r.fs.length<=1048576:=Zc h.1 hB;have hs:=D2 (fs:=r.fs) (nm:=nm) (n:=n);have a2:=D1 r.fs nm n;unfold setR;generalize yv r.fs nm n=F at e3 hs a2⊢;refine ca rfl ?_;have hp:=Og r.fs nm;have m1:=gU (m:=r.fs.length+1) (z:=24) (by omega) (by omega);simp +contextual (maxSteps:=9^9) [t8,e1];have b1:= @TP r.fs nm;have b2:= @TO r.fs nm;generalize zQ r.fs nm=k at hs a2 hp b1 b2;have m2:=gU (m:=k) (z:=24) (by omega) (by omega);have m3:=gU (m:=k+1) (z:=24) (by omega) (by omega);have w2:((r.fs.map Q9.e).take k).all (fun e=>e.length==2)=true:=by rw[<-List.map_take];exact fM (e:=Q9.e) (z:=2) (fun _=>rfl) _
 have w3:((r.fs.map Q9.e).drop k).all (fun e=>e.length==2)=true:=by rw[<-List.map_drop];exact fM (e:=Q9.e) (z:=2) (fun _=>rfl) _
 have t1:List.take (r.fs.length-k) ((r.fs.map Q9.e).drop k)=(r.fs.map Q9.e).drop k:=Zs (by simp);have t2:k+1+(r.fs.length-k)=r.fs.length+1:=by omega
 have w4:=fM (e:=Q9.e) (z:=2) (fun _=>rfl) r.fs;refine cP dz Cl.fin [.f,.t,.t,.t,.f,.f,.t,.f,.t,.t,.f,.f,.f,.f,.f,.f,.f,.f,.f,.f,.f,.f,.f,.f,.f,.f,.f,.f,.f,.f,.f,.f,.f,.f,.f,.f,.f,.f,.f,.f,.f,.f,.f,.f,.f,.f,.f,.f,.f,.f,.f,.f,.f,.f,.f,.f,.f,.f,.f,.f,.f,.f,.f,.f,.f,.f,.f,.f,.f,.f,.f,.f,.f,.f,.f,.f,.f,.f] (fun k=>[(9,ce .i64 k)]) k (fun _=>false) rfl (by simp) (fun j hj _=> ?_) (fun _ _=> ?_);have a5:j<r.fs.length:=by omega
 have l1:=b1 hj a5;simp +contextual (maxSteps:=9^9) [jJ,a5,l1,cY (n:=r.fs.length) (by unfold maxLen;omega) a5,dw a5,Q9.e.eq_1 r.fs[j]];by_cases hlt:k<r.fs.length;have l1:=b2 hlt;have hx:=Q9.e.eq_1 r.fs[k];by_cases hq:r.fs[k].aG=nm;have hm:=(hs hlt hq).symm;have hb:(r.fs[k].aG==nm)=true:=by simp[hq]
 cases c1:gL r.fs<;>rw[c1]at e2<;>cases c2:gL F<;>rw[c2]at e3<;>simp +contextual (maxSteps:=9^9) [jJ,hlt,hx,l1,hb,hm,e2,e3,e1,dw hlt];have hm:=(a2 fun f hf e=>hq (by rw[Zj hlt]at hf;cases hf;exact e)).symm;have hb:(r.fs[k].aG==nm)=false:=by simp[hq]
 cases c1:gL r.fs<;>rw[c1]at e2<;>cases c2:gL F<;>rw[c2]at e3<;>simp +contextual (maxSteps:=9^9) [jJ,hlt,hx,l1,hb,hm,e2,e3,e1,dw hlt,m1,m2,m3,w2,w3,w4,hp,t1,t2];obtain rfl:k=r.fs.length:=by omega
 have hm:=(a2 fun f hf e=>by rw[ZT (Zi _)]at hf;cases hf).symm;have ab:(r.fs.map Q9.e).take r.fs.length++[[.str nm, .int .i64 n]]=F.map Q9.e:=by rw[<-hm];simp
 have hF:F.length=r.fs.length+1:=by have:=congrArg List.length ab;simpa using this.symm
 cases c1:gL r.fs<;>rw[c1]at e2<;>cases c2:gL F<;>rw[c2]at e3<;>simp +contextual (maxSteps:=9^9) [jJ,hm,ab,hF,e2,e3,e1,m1,m2,m3,w2,w3,w4,t1,t2]
def okI (x:Q3):Bool:=nI x.aZ&&gL x.au.fs
def xV :List Q3->Bool
 |[]=>true
 |[_]=>true
 |a::b::t=>decide (xj a.aZ b.aZ<0)&&xV (b::t)
def JZ :Option Q3->Option Q3->Bool
 |some a,some b=>decide (xj a.aZ b.aZ<0)
 |_,_=>true
def M4 :∀{xs:List Q3},xV xs=true↔∀j(h:j+1<xs.length),xj xs[j].aZ xs[j+1].aZ<0
 |[]=>by simp[xV]
 |[_]=>by simp[xV]
 |a::b::t=>by
  have ih:=M4 (xs:=b::t);simp only[xV,Zg,decide_eq_true_eq,ih];constructor;intro⟨h1,h2⟩ j hj;cases j with
  |zero=>simpa using h1
  |succ j=>have:=h2 j (by simpa using hj);simpa using this
  intro h;refine⟨by have:=h 0 (by simp);simpa using this,fun j hj=> ?_⟩;have:=h (j+1) (by simpa using hj);simpa using this
def yi (xs:List Q3):Bool:= !(jU xs.length (La xs))
def JS (xs:List Q3):yi xs=(xs.all okI&&xV xs):=by
 rw[Qg];unfold yi;simp only[Zz,Zg,M4,Zu];have ag:∀k(hk:k<xs.length),La xs k=(!(nI xs[k].aZ)||(!(gL xs[k].au.fs)||(dZ 0 k&& !(dZ (xj (xs[k-1]'(by omega)).aZ xs[k].aZ) 0)))):=fun k hk=>by simp[La,hk,show k-1<xs.length by omega]
 constructor;intro h;refine⟨fun x hx=> ?_,fun j hj=> ?_⟩;obtain⟨k,hk,rfl⟩:=Yb.1 hx;have:=tJ h hk;rw[ag k hk]at this;simp only[ZR,Ya]at this;simp[okI,this.1,this.2.1];have:=tJ h hj;rw[ag _ hj]at this;simp only[ZR,Qs,Ya,Qj]at this;rcases this.2.2 with q|q;rw[jl (by omega)]at q;cases q;exact of_decide_eq_true q;intro⟨h1,h2⟩;refine M8 fun k hk=> ?_;rw[ag k hk];have h3:=h1 _ (Zf hk);simp only[okI,Zg]at h3;rw[h3.1,h3.2];cases k with
 |zero=>rw[iG (by simp)];rfl
 |succ j=>have:=h2 j hk;simp only[Qj,jl this];simp
def CQ :∀(l m:List Q3),xV (l++m)=(xV l&&(xV m&&JZ l.getLast? m.head?))
 |[],m=>by cases m<;>simp[xV,JZ]
 |[a],[]=>by simp[xV,JZ]
 |[a],b::m=>by simp[xV,JZ,Bool.and_comm]
 |a::b::t,m=>by
  have ih:=CQ (b::t) m;simp only[Zh]at ih⊢;simp only[xV,ih,Bool.and_assoc];have:(a::b::t).getLast? =(b::t).getLast?:=by simp[List.getLast?_cons_cons]
  rw[this]
def VB (x:Q3)(m:List Q3):xV (x::m)=(xV m&&JZ (some x) m.head?):=by have:=CQ [x] m;simpa[xV]using this
def Bb (xs:List Q3)(k:Y7):Nat:=xs.findIdx fun x=> !(decide (xj x.aZ k<0))
def DW (xs:List Q3)(k:Y7):Bb xs k<=xs.length:=List.findIdx_le_length
def Of {xs:List Q3}{k:Y7}{j:Nat}(h:j<Bb xs k)(hj:j<xs.length):xj xs[j].aZ k<0:=by have:=List.not_of_lt_findIdx h;simpa using this
def Oe {xs:List Q3}{k:Y7}(h:Bb xs k<xs.length):¬xj xs[Bb xs k].aZ k<0:=by have:=List.findIdx_getElem (w:=h);unfold Bb;simpa using this
def VW {a b:List UInt8}(h:Lib.compareBytes a b=0):a=b:=by rw[kZ]at h;have ht:=vA a b;cases q:Op.bytesLess a b<;>cases q2:Op.bytesLess b a<;>simp[q,q2]at h ht⊢;exact ht
def VX {a b:Y7}(ha:nI a=true)(hb:nI b=true)(ae:a≠b)(h:¬xj a b<0):xj b a<0:=by
 have h1:=aaT a b;have hz:xj a b≠0:=fun e=>by obtain⟨ak,an,ax⟩:=a;obtain⟨bk,bn,bx⟩:=b;simp only[ne_eq,Y7.mk.injEq]at ae;have hc:= @VW ax bx;simp only[xj,ha,hb]at e;grind [sgn,dZ]
 omega
def NZ {k:Y7}{x:Q3}:FH k x=true↔x.aZ=k:=by obtain⟨⟨a,b,c⟩,r⟩:=x;obtain⟨d,e,f⟩:=k;simp[FH]
def UH {α:Type}{p:α->Bool}{xs:List α}(h:fP p xs= -1):∀x∈xs,p x=false:=fun x hx=>by
 unfold fP at h;cases q:xs.findIdx? p with
 |none=>rw[YC]at q;exact q x hx
 |some i=>rw[q]at h;simp only at h;omega
def Bn (s:Q6)(k:Y7):Int:=if k.aW=1/\ s.aS<k.n/\ k.n<=1000000 then k.n else s.aS
def um (s:Q6)(k:Y7)(r:X7):List Q3:=s.a1.take (Bb s.a1 k)++(⟨k,r⟩::s.a1.drop (Bb s.a1 k))
def Bd (s:Q6)(k:Y7)(r:X7):Q6×Bool:=
 cond (gy s&&(nI k&&gL r.fs))
  (if 0<=fP (FH k) s.a1 then(⟨s.aG,s.a1.set (fP (FH k) s.a1).toNat ⟨k,r⟩,s.aS⟩,true)
   else if 16<=s.a1.length then(s,false)else(⟨s.aG,um s k r,Bn s k⟩,true))
  (s,false)
def aaF {xs:List Q3}{j:Nat}{x:Q3}(hj:j<xs.length)(hk:xs[j].aZ=x.aZ)(h:xV xs=true):xV (xs.set j x)=true:=by
 have aa:∀i(hi:i<xs.length),((xs.set j x)[i]'(by simpa using hi)).aZ=xs[i].aZ:=fun i hi=>by rw[List.getElem_set];split;rename_i e;subst e;exact hk.symm;rfl
 rw[M4]at h⊢;intro i hi;have aq:i+1<xs.length:=by simpa using hi
 rw[aa i (by omega),aa (i+1) aq];exact h i aq
def Gz {s:Q6}{k:Y7}{r:X7}{j:Nat}(hs:gy s=true)(hj:j<s.a1.length)(hk:s.a1[j].aZ=k):gy ⟨s.aG,s.a1.set j ⟨k,r⟩,s.aS⟩=gL r.fs:=by
 unfold gy at hs⊢;simp only[Zg]at hs;obtain⟨h1,h2,h3,h4⟩:=hs;simp only[h2,h3,h4,ZC,ZH,Yk,Yj];change yi _=true at h1;have e:(!jU s.a1.length (La (s.a1.set j ⟨k,r⟩)))=yi (s.a1.set j ⟨k,r⟩):=by unfold yi;rw[ZC]
 rw[e];rw[JS]at h1⊢;simp only[Zg]at h1;rw[aaF hj hk h1.2,Yk];cases hr:gL r.fs with
 |true=>rw[Zu];intro x hx;rcases ZF hx with hx|rfl;exact Zu.1 h1.1 x hx;have:=Zu.1 h1.1 _ (Zf hj);simp only[okI,hk,Zg]at this;simp[okI,hr,this.1]
 |false=>rw[List.all_eq_false];refine⟨⟨k,r⟩,Yb.2 ⟨j,by simpa using hj,by simp⟩,by simp[okI,hr]⟩
def Gy {s:Q6}{k:Y7}{r:X7}(hs:gy s=true)(hk:nI k=true)(hf:fP (FH k) s.a1= -1):gy ⟨s.aG,um s k r,Bn s k⟩=(gL r.fs&&decide (s.a1.length+1<=16)):=by
 unfold gy at hs⊢;simp only[Zg]at hs;obtain⟨h1,h2,h3,h4⟩:=hs;change yi _=true at h1;change (yi _&&_)=_;rw[JS]at h1⊢;simp only[Zg,rg,dZ,decide_eq_true_eq,Zz,decide_eq_false_iff_not]at h1 h4;have hp:=DW s.a1 k;have hlen:(um s k r).length=s.a1.length+1:=by unfold um;simp;omega
 have ha:rg (Bn s k) 0 1000000=true:=by unfold Bn rg dZ;split<;>simp<;>omega
 have hl:(!(dZ 16 ((um s k r).length:Nat)))=decide (s.a1.length+1<=16):=by rw[hlen,Qg];simp[dZ];omega
 simp only[h2,ha,hl,Yk,Yj];congr 1;have ai:xV (um s k r)=true:=by
  unfold um;rw[CQ,VB];have af:=CQ (s.a1.take (Bb s.a1 k)) (s.a1.drop (Bb s.a1 k));rw[List.take_append_drop,h1.2]at af;simp only[Bool.true_eq,Zg]at af;rw[af.1,af.2.1];simp only[Yj,List.head?_cons,Zg];constructor;cases hq:(s.a1.drop (Bb s.a1 k)).head? with
  |none=>rfl
  |some y=>rw[List.head?_drop]at hq;obtain⟨hlt,rfl⟩:=Zb.1 hq;have hy:=Zu.1 h1.1 _ (Zf hlt);simp only[okI,Zg]at hy;have:=VX hy.1 hk (fun e=>by have:=UH hf _ (Zf hlt);rw[NZ.2 e]at this;cases this) (Oe hlt);simp[JZ,this]
  cases hq:(s.a1.take (Bb s.a1 k)).getLast? with
  |none=>rfl
  |some y=>rw[List.getLast?_eq_getElem?]at hq;obtain⟨hlt,rfl⟩:=Zb.1 hq;simp only[ZI]at hlt⊢;rw[List.getElem_take];have:=Of (xs:=s.a1) (k:=k) (j:=min (Bb s.a1 k) s.a1.length-1) (by omega) (by omega);simp[JZ,this]
 rw[ai,Yk];cases hr:gL r.fs with
 |true=>rw[Zu];intro x hx;unfold um at hx;rw[Ye,ZG]at hx;rcases hx with hx|rfl|hx;exact Zu.1 h1.1 x (ZB hx);simp[okI,hr,hk];exact Zu.1 h1.1 x (Yc hx)
 |false=>rw[List.all_eq_false];exact⟨⟨k,r⟩,by unfold um;simp,by simp[okI,hr]⟩
def yp {j:Nat}:dZ (j:Int) 0=false:=iG (by omega)
def Pz (s:Q6)(k:Y7):Bn s k=cond (k.aW==1&&(dZ s.aS k.n&& !(dZ 1000000 k.n))) k.n s.aS:=by
 have e3:decide (1000000<k.n)= !(decide (k.n<=1000000)):=by rw[Qg];simp
 have e4:(k.aW==1)=decide (k.aW=1):=by rw[Qg];simp
 unfold Bn dZ;rw[e3,e4];by_cases h1:k.aW=1<;>by_cases h2:s.aS<k.n<;>by_cases h3:k.n<=1000000<;>simp[h1,h2,h3]
abbrev tm (x:Q6×Bool):V:= .b8 [(true,[.pv (.str x.1.aG),nd 4 (x.1.a1.map Q3.e), .pv (.int .i64 x.1.aS)]),(false,[.pv (.bool x.2)])]
abbrev Oh (x:Q6×Bool):V:= .b8 [(true,[.pv (.str x.1.aG),pm 4 (x.1.a1.map Q3.e), .pv (.int .i64 x.1.aS)]),(false,[.pv (.bool x.2)])]
def Rt (s:Q6)(k:Y7)(r:X7):(um s k r).map Q3.e=(s.a1.map Q3.e).take (Bb s.a1 k)++([.int .i64 k.aW, .int .i64 k.n, .str k.ad, .lst (r.fs.map Q9.e)]::(s.a1.map Q3.e).drop (Bb s.a1 k)):=by simp[um,Q3.e]
def NY {B:Nat}{s:Q6}(h:s.Ok B){k:Y7}(hk:k.Ok B){r:X7}(hr:r.Ok B):(um s k r).length<=B+1/\ ∀x∈um s k r,x.Ok (B+1):=by obtain⟨_,⟨h1,h2⟩,_⟩:=h;have:=DW s.a1 k;refine⟨by simp[um];omega,fun x hx=>Q3.Ok.mono (A:=B) (by omega) ?_⟩;unfold um at hx;rw[Ye,ZG]at hx;rcases hx with hx|rfl|hx;exact h2 x (ZB hx);exact⟨hk,hr⟩;exact h2 x (Yc hx)
def Ot {B:Nat}{s:Q6}(h:s.Ok B){k:Y7}(hk:k.Ok B){r:X7}(hr:r.Ok B)(j:Nat):(s.a1.set j ⟨k,r⟩).length<=B/\ ∀x∈s.a1.set j ⟨k,r⟩,x.Ok B:=by obtain⟨_,⟨h1,h2⟩,_⟩:=h;refine⟨by simpa using h1,fun x hx=> ?_⟩;rcases ZF hx with hx|rfl;exact h2 x hx;exact⟨hk,hr⟩
def PC {s:Q6}{k:Y7}(h1:og s.aS)(h2:og k.n):og (Bn s k):=by unfold Bn;split<;>assumption
def HD {B:Nat}(hB:B<=1048576){s:Q6}(h:s.Ok B){k:Y7}(hk:k.Ok B){r:X7}(hr:r.Ok B):cf Ph cK 342 [s.v,k.v,r.v]=some (tm (Bd s k r)):=by
 have hM:B+1<=maxLen:=by unfold maxLen;omega
 have hl:s.a1.length<=1048576:=Zc h.2.1.1 hB;have e1:=jM hB h;have e2:=kP (Q6.Ok.mono (by omega) h);have e3:=pk (Y7.Ok.mono (by omega) hk);have e4:=xt (s:=s) (by unfold maxLen;omega) k;have e5:=qh hB hr;have O:=jg 4 (s.a1.map Q3.e);unfold Bd;refine ca rfl ?_;cases c1:gy s<;>rw[c1]at e2;rcases O with⟨_,q2,q1⟩|⟨_,q2,q1⟩<;>rw[q2]at e1<;>simp(maxSteps:=9^9) [ky,e1,e2,q2];cases c2:nI k<;>rw[c2]at e3;rcases O with⟨_,q2,q1⟩|⟨_,q2,q1⟩<;>rw[q2]at e1<;>simp(maxSteps:=9^9) [ky,e1,e2,e3,q2];rcases AB (FH k) s.a1 with hf|⟨j,hj,hf,hq⟩<;>rw[hf]at e4⊢;have e6:∀a,a=Bn s k->cf Ph cK 354 [Q6.v ⟨s.aG,um s k r,a⟩]=some (cL (gL r.fs&&decide (s.a1.length+1<=16))):=fun a ha=>by subst ha;rw[<-Gy (r:=r) c1 c2 hf];exact kP (s:=⟨s.aG,um s k r,Bn s k⟩) ⟨Zc h.1 (by omega),⟨Zc (NY h hk hr).1 (by omega),fun x hx=>Q3.Ok.mono (by omega) ((NY h hk hr).2 x hx)⟩,PC h.2.2 hk.2.1⟩
 have hA:=Pz s k;obtain⟨g1,h1⟩:∃g,(k.aW==1)=g:=⟨_,rfl⟩;rw[h1]at hA;have hL:(16<=s.a1.length)=(decide (s.a1.length+1<=16)=false):=by simp;omega
 have a2:=Rt s k r;have hp:=DW s.a1 k;have b1:= @Of s.a1 k;have b2:= @Oe s.a1 k;have m1:=gU (m:=s.a1.length+1) (z:=56) (by omega) (by omega);have O2:=jg 4 ((um s k r).map Q3.e);rcases O2 with⟨q,_⟩|⟨_,q3,_⟩;rw[a2]at q;simp at q;simp only[hL];generalize um s k r=F at e6 a2 q3⊢;generalize Bb s.a1 k=p at a2 hp b1 b2;generalize decide (s.a1.length+1<=16)=d at e6 hL⊢;have l0:dZ (-1) 0=true:=rfl;have aB:dZ 0 0=false:=rfl;rcases O with⟨q0,q2,q1⟩|⟨q0,q2,q1⟩<;>rw[q2]at e1;have a8:s.a1=[]:=by simpa using q0
 rw[a8]at a2 hp;have aD:p=0:=by simpa using hp
 subst aD;simp only[Zy,Qc,QX,Zk]at a2;simp(maxSteps:=9^9) [ky,e1,e2,e3,e4,l0];rw[xS];have ar:=e1;rw[a8,Zy]at ar;have aE:nd 4 []= .nil:=rfl;have hF:F.length=1:=by have:=congrArg List.length a2;simpa using this
 cases c4:gL r.fs<;>rw[c4]at e6<;>cases d<;>simp +contextual (maxSteps:=9^9) [kh,e1,ar,aE,e2,e3,e4,e5,a8,aB,q2,hF,<-a2,e6,hA,h1,q3];simp(maxSteps:=9^9) [ky,e1,e2,e3,e4,l0];refine cP dz Cl.fin [.f,.f,.f,.t,.t,.t,.t,.f,.t,.f,.t,.f,.f,.f,.f,.f,.f,.f,.f,.f,.f,.f,.f,.f,.f,.f,.f,.f,.f,.f,.f,.f,.f,.f,.f,.f,.f,.f,.f,.f,.f,.f,.f,.f,.f,.f,.f,.f,.f,.f,.f,.f,.f,.f,.f,.f,.f,.f,.f,.f,.f,.f,.f,.f,.f,.f,.f,.f,.f,.f,.f,.f,.f,.f,.f,.f,.f,.f,.f,.f,.f,.f,.f,.f,.f,.f,.f] (fun k=>[(10,ce .i64 k)]) p (fun _=>false) rfl (by simp) (fun j hj _=> ?_) (fun _ _=> ?_);have a5:j<s.a1.length:=by omega
 have l1:=jl (b1 hj a5);have e7:=lJ (Y7.Ok.mono (by omega) (h.2.1.2 _ (Zf a5)).1) (Y7.Ok.mono (by omega) hk);simp +contextual (maxSteps:=9^9) [kh,a5,l1,e7,cY (n:=s.a1.length) (by unfold maxLen;omega) a5,dw a5,Q3.e.eq_1 s.a1[j]];by_cases hlt:p<s.a1.length;have l1:=iG (Int.not_lt.1 (b2 hlt));have hx:=Q3.e.eq_1 s.a1[p];have e7:=lJ (Y7.Ok.mono (by omega) (h.2.1.2 _ (Zf hlt)).1) (Y7.Ok.mono (by omega) hk);cases c4:gL r.fs<;>rw[c4]at e6<;>cases d<;>simp +contextual (maxSteps:=9^9) [kh,hlt,hx,l1,e7,hp,m1,dw hlt,e1,e2,e3,e4,e5,q2,<-a2,e6,hA,h1,q3];obtain rfl:p=s.a1.length:=by omega
 have ab:(s.a1.map Q3.e).take s.a1.length++[[.int .i64 k.aW, .int .i64 k.n, .str k.ad, .lst (r.fs.map Q9.e)]]=F.map Q3.e:=by rw[a2];simp
 have hd:(s.a1.map Q3.e).drop s.a1.length=[]:=Yu (by simp);cases c4:gL r.fs<;>rw[c4]at e6<;>cases d<;>simp +contextual (maxSteps:=9^9) [kh,m1,e1,e2,e3,e4,e5,q2,hd, ↓ab,e6,hA,h1,q3];have aw:=NZ.1 hq;have hx:=Q3.e.eq_1 s.a1[j];have hm:(s.a1.map Q3.e).set j [.int .i64 s.a1[j].aZ.aW, .int .i64 s.a1[j].aZ.n, .str s.a1[j].aZ.ad, .lst (r.fs.map Q9.e)]=(s.a1.set j ⟨k,r⟩).map Q3.e:=by rw[YK,aw];rfl
 have e6:=kP (s:=⟨s.aG,s.a1.set j ⟨k,r⟩,s.aS⟩) ⟨Zc h.1 (by omega),⟨Zc (Ot h hk hr j).1 (by omega),fun x hx=>Q3.Ok.mono (by omega) ((Ot h hk hr j).2 x hx)⟩,h.2.2⟩;rw[Gz c1 hj aw]at e6;have ae:s.a1.map Q3.e≠[]:=by intro e;have:=congrArg List.length e;simp only[Zr,Zx]at this;omega
 have O2:=jg 4 ((s.a1.set j ⟨k,r⟩).map Q3.e);rw[<-hm]at O2;rcases O with⟨q,_⟩|⟨_,q2,q1⟩;exact absurd q ae;rcases O2 with⟨q,_⟩|⟨_,q3,_⟩;exact absurd (by simpa using q) ae;rw[hm]at q3;rw[q2]at e1;simp only[Int.toNat_natCast];generalize s.a1.set j ⟨k,r⟩=F at hm e6 q3⊢;cases c3:gL r.fs<;>rw[c3]at e6<;>simp(maxSteps:=9^9) [ky,e1,e2,e3,e4,e5,e6,q2,q3,hm,hx,hj,yp]
end Gi
