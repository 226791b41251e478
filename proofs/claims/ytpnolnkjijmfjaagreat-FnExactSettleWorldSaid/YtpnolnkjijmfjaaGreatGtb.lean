/- Of this proof. -/
import Derived.Test.YtpnolnkjijmfjaaGreatGta
set_option linter.all false
namespace Gi
open Go Go.RowKit
attribute [local simp] start iN cD cj cT dG dY fa Opd.ev put V.cells plain dP ja isInt isStr isBool bin ft un asList L.view cy V.view viewL done dd cu fb eh comp cU dS cz V.flat L.flat fe fv dK putAt thaw thawL freezeVs freezeLs freezeL V.mut L.mut cN cQ
def FJ {f g:St->Option (Ex×St)}(h:g=f)(Z:St):cS f Z=(match g Z with
 |some (.normal,Z')=>cS f Z'
 |r=>r):=by rw[h];exact zJ f Z
def ab0 :gV []=0:=by simp only[gV]
def AO (p:PV)(ps:List PV):gV (p::ps)=sz p+gV ps:=by simp only[gV]
def iq (s:List UInt8):sz (.str s)=s.length:=by simp only[sz]
def ut :∀(l m:List PV),gV (l++m)=gV l+gV m
 |[],m=>by rw[Zk,ab0,ZK]
 |p::l,m=>by rw[Zh,AO,AO,ut l m,Nat.add_assoc]
def eL :∀{l:List PV}{i:Nat}{p:PV},l[i]? =some p->sz p<=gV l
 |[],_,_,h=>by simp at h
 |q::l,0,p,h=>by simp at h;subst h;rw[AO];exact ZU _ _
 |q::l,i+1,p,h=>by rw[AO];exact Zc (eL (l:=l) (i:=i) (by simpa using h)) (Nat.le_add_left _ _)
def aaB (x:Option (Ex×St))(Q:Ex->St->Prop):Prop:=
 match x with
 |some (e,Z)=>Q e Z
 |none=>False
def aaB.get {x:Option (Ex×St)}{Q:Ex->St->Prop}(h:aaB x Q):∃e Z,x=some (e,Z)/\ Q e Z:=by unfold aaB at h;split at h;exact⟨_,_,rfl,h⟩;exact h.elim
def Mh {e:Ex}{Z:St}{Q:Ex->St->Prop}:aaB (some (e,Z)) Q=Q e Z:=rfl
section
variable {ext:Nat->List V->Option V}
def T8 {rows:List (List PV)}(hl:rows.length<=maxLen)(hr:∀r∈rows,∃s:List UInt8,r=[.str s]/\ s.length<=maxLen):∀(m k:Nat)(i:Int),i=k->k+m=rows.length->∀(left:Int),0<=left->left<=1048576->∀(x2 x3 x4 x6 x7 x8 x9 a2 a5 a6 a7 a8 aa ab ad ae af ag ah ai aj ak al an ao:V)(h:List Q0),
 aaB (cS (cD (cf Ph ext) cS ic) ⟨(eW rows::ce .i64 left::x2::x3::x4::ce .i64 i::x6::x7::x8::x9::a2::a5::a6::a7::a8::aa::ab::ad::ae::af::ag::ah::ai::aj::ak::al::an::ao::[]),h⟩) fun e Z'=>Z'.h=h/\ Z'.t.length=28/\ ((e= .exit 0/\ 0<=less left (dR (rows.drop k))/\ Z'.t[1]? =some (ce .i64 (less left (dR (rows.drop k))))) \/(e= .ret/\ less left (dR (rows.drop k))= -1/\ Z'.t[4]? =some (ce .i64 (-1)))):=by
 generalize hF:cD (cf Ph ext) cS ic=F;intro m;induction m with
 |zero=>
  intro k i hi hk left h0 h1 x2 x3 x4 x6 x7 x8 x9 a2 a5 a6 a7 a8 aa ab ad ae af ag ah ai aj ak al an ao h;subst hi;have av:k=rows.length:=by omega
  subst av;have aw:less left (dR (rows.drop rows.length))=left:=by simp[dR,less];omega
  rw[aw,FJ hF];simp[ic,mJ,h0,Mh]
 |succ m ih=>
  intro k i hi hk left h0 h1 x2 x3 x4 x6 x7 x8 x9 a2 a5 a6 a7 a8 aa ab ad ae af ag ah ai aj ak al an ao h;subst hi;have hlt:k<rows.length:=by omega
  have hw:=oA (k:=k) (by unfold maxLen at hl;omega);obtain⟨s,aq,hs⟩:=hr _ (Zf hlt);unfold maxLen at hs;have au:IntKind.i64.wrap (left-(s.length:Int))=left-(s.length:Int):=by rw[IntKind.wrap_i64];omega
  rw[GN hlt,aq];have ax:gV [PV.str s]=s.length:=by simp[gV,sz]
  rw[ax];by_cases ar:left<(s.length:Int);have e1:less left (s.length+dR (rows.drop (k+1)))= -1:=by unfold less;rw[if_pos (by omega)]
  rw[e1,FJ hF];have hn:left-(s.length:Int)<0:=by omega
  simp[ic,mJ,hlt,aq,hw,au,hn,Mh];have hn:¬left-(s.length:Int)<0:=by omega
  have key:=ih (k+1) ((k:Int)+1) (by omega) (by omega) (left-s.length) (by omega) (by omega);have e1:less (left-s.length) (dR (rows.drop (k+1)))=less left (s.length+dR (rows.drop (k+1))):=by
   have:left-(s.length:Int)=less left s.length:=by unfold less;rw[if_neg ar]
   rw[this];exact xx (by rw[<-this];omega)
  rw[e1]at key;clear ih;rw[FJ hF];simp[ic,mJ,hlt,aq,hw,au,hn];exact key _ _ _ _ _ _ _ _ _ _ _ _ _ _ _ _ _ _ _ _ _ _ _ _ _ _
def OO {rows:List (List PV)}(hl:rows.length<=maxLen)(hr:∀r∈rows,∃s:List UInt8,r=[.str s]/\ s.length<=maxLen){left:Int}(h0:0<=left)(h1:left<=1048576):cf Ph ext 200 [eW rows,ce .i64 left]=some (ce .i64 (less left (sz (.lst rows)))):=by
 refine j0 rfl ?_;have hw:IntKind.i64.wrap (left-rows.length)=left-rows.length:=by unfold maxLen at hl;rw[IntKind.wrap_i64];omega
 rw[mP];by_cases hn:left<rows.length;have a1:left-(rows.length:Int)<0:=by omega
 have e:less left (rows.length+dR rows)= -1:=by unfold less;rw[if_pos (by omega)]
 rw[e];generalize hF:cD (cf Ph ext) cS ic=F;simp[lW,mJ,hF,hw,a1];have a1:¬left-(rows.length:Int)<0:=by omega
 have hle:left-(rows.length:Int)=less left rows.length:=by unfold less;rw[if_neg hn]
 obtain⟨e,⟨t',h'⟩,q1,q2,q5,q3⟩:=(T8 (ext:=ext) hl hr rows.length 0 0 rfl (by omega) (left-rows.length) (by omega) (by omega) (.b8 []) (.b8 []) (ce .i64 0) (ce .i64 left) (eW rows) (ce .i64 rows.length) (ce .i64 (left-rows.length)) (ce .i64 (left-rows.length)) (cL false) (.b8 []) (.b8 []) (.b8 []) (.b8 []) (.b8 []) (.b8 []) (.b8 []) (.b8 []) (.b8 []) (.b8 []) (.b8 []) (.b8 []) (.b8 []) (.b8 []) (.b8 []) (.b8 []) []).get;simp only[List.drop_zero]at q3;have ay:less (left-rows.length) (dR rows)=less left (rows.length+dR rows):=by rw[hle];exact xx (by rw[<-hle];omega)
 rw[ay]at q3;simp at q5;rcases q3 with⟨rfl,_,q4⟩|⟨rfl,q6,q4⟩;obtain⟨_,q7⟩:=Zb.1 q4;simp[lW,mJ,hw,a1,q1,q5,q7];obtain⟨_,q7⟩:=Zb.1 q4;simp[lW,mJ,hw,a1,q1,q5,q7,q6]
end
end Gi
namespace Gi
open Go Go.RowKit
set_option maxRecDepth 4000
abbrev TyP :PTy->Type
 | .int _=>Int
 | .bool=>Bool
 | .str=>List UInt8
 | .lst _=>List (List PV)
abbrev adC :(t:PTy)->TyP t->PV
 | .int k,n=> .int k n
 | .bool,b=> .bool b
 | .str,s=> .str s
 | .lst _,l=> .lst l
abbrev acr :List PTy->Type
 |[]=>Unit
 |t::ts=>TyP t×acr ts
abbrev aft :(ts:List PTy)->acr ts->List PV
 |[],_=>[]
 |t::ts,(x,y)=>adC t x::aft ts y
def aeV :(ts:List PTy)->acr ts->Prop
 |[],_=>True
 |t::ts,(x,y)=>mY t (adC t x)/\ aeV ts y
def fu :∀{ts:List PTy}{r:List PV},dX ts r->∃x:acr ts,r=aft ts x/\ aeV ts x
 |[],r,h=>⟨(),jT h,trivial⟩
 |t::ts,r,h=>by
  obtain⟨p,q,rfl,g,k⟩:=ir h;obtain⟨y,rfl,l⟩:=fu k;cases t with
  |int=>obtain⟨n,rfl⟩:=qu g;exact⟨(n,y),rfl,g,l⟩
  |bool=>obtain⟨n,rfl⟩:=pg g;exact⟨(n,y),rfl,g,l⟩
  |str=>obtain⟨n,rfl⟩:=qv g;exact⟨(n,y),rfl,g,l⟩
  |lst=>obtain⟨n,rfl⟩:=tk g;exact⟨(n,y),rfl,g,l⟩
section
variable {ext:Nat->List V->Option V}
def agc {rows:List (List PV)}(h:mY (.lst mo) (.lst rows)):∀r∈rows,∃s:List UInt8,r=[.str s]/\ s.length<=maxLen:=by obtain⟨_,hr⟩:=dM h;intro r m;obtain⟨⟨c0,_⟩,rfl,g0,_⟩:=fu (hr r m);exact⟨c0,rfl,g0⟩
def Ud :oD Ph ext 89 Ed:=fR (ss:=At) rfl (eJ ⟨rfl,rfl,trivial⟩)
def T1 :ph Ph ext 87 Ed:=fY (ss:=At) rfl (eJ ⟨rfl,rfl,trivial⟩)
def Tj :oC Ph ext 91 Ed:=fQ (ss:=At) rfl (eJ ⟨rfl,rfl,trivial⟩)
def SB :oR Ph ext 66 pz:=lL rfl rfl rfl rfl (by decide) (by decide) Ud (fun _=>rfl)
def Si :oQ Ph ext 64 pz:=nL rfl rfl T1
def P4 :oP Ph ext 69 pz:=lG rfl rfl Tj
def SD :oD Ph ext 34 MM:=fR (ss:=Mq) rfl (eJ ⟨rfl,rfl,rfl,trivial⟩)
def Sk :ph Ph ext 30 MM:=fY (ss:=Mq) rfl (eJ ⟨rfl,rfl,rfl,trivial⟩)
def P8 :oC Ph ext 38 MM:=fQ (ss:=Mq) rfl (eJ ⟨rfl,rfl,rfl,trivial⟩)
def SH :oD Ph ext 35 Ai:=fR (ss:=xp) rfl (eJ ⟨⟨SB,rfl⟩,trivial⟩)
def Sn :ph Ph ext 31 Ai:=fY (ss:=xp) rfl (eJ ⟨Si,trivial⟩)
def Re :oC Ph ext 39 Ai:=fQ (ss:=xp) rfl (eJ ⟨P4,trivial⟩)
def aag :oD Ph ext 7 Gd:=fR (ss:=Es) rfl (eJ ⟨⟨SD,fun _=>rfl⟩,⟨SH,nofun⟩,trivial⟩)
def W7 :ph Ph ext 5 Gd:=fY (ss:=Es) rfl (eJ ⟨Sk,Sn,trivial⟩)
def V9 :oC Ph ext 9 Gd:=fQ (ss:=Es) rfl (eJ ⟨P8,Re,trivial⟩)
def SE :oD Ph ext 73 Ag:=fR (ss:=xm) rfl (eJ ⟨rfl,rfl,trivial⟩)
def Sl :ph Ph ext 70 Ag:=fY (ss:=xm) rfl (eJ ⟨rfl,rfl,trivial⟩)
def P9 :oC Ph ext 76 Ag:=fQ (ss:=xm) rfl (eJ ⟨rfl,rfl,trivial⟩)
def O4 :oR Ph ext 42 oN:=lL rfl rfl rfl rfl (by decide) (by decide) SE (fun _=>rfl)
def OI :oQ Ph ext 40 oN:=nL rfl rfl Sl
def Nz :oP Ph ext 44 oN:=lG rfl rfl P9
def Ue :oD Ph ext 93 Ee:=fR (ss:=Au) rfl (eJ ⟨rfl,rfl,rfl,rfl,trivial⟩)
def T2 :ph Ph ext 92 Ee:=fY (ss:=Au) rfl (eJ ⟨rfl,rfl,rfl,rfl,trivial⟩)
def Tk :oC Ph ext 94 Ee:=fQ (ss:=Au) rfl (eJ ⟨rfl,rfl,rfl,rfl,trivial⟩)
def SC :oR Ph ext 74 pA:=lL rfl rfl rfl rfl (by decide) (by decide) Ue (fun _=>rfl)
def Sj :oQ Ph ext 71 pA:=nL rfl rfl T2
def P7 :oP Ph ext 77 pA:=lG rfl rfl Tk
def aaf :oR Ph ext 75 vO:=OZ rfl rfl rfl (by decide)
def W6 :oQ Ph ext 72 vO:=Ik rfl rfl
def V8 :oP Ph ext 78 vO:=Ny rfl rfl
def O5 :oD Ph ext 43 xM:=fR (ss:=uw) rfl (eJ ⟨⟨SC,rfl⟩,rfl,⟨aaf,rfl⟩,rfl,rfl,rfl,trivial⟩)
def OJ :ph Ph ext 41 xM:=fY (ss:=uw) rfl (eJ ⟨Sj,rfl,W6,rfl,rfl,rfl,trivial⟩)
def NA :oC Ph ext 45 xM:=fQ (ss:=uw) rfl (eJ ⟨P7,rfl,V8,rfl,rfl,rfl,trivial⟩)
def aak :oD Ph ext 12 KL:=fR (ss:=Eu) rfl (eJ ⟨rfl,rfl,rfl,rfl,⟨O4,rfl⟩,⟨O5,nofun⟩,trivial⟩)
def W9 :ph Ph ext 10 KL:=fY (ss:=Eu) rfl (eJ ⟨rfl,rfl,rfl,rfl,OI,OJ,trivial⟩)
def Wd :oC Ph ext 14 KL:=fQ (ss:=Eu) rfl (eJ ⟨rfl,rfl,rfl,rfl,Nz,NA,trivial⟩)
def Uf :oR Ph ext 53 pP:=lL rfl rfl rfl rfl (by decide) (by decide) aag nofun
def T3 :oQ Ph ext 52 pP:=nL rfl rfl W7
def Tl :oP Ph ext 55 pP:=lG rfl rfl V9
def OT :oD Ph ext 80 AP:=fR (ss:=Ar) rfl (eJ ⟨rfl,rfl,trivial⟩)
def Nu :oC Ph ext 82 AP:=fQ (ss:=Ar) rfl (eJ ⟨rfl,rfl,trivial⟩)
def L8 :oR Ph ext 48 mQ:=lL rfl rfl rfl rfl (by decide) (by decide) OT (fun _=>rfl)
def L2 :oQ Ph ext 46 mQ:=Ik rfl rfl
def Lg :oP Ph ext 50 mQ:=lG rfl rfl Nu
def Ul :oD Ph ext 81 AQ:=fR (ss:=Ax) rfl (eJ ⟨rfl,rfl,⟨SD,fun _=>rfl⟩,rfl,rfl,trivial⟩)
def Ua :ph Ph ext 79 AQ:=fY (ss:=Ax) rfl (eJ ⟨rfl,rfl,Sk,rfl,rfl,trivial⟩)
def Tq :oC Ph ext 83 AQ:=fQ (ss:=Ax) rfl (eJ ⟨rfl,rfl,P8,rfl,rfl,trivial⟩)
def GR :oR Ph ext 49 lm:=lL rfl rfl rfl rfl (by decide) (by decide) Ul (fun _=>rfl)
def GP :oQ Ph ext 47 lm:=nL rfl rfl Ua
def Gr :oP Ph ext 51 lm:=lG rfl rfl Tq
def CJ :oD Ph ext 22 yA:=fR (ss:=Av) rfl (eJ ⟨rfl,⟨Uf,rfl⟩,rfl,trivial⟩)
def CH :ph Ph ext 20 yA:=fY (ss:=Av) rfl (eJ ⟨rfl,T3,rfl,trivial⟩)
def BO :oC Ph ext 24 yA:=fQ (ss:=Av) rfl (eJ ⟨rfl,Tl,rfl,trivial⟩)
def SI :oD Ph ext 17 Aj:=fR (ss:=xq) rfl (eJ ⟨⟨CJ,nofun⟩,⟨L8,rfl⟩,⟨GR,rfl⟩,trivial⟩)
def So :ph Ph ext 15 Aj:=fY (ss:=xq) rfl (eJ ⟨CH,L2,GP,trivial⟩)
def Rf :oC Ph ext 19 Aj:=fQ (ss:=xq) rfl (eJ ⟨BO,Lg,Gr,trivial⟩)
def SJ :oR Ph ext 60 ou:=lL rfl rfl rfl rfl (by decide) (by decide) CJ nofun
def Sp :oQ Ph ext 57 ou:=nL rfl rfl CH
def Rg :oP Ph ext 63 ou:=lG rfl rfl BO
def KV :oR Ph ext 255 nM:=OZ rfl rfl rfl (by decide)
def Kz :oQ Ph ext 251 nM:=Ik rfl rfl
def IQ :oP Ph ext 259 nM:=Ny rfl rfl
def Mc :oD Ph ext 281 vP:=fR (ss:=sw) rfl (eJ ⟨rfl,rfl,rfl,⟨KV,rfl⟩,rfl,trivial⟩)
def L7 :ph Ph ext 280 vP:=fY (ss:=sw) rfl (eJ ⟨rfl,rfl,rfl,Kz,rfl,trivial⟩)
def Ll :oC Ph ext 282 vP:=fQ (ss:=sw) rfl (eJ ⟨rfl,rfl,rfl,IQ,rfl,trivial⟩)
def SA :oD Ph ext 278 Af:=fR (ss:=xl) rfl (eJ ⟨rfl,rfl,⟨Mc,nofun⟩,trivial⟩)
def Sg :ph Ph ext 277 Af:=fY (ss:=xl) rfl (eJ ⟨rfl,rfl,L7,trivial⟩)
def P3 :oC Ph ext 279 Af:=fQ (ss:=xl) rfl (eJ ⟨rfl,rfl,Ll,trivial⟩)
def OV :oR Ph ext 273 oM:=lL rfl rfl rfl rfl (by decide) (by decide) SA nofun
def OG :oQ Ph ext 271 oM:=nL rfl rfl Sg
def Nw :oP Ph ext 275 oM:=lG rfl rfl P3
def Uc :oD Ph ext 265 Ec:=fR (ss:=As) rfl (eJ ⟨rfl,⟨OV,rfl⟩,trivial⟩)
def T0 :ph Ph ext 262 Ec:=fY (ss:=As) rfl (eJ ⟨rfl,OG,trivial⟩)
def Ti :oC Ph ext 268 Ec:=fQ (ss:=As) rfl (eJ ⟨rfl,Nw,trivial⟩)
def Sz :oR Ph ext 253 py:=lL rfl rfl rfl rfl (by decide) (by decide) Uc nofun
def Sf :oQ Ph ext 249 py:=nL rfl rfl T0
def P2 :oP Ph ext 257 py:=lG rfl rfl Ti
def Mb :oD Ph ext 274 vN:=fR (ss:=su) rfl (eJ ⟨rfl,rfl,trivial⟩)
def L5 :ph Ph ext 272 vN:=fY (ss:=su) rfl (eJ ⟨rfl,rfl,trivial⟩)
def Lj :oC Ph ext 276 vN:=fQ (ss:=su) rfl (eJ ⟨rfl,rfl,trivial⟩)
def KW :oR Ph ext 266 jH:=lL rfl rfl rfl rfl (by decide) (by decide) Mb (fun _=>rfl)
def KB :oQ Ph ext 263 jH:=nL rfl rfl L5
def IR :oP Ph ext 269 jH:=lG rfl rfl Lj
def Eh :oD Ph ext 231 ot:=fR (ss:=lQ) rfl (eJ ⟨rfl,rfl,rfl,rfl,trivial⟩)
def Ea :ph Ph ext 227 ot:=fY (ss:=lQ) rfl (eJ ⟨rfl,rfl,rfl,rfl,trivial⟩)
def CZ :oC Ph ext 235 ot:=fQ (ss:=lQ) rfl (eJ ⟨rfl,rfl,rfl,rfl,trivial⟩)
def L9 :oD Ph ext 232 vL:=fR (ss:=sk) rfl (eJ ⟨⟨Sz,rfl⟩,trivial⟩)
def L3 :ph Ph ext 228 vL:=fY (ss:=sk) rfl (eJ ⟨Sf,trivial⟩)
def Lh :oC Ph ext 236 vL:=fQ (ss:=sk) rfl (eJ ⟨P2,trivial⟩)
def Ma :oD Ph ext 254 vM:=fR (ss:=so) rfl (eJ ⟨rfl,rfl,⟨SJ,rfl⟩,⟨KW,rfl⟩,trivial⟩)
def L4 :ph Ph ext 250 vM:=fY (ss:=so) rfl (eJ ⟨rfl,rfl,Sp,KB,trivial⟩)
def Li :oC Ph ext 258 vM:=fQ (ss:=so) rfl (eJ ⟨rfl,rfl,Rg,IR,trivial⟩)
def aae :oD Ph ext 233 KJ:=fR (ss:=Er) rfl (eJ ⟨⟨Ma,nofun⟩,⟨KV,rfl⟩,rfl,trivial⟩)
def W5 :ph Ph ext 229 KJ:=fY (ss:=Er) rfl (eJ ⟨L4,Kz,rfl,trivial⟩)
def V6 :oC Ph ext 237 KJ:=fQ (ss:=Er) rfl (eJ ⟨Li,IQ,rfl,trivial⟩)
def SG :oD Ph ext 267 Ah:=fR (ss:=xn) rfl (eJ ⟨rfl,rfl,⟨GR,rfl⟩,trivial⟩)
def Sm :ph Ph ext 264 Ah:=fY (ss:=xn) rfl (eJ ⟨rfl,rfl,GP,trivial⟩)
def Rc :oC Ph ext 270 Ah:=fQ (ss:=xn) rfl (eJ ⟨rfl,rfl,Gr,trivial⟩)
def aam :oD Ph ext 256 KO:=fR (ss:=Ew) rfl (eJ ⟨⟨SG,nofun⟩,rfl,rfl,trivial⟩)
def aab :ph Ph ext 252 KO:=fY (ss:=Ew) rfl (eJ ⟨Sm,rfl,rfl,trivial⟩)
def Wf :oC Ph ext 260 KO:=fQ (ss:=Ew) rfl (eJ ⟨Rc,rfl,rfl,trivial⟩)
def O6 :oD Ph ext 234 qq:=fR (ss:=uy) rfl (eJ ⟨⟨CJ,nofun⟩,rfl,⟨aam,nofun⟩,trivial⟩)
def OK :ph Ph ext 230 qq:=fY (ss:=uy) rfl (eJ ⟨CH,rfl,aab,trivial⟩)
def NB :oC Ph ext 238 qq:=fQ (ss:=uy) rfl (eJ ⟨BO,rfl,Wf,trivial⟩)
def Sy :oD Ph ext 201 Ae:=fR (ss:=xk) rfl (eJ ⟨rfl,rfl,⟨Eh,fun _=>rfl⟩,⟨L9,nofun⟩,⟨aae,nofun⟩,⟨O6,nofun⟩,rfl,rfl,trivial⟩)
def Se :ph Ph ext 198 Ae:=fY (ss:=xk) rfl (eJ ⟨rfl,rfl,Ea,L3,W5,OK,rfl,rfl,trivial⟩)
def P1 :oC Ph ext 205 Ae:=fQ (ss:=xk) rfl (eJ ⟨rfl,rfl,CZ,Lh,V6,NB,rfl,rfl,trivial⟩)
def OU :oR Ph ext 167 eR:=lL rfl rfl rfl rfl (by decide) (by decide) Sy nofun
def OE :oQ Ph ext 163 eR:=nL rfl rfl Se
def Nv :oP Ph ext 171 eR:=lG rfl rfl P1
def Ui :oR Ph ext 134 nN:=lL rfl rfl rfl rfl (by decide) (by decide) aak nofun
def T6 :oQ Ph ext 128 nN:=nL rfl rfl W9
def To :oP Ph ext 140 nN:=lG rfl rfl Wd
def aah :oD Ph ext 202 KK:=fR (ss:=Et) rfl (eJ ⟨rfl,rfl,rfl,rfl,trivial⟩)
def W8 :ph Ph ext 199 KK:=fY (ss:=Et) rfl (eJ ⟨rfl,rfl,rfl,rfl,trivial⟩)
def Wa :oC Ph ext 206 KK:=fQ (ss:=Et) rfl (eJ ⟨rfl,rfl,rfl,rfl,trivial⟩)
def Ug :oR Ph ext 168 mR:=lL rfl rfl rfl rfl (by decide) (by decide) aah (fun _=>rfl)
def T4 :oQ Ph ext 164 mR:=nL rfl rfl W8
def Tm :oP Ph ext 172 mR:=lG rfl rfl Wa
def aai :oD Ph ext 203 OR:=fR (ss:=No) rfl (eJ ⟨rfl,rfl,rfl,trivial⟩)
def Wb :oC Ph ext 207 OR:=fQ (ss:=No) rfl (eJ ⟨rfl,rfl,rfl,trivial⟩)
def Uh :oR Ph ext 169 mS:=lL rfl rfl rfl rfl (by decide) (by decide) aai (fun _=>rfl)
def T5 :oQ Ph ext 165 mS:=Ik rfl rfl
def Tn :oP Ph ext 173 mS:=lG rfl rfl Wb
def O9 :oR Ph ext 204 mo:=OZ rfl rfl rfl (by decide)
def OP :oQ Ph ext 200 mo:=fun _ h _ a b=>OO (dM h).1 (agc h) a b
def NE :oP Ph ext 208 mo:=Ny rfl rfl
def aal :oD Ph ext 170 KN:=fR (ss:=Ev) rfl (eJ ⟨rfl,rfl,⟨O9,rfl⟩,rfl,trivial⟩)
def aaa :ph Ph ext 166 KN:=fY (ss:=Ev) rfl (eJ ⟨rfl,rfl,OP,rfl,trivial⟩)
def We :oC Ph ext 174 KN:=fQ (ss:=Ev) rfl (eJ ⟨rfl,rfl,NE,rfl,trivial⟩)
def Uj :oR Ph ext 137 nO:=lL rfl rfl rfl rfl (by decide) (by decide) aal nofun
def T7 :oQ Ph ext 131 nO:=nL rfl rfl aaa
def Tp :oP Ph ext 143 nO:=lG rfl rfl We
def O7 :oR Ph ext 138 fL:=lL rfl rfl rfl rfl (by decide) (by decide) SI nofun
def OM :oQ Ph ext 132 fL:=nL rfl rfl So
def NC :oP Ph ext 144 fL:=lG rfl rfl Rf
def O8 :oD Ph ext 133 kS:=fR (ss:=uz) rfl (eJ ⟨⟨OU,rfl⟩,trivial⟩)
def ON :ph Ph ext 127 kS:=fY (ss:=uz) rfl (eJ ⟨OE,trivial⟩)
def ND :oC Ph ext 139 kS:=fQ (ss:=uz) rfl (eJ ⟨Nv,trivial⟩)
def KX :oD Ph ext 135 jd:=fR (ss:=qm) rfl (eJ ⟨⟨Ug,rfl⟩,trivial⟩)
def KE :ph Ph ext 129 jd:=fY (ss:=qm) rfl (eJ ⟨T4,trivial⟩)
def IS :oC Ph ext 141 jd:=fQ (ss:=qm) rfl (eJ ⟨Tm,trivial⟩)
def OX :oD Ph ext 136 kR:=fR (ss:=uu) rfl (eJ ⟨⟨Uh,rfl⟩,trivial⟩)
def OH :ph Ph ext 130 kR:=fY (ss:=uu) rfl (eJ ⟨T5,trivial⟩)
def Nx :oC Ph ext 142 kR:=fQ (ss:=uu) rfl (eJ ⟨Tn,trivial⟩)
def Uk :oD Ph ext 106 jh:=fR (ss:=Aw) rfl (eJ ⟨rfl,rfl,rfl,⟨O8,nofun⟩,⟨Ui,rfl⟩,rfl,⟨KX,nofun⟩,⟨OX,nofun⟩,⟨Uj,rfl⟩,⟨O7,rfl⟩,trivial⟩)
def T9 :ph Ph ext 104 jh:=fY (ss:=Aw) rfl (eJ ⟨rfl,rfl,rfl,ON,T6,rfl,KE,OH,T7,OM,trivial⟩)
def IT :oC Ph ext 108 jh:=fQ (ss:=Aw) rfl (eJ ⟨rfl,rfl,rfl,ND,To,rfl,IS,Nx,Tp,NC,trivial⟩)
def dJ :GT Ph ext cI 432:=aeG rfl
def HH :uE Ph ext cI 448 mQ:=iS dJ rfl rfl ⟨rfl,⟨rfl,trivial⟩⟩
def DR :uE Ph ext cI 474 nM:=iS dJ rfl rfl ⟨rfl,trivial⟩
def J1 :uE Ph ext cI 485 oM:=iS dJ rfl rfl ⟨rfl,⟨rfl,⟨rfl,⟨rfl,⟨rfl,⟨rfl,DR,⟨rfl,trivial⟩⟩⟩⟩⟩⟩⟩
def LS :uE Ph ext cI 471 py:=iS dJ rfl rfl ⟨rfl,⟨rfl,J1,trivial⟩⟩
def LU :uE Ph ext cI 475 pz:=iS dJ rfl rfl ⟨rfl,⟨rfl,trivial⟩⟩
def yq :uE Ph ext cI 447 pP:=iS dJ rfl rfl ⟨rfl,⟨rfl,⟨rfl,⟨rfl,LU,trivial⟩⟩⟩⟩
def LW :uE Ph ext cI 472 ou:=iS dJ rfl rfl ⟨rfl,⟨rfl,yq,⟨rfl,trivial⟩⟩⟩
def FM :uE Ph ext cI 473 jH:=iS dJ rfl rfl ⟨rfl,⟨rfl,trivial⟩⟩
def By :uE Ph ext cI 449 lm:=iS dJ rfl rfl ⟨rfl,⟨rfl,⟨rfl,⟨rfl,⟨rfl,⟨rfl,⟨rfl,trivial⟩⟩⟩⟩⟩⟩⟩
def zL :uE Ph ext cI 441 eR:=iS dJ rfl rfl ⟨rfl,⟨rfl,⟨rfl,⟨rfl,⟨rfl,⟨rfl,⟨rfl,LS,⟨rfl,⟨rfl,⟨rfl,LW,⟨rfl,FM,⟨rfl,DR,⟨rfl,⟨rfl,⟨rfl,yq,⟨rfl,⟨rfl,⟨rfl,⟨rfl,⟨rfl,By,⟨rfl,⟨rfl,⟨rfl,⟨rfl,trivial⟩⟩⟩⟩⟩⟩⟩⟩⟩⟩⟩⟩⟩⟩⟩⟩⟩⟩⟩⟩⟩⟩⟩⟩
def N9 :uE Ph ext cI 446 mS:=iS dJ rfl rfl ⟨rfl,⟨rfl,⟨rfl,trivial⟩⟩⟩
def zM :VA Ph ext cI 429 kR:=DS (ss:=[.l mS 446]) rfl rfl ⟨N9,trivial⟩
def LV :uE Ph ext cI 443 pA:=iS dJ rfl rfl ⟨rfl,⟨rfl,⟨rfl,⟨rfl,trivial⟩⟩⟩⟩
def RA :uE Ph ext cI 444 vO:=iS dJ rfl rfl ⟨rfl,trivial⟩
def J2 :uE Ph ext cI 442 oN:=iS dJ rfl rfl ⟨rfl,⟨rfl,trivial⟩⟩
def N8 :uE Ph ext cI 445 mR:=iS dJ rfl rfl ⟨rfl,⟨rfl,⟨rfl,⟨rfl,trivial⟩⟩⟩⟩
def xB :VA Ph ext cI 428 jd:=DS (ss:=[.l mR 445]) rfl rfl ⟨N8,trivial⟩
def DT :uE Ph ext cI 427 nN:=iS dJ rfl rfl ⟨rfl,⟨rfl,⟨rfl,⟨rfl,⟨rfl,J2,⟨rfl,LV,⟨rfl,⟨rfl,RA,⟨rfl,⟨rfl,⟨rfl,trivial⟩⟩⟩⟩⟩⟩⟩⟩⟩⟩⟩
def vC :uE Ph ext cI 431 fL:=iS dJ rfl rfl ⟨rfl,⟨rfl,yq,⟨rfl,⟨rfl,HH,⟨rfl,By,trivial⟩⟩⟩⟩⟩
def J3 :uE Ph ext cI 421 mo:=iS dJ rfl rfl ⟨rfl,trivial⟩
def yr :uE Ph ext cI 430 nO:=iS dJ rfl rfl ⟨rfl,⟨rfl,⟨rfl,J3,⟨rfl,trivial⟩⟩⟩⟩
def zN :VA Ph ext cI 426 kS:=DS (ss:=[.l eR 441]) rfl rfl ⟨zL,trivial⟩
def Oa :VA Ph ext cI 420 jh:=DS (ss:=[.k [.int .i64, .bool, .int .i64], .s kS 426, .l nN 427, .k [.int .i64], .s jd 428, .s kR 429, .l nO 430, .l fL 431]) rfl rfl ⟨rfl,⟨zN,⟨DT,⟨rfl,⟨xB,⟨zM,⟨yr,⟨vC,trivial⟩⟩⟩⟩⟩⟩⟩⟩
def Hy :ko Ph ext cI 469 mQ:=iQ dJ rfl ⟨rfl,⟨rfl,trivial⟩⟩
def Dz :ko Ph ext cI 483 nM:=iQ dJ rfl ⟨rfl,trivial⟩
def JH :ko Ph ext cI 494 oM:=iQ dJ rfl ⟨rfl,⟨rfl,⟨rfl,⟨rfl,⟨rfl,⟨rfl,Dz,⟨rfl,trivial⟩⟩⟩⟩⟩⟩⟩
def LN :ko Ph ext cI 480 py:=iQ dJ rfl ⟨rfl,⟨rfl,JH,trivial⟩⟩
def LO :ko Ph ext cI 484 pz:=iQ dJ rfl ⟨rfl,⟨rfl,trivial⟩⟩
def yf :ko Ph ext cI 468 pP:=iQ dJ rfl ⟨rfl,⟨rfl,⟨rfl,⟨rfl,LO,trivial⟩⟩⟩⟩
def LQ :ko Ph ext cI 481 ou:=iQ dJ rfl ⟨rfl,⟨rfl,yf,⟨rfl,trivial⟩⟩⟩
def Fv :ko Ph ext cI 482 jH:=iQ dJ rfl ⟨rfl,⟨rfl,trivial⟩⟩
def Bv :ko Ph ext cI 470 lm:=iQ dJ rfl ⟨rfl,⟨rfl,⟨rfl,⟨rfl,⟨rfl,⟨rfl,⟨rfl,trivial⟩⟩⟩⟩⟩⟩⟩
def JG :ko Ph ext cI 462 eR:=iQ dJ rfl ⟨rfl,⟨rfl,⟨rfl,⟨rfl,⟨rfl,⟨rfl,⟨rfl,LN,⟨rfl,⟨rfl,⟨rfl,LQ,⟨rfl,Fv,⟨rfl,Dz,⟨rfl,⟨rfl,⟨rfl,yf,⟨rfl,⟨rfl,⟨rfl,⟨rfl,⟨rfl,Bv,⟨rfl,⟨rfl,⟨rfl,⟨rfl,trivial⟩⟩⟩⟩⟩⟩⟩⟩⟩⟩⟩⟩⟩⟩⟩⟩⟩⟩⟩⟩⟩⟩⟩⟩
def NT :ko Ph ext cI 467 mS:=iQ dJ rfl ⟨rfl,⟨rfl,⟨rfl,trivial⟩⟩⟩
def JI :Vz Ph ext cI 438 kR:=DB (ss:=[.l mS 467]) rfl ⟨NT,trivial⟩
def LP :ko Ph ext cI 464 pA:=iQ dJ rfl ⟨rfl,⟨rfl,⟨rfl,⟨rfl,trivial⟩⟩⟩⟩
def Ro :ko Ph ext cI 465 vO:=iQ dJ rfl ⟨rfl,trivial⟩
def JJ :ko Ph ext cI 463 oN:=iQ dJ rfl ⟨rfl,⟨rfl,trivial⟩⟩
def NS :ko Ph ext cI 466 mR:=iQ dJ rfl ⟨rfl,⟨rfl,⟨rfl,⟨rfl,trivial⟩⟩⟩⟩
def Fw :Vz Ph ext cI 437 jd:=DB (ss:=[.l mR 466]) rfl ⟨NS,trivial⟩
def NU :ko Ph ext cI 436 nN:=iQ dJ rfl ⟨rfl,⟨rfl,⟨rfl,⟨rfl,⟨rfl,JJ,⟨rfl,LP,⟨rfl,⟨rfl,Ro,⟨rfl,⟨rfl,⟨rfl,trivial⟩⟩⟩⟩⟩⟩⟩⟩⟩⟩⟩
def JK :ko Ph ext cI 440 fL:=iQ dJ rfl ⟨rfl,⟨rfl,yf,⟨rfl,⟨rfl,Hy,⟨rfl,Bv,trivial⟩⟩⟩⟩⟩
def JM :ko Ph ext cI 422 mo:=iQ dJ rfl ⟨rfl,trivial⟩
def NV :ko Ph ext cI 439 nO:=iQ dJ rfl ⟨rfl,⟨rfl,⟨rfl,JM,⟨rfl,trivial⟩⟩⟩⟩
def JL :Vz Ph ext cI 435 kS:=DB (ss:=[.l eR 462]) rfl ⟨JG,trivial⟩
def NW :Vz Ph ext cI 425 jh:=DB (ss:=[.k [.int .i64, .bool, .int .i64], .s kS 435, .l nN 436, .k [.int .i64], .s jd 437, .s kR 438, .l nO 439, .l fL 440]) rfl ⟨rfl,⟨JL,⟨NU,⟨rfl,⟨Fw,⟨JI,⟨NV,⟨JK,trivial⟩⟩⟩⟩⟩⟩⟩⟩
end
end Gi
