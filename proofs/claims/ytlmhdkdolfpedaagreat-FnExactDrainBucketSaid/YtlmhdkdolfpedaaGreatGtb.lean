/- Of this proof. -/
import Derived.Test.YtlmhdkdolfpedaaGreatGta
set_option linter.all false
namespace Gi
open Go Go.RowKit
attribute [local simp] start iI cD cj cS dy dX eX Opd.ev put V.cells plain dM iZ isInt isStr isBool bin ff un asList L.view cy V.view viewL done dd cu eY ee comp cV dS cz V.flat L.flat fb ft dK putAt thaw thawL freezeVs freezeLs freezeL V.mut L.mut cN cT
def Fo {f g:St->Option (Ex×St)}(h:g=f)(Z:St):cR f Z=(match g Z with
 |some (.normal,Z')=>cR f Z'
 |r=>r):=by rw[h];exact zo f Z
def abw :gT []=0:=by simp only[gT]
def Au (p:PV)(ps:List PV):gT (p::ps)=sz p+gT ps:=by simp only[gT]
def io (s:List UInt8):sz (.str s)=s.length:=by simp only[sz]
def uc :∀(l m:List PV),gT (l++m)=gT l+gT m
 |[],m=>by rw[Zj,abw,ZJ]
 |p::l,m=>by rw[Zh,Au,Au,uc l m,Nat.add_assoc]
def eH :∀{l:List PV}{i:Nat}{p:PV},l[i]? =some p->sz p<=gT l
 |[],_,_,h=>by simp at h
 |q::l,0,p,h=>by simp at h;subst h;rw[Au];exact ZU _ _
 |q::l,i+1,p,h=>by rw[Au];exact Zc (eH (l:=l) (i:=i) (by simpa using h)) (Nat.le_add_left _ _)
def W7 (x:Option (Ex×St))(Q:Ex->St->Prop):Prop:=
 match x with
 |some (e,Z)=>Q e Z
 |none=>False
def W7.get {x:Option (Ex×St)}{Q:Ex->St->Prop}(h:W7 x Q):∃e Z,x=some (e,Z)/\ Q e Z:=by unfold W7 at h;split at h;exact⟨_,_,rfl,h⟩;exact h.elim
def LU {e:Ex}{Z:St}{Q:Ex->St->Prop}:W7 (some (e,Z)) Q=Q e Z:=rfl
section
variable {ext:Nat->List V->Option V}
def TM {rows:List (List PV)}(hl:rows.length<=maxLen)(hr:∀r∈rows,∃s:List UInt8,r=[.str s]/\ s.length<=maxLen):∀(m k:Nat)(i:Int),i=k->k+m=rows.length->∀(left:Int),0<=left->left<=1048576->∀(x2 x3 x4 x6 x7 x8 x9 a2 a5 a6 a7 a8 aa ab ad ae af ag ah ai aj ak al an ao:V)(h:List Q0),
 W7 (cR (cD (cf Ph ext) cR ib) ⟨(eQ rows::ce .i64 left::x2::x3::x4::ce .i64 i::x6::x7::x8::x9::a2::a5::a6::a7::a8::aa::ab::ad::ae::af::ag::ah::ai::aj::ak::al::an::ao::[]),h⟩) fun e Z'=>Z'.h=h/\ Z'.t.length=28/\ ((e= .exit 0/\ 0<=less left (dP (rows.drop k))/\ Z'.t[1]? =some (ce .i64 (less left (dP (rows.drop k))))) \/(e= .ret/\ less left (dP (rows.drop k))= -1/\ Z'.t[4]? =some (ce .i64 (-1)))):=by
 generalize hF:cD (cf Ph ext) cR ib=F;intro m;induction m with
 |zero=>
  intro k i hi hk left h0 h1 x2 x3 x4 x6 x7 x8 x9 a2 a5 a6 a7 a8 aa ab ad ae af ag ah ai aj ak al an ao h;subst hi;have av:k=rows.length:=by omega
  subst av;have aw:less left (dP (rows.drop rows.length))=left:=by simp[dP,less];omega
  rw[aw,Fo hF];simp[ib,mA,h0,LU]
 |succ m ih=>
  intro k i hi hk left h0 h1 x2 x3 x4 x6 x7 x8 x9 a2 a5 a6 a7 a8 aa ab ad ae af ag ah ai aj ak al an ao h;subst hi;have hlt:k<rows.length:=by omega
  have hw:=oe (k:=k) (by unfold maxLen at hl;omega);obtain⟨s,aq,hs⟩:=hr _ (Zf hlt);unfold maxLen at hs;have au:IntKind.i64.wrap (left-(s.length:Int))=left-(s.length:Int):=by rw[IntKind.wrap_i64];omega
  rw[Gs hlt,aq];have ax:gT [PV.str s]=s.length:=by simp[gT,sz]
  rw[ax];by_cases ar:left<(s.length:Int);have e1:less left (s.length+dP (rows.drop (k+1)))= -1:=by unfold less;rw[if_pos (by omega)]
  rw[e1,Fo hF];have hn:left-(s.length:Int)<0:=by omega
  simp[ib,mA,hlt,aq,hw,au,hn,LU];have hn:¬left-(s.length:Int)<0:=by omega
  have key:=ih (k+1) ((k:Int)+1) (by omega) (by omega) (left-s.length) (by omega) (by omega);have e1:less (left-s.length) (dP (rows.drop (k+1)))=less left (s.length+dP (rows.drop (k+1))):=by
   have:left-(s.length:Int)=less left s.length:=by unfold less;rw[if_neg ar]
   rw[this];exact xg (by rw[<-this];omega)
  rw[e1]at key;clear ih;rw[Fo hF];simp[ib,mA,hlt,aq,hw,au,hn];exact key _ _ _ _ _ _ _ _ _ _ _ _ _ _ _ _ _ _ _ _ _ _ _ _ _ _
def Oo {rows:List (List PV)}(hl:rows.length<=maxLen)(hr:∀r∈rows,∃s:List UInt8,r=[.str s]/\ s.length<=maxLen){left:Int}(h0:0<=left)(h1:left<=1048576):cf Ph ext 200 [eQ rows,ce .i64 left]=some (ce .i64 (less left (sz (.lst rows)))):=by
 refine jg rfl ?_;have hw:IntKind.i64.wrap (left-rows.length)=left-rows.length:=by unfold maxLen at hl;rw[IntKind.wrap_i64];omega
 rw[mG];by_cases hn:left<rows.length;have a1:left-(rows.length:Int)<0:=by omega
 have e:less left (rows.length+dP rows)= -1:=by unfold less;rw[if_pos (by omega)]
 rw[e];generalize hF:cD (cf Ph ext) cR ib=F;simp[lN,mA,hF,hw,a1];have a1:¬left-(rows.length:Int)<0:=by omega
 have hle:left-(rows.length:Int)=less left rows.length:=by unfold less;rw[if_neg hn]
 obtain⟨e,⟨t',h'⟩,q1,q2,q5,q3⟩:=(TM (ext:=ext) hl hr rows.length 0 0 rfl (by omega) (left-rows.length) (by omega) (by omega) (.b8 []) (.b8 []) (ce .i64 0) (ce .i64 left) (eQ rows) (ce .i64 rows.length) (ce .i64 (left-rows.length)) (ce .i64 (left-rows.length)) (cK false) (.b8 []) (.b8 []) (.b8 []) (.b8 []) (.b8 []) (.b8 []) (.b8 []) (.b8 []) (.b8 []) (.b8 []) (.b8 []) (.b8 []) (.b8 []) (.b8 []) (.b8 []) (.b8 []) []).get;simp only[List.drop_zero]at q3;have ay:less (left-rows.length) (dP rows)=less left (rows.length+dP rows):=by rw[hle];exact xg (by rw[<-hle];omega)
 rw[ay]at q3;simp at q5;rcases q3 with⟨rfl,_,q4⟩|⟨rfl,q6,q4⟩;obtain⟨_,q7⟩:=Zb.1 q4;simp[lN,mA,hw,a1,q1,q5,q7];obtain⟨_,q7⟩:=Zb.1 q4;simp[lN,mA,hw,a1,q1,q5,q7,q6]
end
end Gi
namespace Gi
open Go Go.RowKit
set_option maxRecDepth 4000
abbrev TyP :PTy->Type
 | .int _=>Int
 | .bool=>Bool
 | .str=>List UInt8
 | .lst _=>List (List PV)
abbrev ac1 :(t:PTy)->TyP t->PV
 | .int k,n=> .int k n
 | .bool,b=> .bool b
 | .str,s=> .str s
 | .lst _,l=> .lst l
abbrev abW :List PTy->Type
 |[]=>Unit
 |t::ts=>TyP t×abW ts
abbrev aeS :(ts:List PTy)->abW ts->List PV
 |[],_=>[]
 |t::ts,(x,y)=>ac1 t x::aeS ts y
def aek :(ts:List PTy)->abW ts->Prop
 |[],_=>True
 |t::ts,(x,y)=>qa t (ac1 t x)/\ aek ts y
def fg :∀{ts:List PTy}{r:List PV},dW ts r->∃x:abW ts,r=aeS ts x/\ aek ts x
 |[],r,h=>⟨(),ja h,trivial⟩
 |t::ts,r,h=>by
  obtain⟨p,q,rfl,g,k⟩:=gY h;obtain⟨y,rfl,l⟩:=fg k;cases t with
  |int=>obtain⟨n,rfl⟩:=qh g;exact⟨(n,y),rfl,g,l⟩
  |bool=>obtain⟨n,rfl⟩:=oZ g;exact⟨(n,y),rfl,g,l⟩
  |str=>obtain⟨n,rfl⟩:=oh g;exact⟨(n,y),rfl,g,l⟩
  |lst=>obtain⟨n,rfl⟩:=sB g;exact⟨(n,y),rfl,g,l⟩
section
variable {ext:Nat->List V->Option V}
def afy {rows:List (List PV)}(h:qa (.lst mc) (.lst rows)):∀r∈rows,∃s:List UInt8,r=[.str s]/\ s.length<=maxLen:=by obtain⟨_,hr⟩:=dJ h;intro r m;obtain⟨⟨c0,_⟩,rfl,g0,_⟩:=fg (hr r m);exact⟨c0,rfl,g0⟩
def TR :ol Ph ext 89 DT:=fQ (ss:=Aa) rfl (eu ⟨rfl,rfl,trivial⟩)
def TE :o7 Ph ext 87 DT:=fX (ss:=Aa) rfl (eu ⟨rfl,rfl,trivial⟩)
def SS :og Ph ext 91 DT:=fP (ss:=Aa) rfl (eu ⟨rfl,rfl,trivial⟩)
def Sa :oJ Ph ext 66 ph:=lD rfl rfl rfl rfl (by decide) (by decide) TR (fun _=>rfl)
def RP :oI Ph ext 64 ph:=nD rfl rfl TE
def PD :oH Ph ext 69 ph:=lw rfl rfl SS
def Sc :ol Ph ext 34 Mp:=fQ (ss:=L2) rfl (eu ⟨rfl,rfl,rfl,trivial⟩)
def RR :o7 Ph ext 30 Mp:=fX (ss:=L2) rfl (eu ⟨rfl,rfl,rfl,trivial⟩)
def PI :og Ph ext 38 Mp:=fP (ss:=L2) rfl (eu ⟨rfl,rfl,rfl,trivial⟩)
def Sf :ol Ph ext 35 zQ:=fQ (ss:=wZ) rfl (eu ⟨⟨Sa,rfl⟩,trivial⟩)
def RV :o7 Ph ext 31 zQ:=fX (ss:=wZ) rfl (eu ⟨RP,trivial⟩)
def PO :og Ph ext 39 zQ:=fP (ss:=wZ) rfl (eu ⟨PD,trivial⟩)
def WE :ol Ph ext 7 FL:=fQ (ss:=D8) rfl (eu ⟨⟨Sc,fun _=>rfl⟩,⟨Sf,nofun⟩,trivial⟩)
def Wu :o7 Ph ext 5 FL:=fX (ss:=D8) rfl (eu ⟨RR,RV,trivial⟩)
def VE :og Ph ext 9 FL:=fP (ss:=D8) rfl (eu ⟨PI,PO,trivial⟩)
def Sd :ol Ph ext 73 zO:=fQ (ss:=wX) rfl (eu ⟨rfl,rfl,trivial⟩)
def RS :o7 Ph ext 70 zO:=fX (ss:=wX) rfl (eu ⟨rfl,rfl,trivial⟩)
def PK :og Ph ext 76 zO:=fP (ss:=wX) rfl (eu ⟨rfl,rfl,trivial⟩)
def OB :oJ Ph ext 42 oF:=lD rfl rfl rfl rfl (by decide) (by decide) Sd (fun _=>rfl)
def Oh :oI Ph ext 40 oF:=nD rfl rfl RS
def Nf :oH Ph ext 44 oF:=lw rfl rfl PK
def TS :ol Ph ext 93 DU:=fQ (ss:=Ab) rfl (eu ⟨rfl,rfl,rfl,rfl,trivial⟩)
def TF :o7 Ph ext 92 DU:=fX (ss:=Ab) rfl (eu ⟨rfl,rfl,rfl,rfl,trivial⟩)
def SU :og Ph ext 94 DU:=fP (ss:=Ab) rfl (eu ⟨rfl,rfl,rfl,rfl,trivial⟩)
def Sb :oJ Ph ext 74 pj:=lD rfl rfl rfl rfl (by decide) (by decide) TS (fun _=>rfl)
def RQ :oI Ph ext 71 pj:=nD rfl rfl TF
def PH :oH Ph ext 77 pj:=lw rfl rfl SU
def WC :oJ Ph ext 75 vA:=OA rfl rfl rfl (by decide)
def Wt :oI Ph ext 72 vA:=HW rfl rfl
def VD :oH Ph ext 78 vA:=Nc rfl rfl
def OC :ol Ph ext 43 xt:=fQ (ss:=ue) rfl (eu ⟨⟨Sb,rfl⟩,rfl,⟨WC,rfl⟩,rfl,rfl,rfl,trivial⟩)
def Oi :o7 Ph ext 41 xt:=fX (ss:=ue) rfl (eu ⟨RQ,rfl,Wt,rfl,rfl,rfl,trivial⟩)
def Ng :og Ph ext 45 xt:=fP (ss:=ue) rfl (eu ⟨PH,rfl,VD,rfl,rfl,rfl,trivial⟩)
def WJ :ol Ph ext 12 Kk:=fQ (ss:=Ea) rfl (eu ⟨rfl,rfl,rfl,rfl,⟨OB,rfl⟩,⟨OC,nofun⟩,trivial⟩)
def Ww :o7 Ph ext 10 Kk:=fX (ss:=Ea) rfl (eu ⟨rfl,rfl,rfl,rfl,Oh,Oi,trivial⟩)
def VI :og Ph ext 14 Kk:=fP (ss:=Ea) rfl (eu ⟨rfl,rfl,rfl,rfl,Nf,Ng,trivial⟩)
def TT :oJ Ph ext 53 pF:=lD rfl rfl rfl rfl (by decide) (by decide) WE nofun
def TG :oI Ph ext 52 pF:=nD rfl rfl Wu
def SV :oH Ph ext 55 pF:=lw rfl rfl VE
def Ov :ol Ph ext 80 Av:=fQ (ss:=zY) rfl (eu ⟨rfl,rfl,trivial⟩)
def M8 :og Ph ext 82 Av:=fP (ss:=zY) rfl (eu ⟨rfl,rfl,trivial⟩)
def LJ :oJ Ph ext 48 mH:=lD rfl rfl rfl rfl (by decide) (by decide) Ov (fun _=>rfl)
def LC :oI Ph ext 46 mH:=HW rfl rfl
def KQ :oH Ph ext 50 mH:=lw rfl rfl M8
def TZ :ol Ph ext 81 Aw:=fQ (ss:=Ae) rfl (eu ⟨rfl,rfl,⟨Sc,fun _=>rfl⟩,rfl,rfl,trivial⟩)
def TO :o7 Ph ext 79 Aw:=fX (ss:=Ae) rfl (eu ⟨rfl,rfl,RR,rfl,rfl,trivial⟩)
def S1 :og Ph ext 83 Aw:=fP (ss:=Ae) rfl (eu ⟨rfl,rfl,PI,rfl,rfl,trivial⟩)
def Gw :oJ Ph ext 49 kZ:=lD rfl rfl rfl rfl (by decide) (by decide) TZ (fun _=>rfl)
def Gu :oI Ph ext 47 kZ:=nD rfl rfl TO
def FX :oH Ph ext 51 kZ:=lw rfl rfl S1
def Cn :ol Ph ext 22 yg:=fQ (ss:=Ac) rfl (eu ⟨rfl,⟨TT,rfl⟩,rfl,trivial⟩)
def Cm :o7 Ph ext 20 yg:=fX (ss:=Ac) rfl (eu ⟨rfl,TG,rfl,trivial⟩)
def Bv :og Ph ext 24 yg:=fP (ss:=Ac) rfl (eu ⟨rfl,SV,rfl,trivial⟩)
def Sg :ol Ph ext 17 zR:=fQ (ss:=xa) rfl (eu ⟨⟨Cn,nofun⟩,⟨LJ,rfl⟩,⟨Gw,rfl⟩,trivial⟩)
def RX :o7 Ph ext 15 zR:=fX (ss:=xa) rfl (eu ⟨Cm,LC,Gu,trivial⟩)
def PP :og Ph ext 19 zR:=fP (ss:=xa) rfl (eu ⟨Bv,KQ,FX,trivial⟩)
def Si :oJ Ph ext 60 n6:=lD rfl rfl rfl rfl (by decide) (by decide) Cn nofun
def RY :oI Ph ext 57 n6:=nD rfl rfl Cm
def PQ :oH Ph ext 63 n6:=lw rfl rfl Bv
def Ku :oJ Ph ext 255 nE:=OA rfl rfl rfl (by decide)
def Ka :oI Ph ext 251 nE:=HW rfl rfl
def Iu :oH Ph ext 259 nE:=Nc rfl rfl
def LN :ol Ph ext 281 vB:=fQ (ss:=rn) rfl (eu ⟨rfl,rfl,rfl,⟨Ku,rfl⟩,rfl,trivial⟩)
def LI :o7 Ph ext 280 vB:=fX (ss:=rn) rfl (eu ⟨rfl,rfl,rfl,Ka,rfl,trivial⟩)
def KV :og Ph ext 282 vB:=fP (ss:=rn) rfl (eu ⟨rfl,rfl,rfl,Iu,rfl,trivial⟩)
def R9 :ol Ph ext 278 zN:=fQ (ss:=wW) rfl (eu ⟨rfl,rfl,⟨LN,nofun⟩,trivial⟩)
def RO :o7 Ph ext 277 zN:=fX (ss:=wW) rfl (eu ⟨rfl,rfl,LI,trivial⟩)
def PC :og Ph ext 279 zN:=fP (ss:=wW) rfl (eu ⟨rfl,rfl,KV,trivial⟩)
def Ox :oJ Ph ext 273 oE:=lD rfl rfl rfl rfl (by decide) (by decide) R9 nofun
def Of :oI Ph ext 271 oE:=nD rfl rfl RO
def Na :oH Ph ext 275 oE:=lw rfl rfl PC
def TQ :ol Ph ext 265 DS:=fQ (ss:=zZ) rfl (eu ⟨rfl,⟨Ox,rfl⟩,trivial⟩)
def TD :o7 Ph ext 262 DS:=fX (ss:=zZ) rfl (eu ⟨rfl,Of,trivial⟩)
def SQ :og Ph ext 268 DS:=fP (ss:=zZ) rfl (eu ⟨rfl,Na,trivial⟩)
def R8 :oJ Ph ext 253 pg:=lD rfl rfl rfl rfl (by decide) (by decide) TQ nofun
def RN :oI Ph ext 249 pg:=nD rfl rfl TD
def Pz :oH Ph ext 257 pg:=lw rfl rfl SQ
def LM :ol Ph ext 274 vz:=fQ (ss:=rm) rfl (eu ⟨rfl,rfl,trivial⟩)
def LG :o7 Ph ext 272 vz:=fX (ss:=rm) rfl (eu ⟨rfl,rfl,trivial⟩)
def KU :og Ph ext 276 vz:=fP (ss:=rm) rfl (eu ⟨rfl,rfl,trivial⟩)
def Kv :oJ Ph ext 266 jC:=lD rfl rfl rfl rfl (by decide) (by decide) LM (fun _=>rfl)
def Kc :oI Ph ext 263 jC:=nD rfl rfl LG
def Iv :oH Ph ext 269 jC:=lw rfl rfl KU
def DX :ol Ph ext 231 n5:=fQ (ss:=lI) rfl (eu ⟨rfl,rfl,rfl,rfl,trivial⟩)
def DQ :o7 Ph ext 227 n5:=fX (ss:=lI) rfl (eu ⟨rfl,rfl,rfl,rfl,trivial⟩)
def CB :og Ph ext 235 n5:=fP (ss:=lI) rfl (eu ⟨rfl,rfl,rfl,rfl,trivial⟩)
def LK :ol Ph ext 232 vx:=fQ (ss:=rj) rfl (eu ⟨⟨R8,rfl⟩,trivial⟩)
def LD :o7 Ph ext 228 vx:=fX (ss:=rj) rfl (eu ⟨RN,trivial⟩)
def KR :og Ph ext 236 vx:=fP (ss:=rj) rfl (eu ⟨Pz,trivial⟩)
def LL :ol Ph ext 254 vy:=fQ (ss:=rl) rfl (eu ⟨rfl,rfl,⟨Si,rfl⟩,⟨Kv,rfl⟩,trivial⟩)
def LF :o7 Ph ext 250 vy:=fX (ss:=rl) rfl (eu ⟨rfl,rfl,RY,Kc,trivial⟩)
def KT :og Ph ext 258 vy:=fP (ss:=rl) rfl (eu ⟨rfl,rfl,PQ,Iv,trivial⟩)
def WB :ol Ph ext 233 Ki:=fQ (ss:=D7) rfl (eu ⟨⟨LL,nofun⟩,⟨Ku,rfl⟩,rfl,trivial⟩)
def Ws :o7 Ph ext 229 Ki:=fX (ss:=D7) rfl (eu ⟨LF,Ka,rfl,trivial⟩)
def VB :og Ph ext 237 Ki:=fP (ss:=D7) rfl (eu ⟨KT,Iu,rfl,trivial⟩)
def Se :ol Ph ext 267 zP:=fQ (ss:=wY) rfl (eu ⟨rfl,rfl,⟨Gw,rfl⟩,trivial⟩)
def RU :o7 Ph ext 264 zP:=fX (ss:=wY) rfl (eu ⟨rfl,rfl,Gu,trivial⟩)
def PN :og Ph ext 270 zP:=fP (ss:=wY) rfl (eu ⟨rfl,rfl,FX,trivial⟩)
def WM :ol Ph ext 256 Km:=fQ (ss:=Ec) rfl (eu ⟨⟨Se,nofun⟩,rfl,rfl,trivial⟩)
def Wy :o7 Ph ext 252 Km:=fX (ss:=Ec) rfl (eu ⟨RU,rfl,rfl,trivial⟩)
def VK :og Ph ext 260 Km:=fP (ss:=Ec) rfl (eu ⟨PN,rfl,rfl,trivial⟩)
def OD :ol Ph ext 234 qf:=fQ (ss:=uf) rfl (eu ⟨⟨Cn,nofun⟩,rfl,⟨WM,nofun⟩,trivial⟩)
def Oj :o7 Ph ext 230 qf:=fX (ss:=uf) rfl (eu ⟨Cm,rfl,Wy,trivial⟩)
def Nh :og Ph ext 238 qf:=fP (ss:=uf) rfl (eu ⟨Bv,rfl,VK,trivial⟩)
def R7 :ol Ph ext 201 zM:=fQ (ss:=wV) rfl (eu ⟨rfl,rfl,⟨DX,fun _=>rfl⟩,⟨LK,nofun⟩,⟨WB,nofun⟩,⟨OD,nofun⟩,rfl,rfl,trivial⟩)
def RL :o7 Ph ext 198 zM:=fX (ss:=wV) rfl (eu ⟨rfl,rfl,DQ,LD,Ws,Oj,rfl,rfl,trivial⟩)
def Py :og Ph ext 205 zM:=fP (ss:=wV) rfl (eu ⟨rfl,rfl,CB,KR,VB,Nh,rfl,rfl,trivial⟩)
def Ow :oJ Ph ext 167 fF:=lD rfl rfl rfl rfl (by decide) (by decide) R7 nofun
def Od :oI Ph ext 163 fF:=nD rfl rfl RL
def M9 :oH Ph ext 171 fF:=lw rfl rfl Py
def TW :oJ Ph ext 134 nF:=lD rfl rfl rfl rfl (by decide) (by decide) WJ nofun
def TK :oI Ph ext 128 nF:=nD rfl rfl Ww
def SZ :oH Ph ext 140 nF:=lw rfl rfl VI
def WG :ol Ph ext 202 Kj:=fQ (ss:=D9) rfl (eu ⟨rfl,rfl,rfl,rfl,trivial⟩)
def Wv :o7 Ph ext 199 Kj:=fX (ss:=D9) rfl (eu ⟨rfl,rfl,rfl,rfl,trivial⟩)
def VF :og Ph ext 206 Kj:=fP (ss:=D9) rfl (eu ⟨rfl,rfl,rfl,rfl,trivial⟩)
def TU :oJ Ph ext 168 mI:=lD rfl rfl rfl rfl (by decide) (by decide) WG (fun _=>rfl)
def TH :oI Ph ext 164 mI:=nD rfl rfl Wv
def SW :oH Ph ext 172 mI:=lw rfl rfl VF
def WH :ol Ph ext 203 Ou:=fQ (ss:=MZ) rfl (eu ⟨rfl,rfl,rfl,trivial⟩)
def VG :og Ph ext 207 Ou:=fP (ss:=MZ) rfl (eu ⟨rfl,rfl,rfl,trivial⟩)
def TV :oJ Ph ext 169 mJ:=lD rfl rfl rfl rfl (by decide) (by decide) WH (fun _=>rfl)
def TJ :oI Ph ext 165 mJ:=HW rfl rfl
def SY :oH Ph ext 173 mJ:=lw rfl rfl VG
def OG :oJ Ph ext 204 mc:=OA rfl rfl rfl (by decide)
def Oq :oI Ph ext 200 mc:=fun _ h _ a b=>Oo (dJ h).1 (afy h) a b
def Nk :oH Ph ext 208 mc:=Nc rfl rfl
def WL :ol Ph ext 170 Kl:=fQ (ss:=Eb) rfl (eu ⟨rfl,rfl,⟨OG,rfl⟩,rfl,trivial⟩)
def Wx :o7 Ph ext 166 Kl:=fX (ss:=Eb) rfl (eu ⟨rfl,rfl,Oq,rfl,trivial⟩)
def VJ :og Ph ext 174 Kl:=fP (ss:=Eb) rfl (eu ⟨rfl,rfl,Nk,rfl,trivial⟩)
def TX :oJ Ph ext 137 nG:=lD rfl rfl rfl rfl (by decide) (by decide) WL nofun
def TL :oI Ph ext 131 nG:=nD rfl rfl Wx
def S0 :oH Ph ext 143 nG:=lw rfl rfl VJ
def OE :oJ Ph ext 138 ik:=lD rfl rfl rfl rfl (by decide) (by decide) Sg nofun
def Om :oI Ph ext 132 ik:=nD rfl rfl RX
def Ni :oH Ph ext 144 ik:=lw rfl rfl PP
def OF :ol Ph ext 133 kL:=fQ (ss:=uh) rfl (eu ⟨⟨Ow,rfl⟩,trivial⟩)
def On :o7 Ph ext 127 kL:=fX (ss:=uh) rfl (eu ⟨Od,trivial⟩)
def Nj :og Ph ext 139 kL:=fP (ss:=uh) rfl (eu ⟨M9,trivial⟩)
def Kw :ol Ph ext 135 iY:=fQ (ss:=qc) rfl (eu ⟨⟨TU,rfl⟩,trivial⟩)
def Kf :o7 Ph ext 129 iY:=fX (ss:=qc) rfl (eu ⟨TH,trivial⟩)
def Iw :og Ph ext 141 iY:=fP (ss:=qc) rfl (eu ⟨SW,trivial⟩)
def Oy :ol Ph ext 136 kK:=fQ (ss:=ud) rfl (eu ⟨⟨TV,rfl⟩,trivial⟩)
def Og :o7 Ph ext 130 kK:=fX (ss:=ud) rfl (eu ⟨TJ,trivial⟩)
def Nb :og Ph ext 142 kK:=fP (ss:=ud) rfl (eu ⟨SY,trivial⟩)
def TY :ol Ph ext 106 i9:=fQ (ss:=Ad) rfl (eu ⟨rfl,rfl,rfl,⟨OF,nofun⟩,⟨TW,rfl⟩,rfl,⟨Kw,nofun⟩,⟨Oy,nofun⟩,⟨TX,rfl⟩,⟨OE,rfl⟩,trivial⟩)
def TN :o7 Ph ext 104 i9:=fX (ss:=Ad) rfl (eu ⟨rfl,rfl,rfl,On,TK,rfl,Kf,Og,TL,Om,trivial⟩)
def Ix :og Ph ext 108 i9:=fP (ss:=Ad) rfl (eu ⟨rfl,rfl,rfl,Nj,SZ,rfl,Iw,Nb,S0,Ni,trivial⟩)
def dH :Gx Ph ext cH 432:=ad3 rfl
def Hj :uo Ph ext cH 448 mH:=iO dH rfl rfl ⟨rfl,⟨rfl,trivial⟩⟩
def Dx :uo Ph ext cH 474 nE:=iO dH rfl rfl ⟨rfl,trivial⟩
def JE :uo Ph ext cH 485 oE:=iO dH rfl rfl ⟨rfl,⟨rfl,⟨rfl,⟨rfl,⟨rfl,⟨rfl,Dx,⟨rfl,trivial⟩⟩⟩⟩⟩⟩⟩
def Lu :uo Ph ext cH 471 pg:=iO dH rfl rfl ⟨rfl,⟨rfl,JE,trivial⟩⟩
def Lv :uo Ph ext cH 475 ph:=iO dH rfl rfl ⟨rfl,⟨rfl,trivial⟩⟩
def xY :uo Ph ext cH 447 pF:=iO dH rfl rfl ⟨rfl,⟨rfl,⟨rfl,⟨rfl,Lv,trivial⟩⟩⟩⟩
def Lx :uo Ph ext cH 472 n6:=iO dH rfl rfl ⟨rfl,⟨rfl,xY,⟨rfl,trivial⟩⟩⟩
def Fs :uo Ph ext cH 473 jC:=iO dH rfl rfl ⟨rfl,⟨rfl,trivial⟩⟩
def Be :uo Ph ext cH 449 kZ:=iO dH rfl rfl ⟨rfl,⟨rfl,⟨rfl,⟨rfl,⟨rfl,⟨rfl,⟨rfl,trivial⟩⟩⟩⟩⟩⟩⟩
def zp :uo Ph ext cH 441 fF:=iO dH rfl rfl ⟨rfl,⟨rfl,⟨rfl,⟨rfl,⟨rfl,⟨rfl,⟨rfl,Lu,⟨rfl,⟨rfl,⟨rfl,Lx,⟨rfl,Fs,⟨rfl,Dx,⟨rfl,⟨rfl,⟨rfl,xY,⟨rfl,⟨rfl,⟨rfl,⟨rfl,⟨rfl,Be,⟨rfl,⟨rfl,⟨rfl,⟨rfl,trivial⟩⟩⟩⟩⟩⟩⟩⟩⟩⟩⟩⟩⟩⟩⟩⟩⟩⟩⟩⟩⟩⟩⟩⟩
def NL :uo Ph ext cH 446 mJ:=iO dH rfl rfl ⟨rfl,⟨rfl,⟨rfl,trivial⟩⟩⟩
def zq :U7 Ph ext cH 429 kK:=Dy (ss:=[.l mJ 446]) rfl rfl ⟨NL,trivial⟩
def Lw :uo Ph ext cH 443 pj:=iO dH rfl rfl ⟨rfl,⟨rfl,⟨rfl,⟨rfl,trivial⟩⟩⟩⟩
def Rb :uo Ph ext cH 444 vA:=iO dH rfl rfl ⟨rfl,trivial⟩
def JF :uo Ph ext cH 442 oF:=iO dH rfl rfl ⟨rfl,⟨rfl,trivial⟩⟩
def NK :uo Ph ext cH 445 mI:=iO dH rfl rfl ⟨rfl,⟨rfl,⟨rfl,⟨rfl,trivial⟩⟩⟩⟩
def xj :U7 Ph ext cH 428 iY:=Dy (ss:=[.l mI 445]) rfl rfl ⟨NK,trivial⟩
def Dz :uo Ph ext cH 427 nF:=iO dH rfl rfl ⟨rfl,⟨rfl,⟨rfl,⟨rfl,⟨rfl,JF,⟨rfl,Lw,⟨rfl,⟨rfl,Rb,⟨rfl,⟨rfl,⟨rfl,trivial⟩⟩⟩⟩⟩⟩⟩⟩⟩⟩⟩
def vl :uo Ph ext cH 431 ik:=iO dH rfl rfl ⟨rfl,⟨rfl,xY,⟨rfl,⟨rfl,Hj,⟨rfl,Be,trivial⟩⟩⟩⟩⟩
def JG :uo Ph ext cH 421 mc:=iO dH rfl rfl ⟨rfl,trivial⟩
def xZ :uo Ph ext cH 430 nG:=iO dH rfl rfl ⟨rfl,⟨rfl,⟨rfl,JG,⟨rfl,trivial⟩⟩⟩⟩
def zr :U7 Ph ext cH 426 kL:=Dy (ss:=[.l fF 441]) rfl rfl ⟨zp,trivial⟩
def NM :U7 Ph ext cH 420 i9:=Dy (ss:=[.k [.int .i64, .bool, .int .i64], .s kL 426, .l nF 427, .k [.int .i64], .s iY 428, .s kK 429, .l nG 430, .l ik 431]) rfl rfl ⟨rfl,⟨zr,⟨Dz,⟨rfl,⟨xj,⟨zq,⟨xZ,⟨vl,trivial⟩⟩⟩⟩⟩⟩⟩⟩
def Hd :kg Ph ext cH 469 mH:=iL dH rfl ⟨rfl,⟨rfl,trivial⟩⟩
def Dh :kg Ph ext cH 483 nE:=iL dH rfl ⟨rfl,trivial⟩
def Jm :kg Ph ext cH 494 oE:=iL dH rfl ⟨rfl,⟨rfl,⟨rfl,⟨rfl,⟨rfl,⟨rfl,Dh,⟨rfl,trivial⟩⟩⟩⟩⟩⟩⟩
def Lo :kg Ph ext cH 480 pg:=iL dH rfl ⟨rfl,⟨rfl,Jm,trivial⟩⟩
def Lp :kg Ph ext cH 484 ph:=iL dH rfl ⟨rfl,⟨rfl,trivial⟩⟩
def xO :kg Ph ext cH 468 pF:=iL dH rfl ⟨rfl,⟨rfl,⟨rfl,⟨rfl,Lp,trivial⟩⟩⟩⟩
def Lr :kg Ph ext cH 481 n6:=iL dH rfl ⟨rfl,⟨rfl,xO,⟨rfl,trivial⟩⟩⟩
def EZ :kg Ph ext cH 482 jC:=iL dH rfl ⟨rfl,⟨rfl,trivial⟩⟩
def Bb :kg Ph ext cH 470 kZ:=iL dH rfl ⟨rfl,⟨rfl,⟨rfl,⟨rfl,⟨rfl,⟨rfl,⟨rfl,trivial⟩⟩⟩⟩⟩⟩⟩
def Jl :kg Ph ext cH 462 fF:=iL dH rfl ⟨rfl,⟨rfl,⟨rfl,⟨rfl,⟨rfl,⟨rfl,⟨rfl,Lo,⟨rfl,⟨rfl,⟨rfl,Lr,⟨rfl,EZ,⟨rfl,Dh,⟨rfl,⟨rfl,⟨rfl,xO,⟨rfl,⟨rfl,⟨rfl,⟨rfl,⟨rfl,Bb,⟨rfl,⟨rfl,⟨rfl,⟨rfl,trivial⟩⟩⟩⟩⟩⟩⟩⟩⟩⟩⟩⟩⟩⟩⟩⟩⟩⟩⟩⟩⟩⟩⟩⟩
def Nz :kg Ph ext cH 467 mJ:=iL dH rfl ⟨rfl,⟨rfl,⟨rfl,trivial⟩⟩⟩
def Jn :U6 Ph ext cH 438 kK:=Dj (ss:=[.l mJ 467]) rfl ⟨Nz,trivial⟩
def Lq :kg Ph ext cH 464 pj:=iL dH rfl ⟨rfl,⟨rfl,⟨rfl,⟨rfl,trivial⟩⟩⟩⟩
def PZ :kg Ph ext cH 465 vA:=iL dH rfl ⟨rfl,trivial⟩
def Jo :kg Ph ext cH 463 oF:=iL dH rfl ⟨rfl,⟨rfl,trivial⟩⟩
def Ny :kg Ph ext cH 466 mI:=iL dH rfl ⟨rfl,⟨rfl,⟨rfl,⟨rfl,trivial⟩⟩⟩⟩
def E7 :U6 Ph ext cH 437 iY:=Dj (ss:=[.l mI 466]) rfl ⟨Ny,trivial⟩
def NA :kg Ph ext cH 436 nF:=iL dH rfl ⟨rfl,⟨rfl,⟨rfl,⟨rfl,⟨rfl,Jo,⟨rfl,Lq,⟨rfl,⟨rfl,PZ,⟨rfl,⟨rfl,⟨rfl,trivial⟩⟩⟩⟩⟩⟩⟩⟩⟩⟩⟩
def Jp :kg Ph ext cH 440 ik:=iL dH rfl ⟨rfl,⟨rfl,xO,⟨rfl,⟨rfl,Hd,⟨rfl,Bb,trivial⟩⟩⟩⟩⟩
def Jr :kg Ph ext cH 422 mc:=iL dH rfl ⟨rfl,trivial⟩
def NB :kg Ph ext cH 439 nG:=iL dH rfl ⟨rfl,⟨rfl,⟨rfl,Jr,⟨rfl,trivial⟩⟩⟩⟩
def Jq :U6 Ph ext cH 435 kL:=Dj (ss:=[.l fF 462]) rfl ⟨Jl,trivial⟩
def NC :U6 Ph ext cH 425 i9:=Dj (ss:=[.k [.int .i64, .bool, .int .i64], .s kL 435, .l nF 436, .k [.int .i64], .s iY 437, .s kK 438, .l nG 439, .l ik 440]) rfl ⟨rfl,⟨Jq,⟨NA,⟨rfl,⟨E7,⟨Jn,⟨NB,⟨Jp,trivial⟩⟩⟩⟩⟩⟩⟩⟩
end
end Gi
