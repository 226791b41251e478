/- A part. -/
import Derived.Test.YtndiampmpmbfoaaGreatGta
set_option linter.all false
namespace Gi
open Go Go.RowKit
attribute [local simp] start fB ap ah aG bc bG cz Opd.ev put V.cells plain bA gv isInt isStr isBool bin cG un asList L.view al V.view viewL done aZ am cj bS comp aO bJ aj V.flat L.flat da df bD putAt thaw thawL freezeVs freezeLs freezeL V.mut L.mut aJ aY
def Cm {f g:St->Option (Ex×St)}(h:g=f)(Z:St):aF f Z=(match g Z with
 |some (.normal,Z')=>aF f Z'
 |r=>r):=by rw[h];exact vO f Z
def Ug :eN []=0:=by simp only[eN]
def wZ (p:PV)(ps:List PV):eN (p::ps)=sz p+eN ps:=by simp only[eN]
def eX (s:List UInt8):sz (.str s)=s.length:=by simp only[sz]
def AU :∀(l m:List PV),eN (l++m)=eN l+eN m
 |[],m=>by rw[Zi,Ug,ZO]
 |p::l,m=>by rw[Zg,wZ,wZ,AU l m,Zc3]
def bL :∀{l:List PV}{i:Nat}{p:PV},l[i]? =some p->sz p<=eN l
 |[],_,_,h=>by simp at h
 |q::l,0,p,h=>by simp at h;subst h;rw[wZ];exact B' _ _
 |q::l,i+1,p,h=>by rw[wZ];exact Zc (bL (l:=l) (i:=i) (by simpa using h)) (Nat.le_add_left _ _)
def SP (x:Option (Ex×St))(Q:Ex->St->Prop):Prop:=
 match x with
 |some (e,Z)=>Q e Z
 |none=>False
def SP.get {x:Option (Ex×St)}{Q:Ex->St->Prop}(h:SP x Q):∃e Z,x=some (e,Z)/\ Q e Z:=by
 unfold SP at h
 split at h
 ·exact⟨_,_,rfl,h⟩
 ·exact h.elim
def IZ {e:Ex}{Z:St}{Q:Ex->St->Prop}:SP (some (e,Z)) Q=Q e Z:=rfl
section
variable {ext:Nat->List V->Option V}
def Pm {rows:List (List PV)}(hl:rows.length<=maxLen)(hr:∀r∈rows,∃s:List UInt8,r=[.str s]/\ s.length<=maxLen):∀(m k:Nat)(i:Int),i=k->k+m=rows.length->∀(left:Int),0<=left->left<=1048576->∀(x2 x3 x4 x6 x7 x8 x9 a5 a6 a7 a8 ab ad ae af ai ak an ao aq ar au aw ax ay:V)(h:List Y0),
 SP (aF (ap (ag Ph ext) aF eJ) ⟨(bY rows::aa .i64 left::x2::x3::x4::aa .i64 i::x6::x7::x8::x9::a5::a6::a7::a8::ab::ad::ae::af::ai::ak::an::ao::aq::ar::au::aw::ax::ay::[]),h⟩) fun e Z'=>Z'.h=h/\ Z'.t.length=28/\ ((e= .exit 0/\ 0<=less left (bI (rows.drop k))/\ Z'.t[1]? =some (aa .i64 (less left (bI (rows.drop k))))) \/(e= .ret/\ less left (bI (rows.drop k))= -1/\ Z'.t[4]? =some (aa .i64 (-1)))):=by
 generalize hF:ap (ag Ph ext) aF eJ=F
 intro m
 induction m with
 |zero=>
  intro k i hi hk left h0 h1 x2 x3 x4 x6 x7 x8 x9 a5 a6 a7 a8 ab ad ae af ai ak an ao aq ar au aw ax ay h
  subst hi
  have aD:k=rows.length:=by omega
  subst aD
  have aE:less left (bI (rows.drop rows.length))=left:=by simp[bI,less];omega
  rw[aE,Cm hF]
  simp[eJ,jN,h0,IZ]
 |succ m ih=>
  intro k i hi hk left h0 h1 x2 x3 x4 x6 x7 x8 x9 a5 a6 a7 a8 ab ad ae af ai ak an ao aq ar au aw ax ay h
  subst hi
  have a1:k<rows.length:=by omega
  have hw:=lm (k:=k) (by unfold maxLen at hl;omega)
  obtain⟨s,aA,hs⟩:=hr _ (Zf a1)
  unfold maxLen at hs
  have aC:IntKind.i64.wrap (left-(s.length:Int))=left-(s.length:Int):=by rw[IntKind.wrap_i64];omega
  rw[Dq a1,aA]
  have aH:eN [PV.str s]=s.length:=by simp[eN,sz]
  rw[aH]
  by_cases aB:left<(s.length:Int)
  ·have e1:less left (s.length+bI (rows.drop (k+1)))= -1:=by unfold less;rw[if_pos (by omega)]
   rw[e1,Cm hF]
   have hn:left-(s.length:Int)<0:=by omega
   simp[eJ,jN,a1,aA,hw,aC,hn,IZ]
  ·have hn:¬left-(s.length:Int)<0:=by omega
   have key:=ih (k+1) ((k:Int)+1) (by omega) (by omega) (left-s.length) (by omega) (by omega)
   have e1:less (left-s.length) (bI (rows.drop (k+1)))=less left (s.length+bI (rows.drop (k+1))):=by
    have:left-(s.length:Int)=less left s.length:=by unfold less;rw[if_neg aB]
    rw[this];exact tH (by rw[<-this];omega)
   rw[e1]at key
   clear ih
   rw[Cm hF]
   simp[eJ,jN,a1,aA,hw,aC,hn]
   exact key _ _ _ _ _ _ _ _ _ _ _ _ _ _ _ _ _ _ _ _ _ _ _ _ _ _
def Ld {rows:List (List PV)}(hl:rows.length<=maxLen)(hr:∀r∈rows,∃s:List UInt8,r=[.str s]/\ s.length<=maxLen){left:Int}(h0:0<=left)(h1:left<=1048576):ag Ph ext 200 [bY rows,aa .i64 left]=some (aa .i64 (less left (sz (.lst rows)))):=by
 refine fW rfl ?_
 have hw:IntKind.i64.wrap (left-rows.length)=left-rows.length:=by unfold maxLen at hl;rw[IntKind.wrap_i64];omega
 rw[lY]
 by_cases hn:left<rows.length
 ·have a2:left-(rows.length:Int)<0:=by omega
  have e:less left (rows.length+bI rows)= -1:=by unfold less;rw[if_pos (by omega)]
  rw[e]
  generalize hF:ap (ag Ph ext) aF eJ=F
  simp[jl,jN,hF,hw,a2]
 ·have a2:¬left-(rows.length:Int)<0:=by omega
  have hle:left-(rows.length:Int)=less left rows.length:=by unfold less;rw[if_neg hn]
  obtain⟨e,⟨t',h'⟩,q1,q2,q5,q3⟩:=(Pm (ext:=ext) hl hr rows.length 0 0 rfl (by omega) (left-rows.length) (by omega) (by omega) (.b9 []) (.b9 []) (aa .i64 0) (aa .i64 left) (bY rows) (aa .i64 rows.length) (aa .i64 (left-rows.length)) (aa .i64 (left-rows.length)) (az false) (.b9 []) (.b9 []) (.b9 []) (.b9 []) (.b9 []) (.b9 []) (.b9 []) (.b9 []) (.b9 []) (.b9 []) (.b9 []) (.b9 []) (.b9 []) (.b9 []) (.b9 []) (.b9 []) []).get
  simp only[List.drop_zero]at q3
  have aI:less (left-rows.length) (bI rows)=less left (rows.length+bI rows):=by rw[hle];exact tH (by rw[<-hle];omega)
  rw[aI]at q3
  simp at q5
  rcases q3 with⟨rfl,_,q4⟩|⟨rfl,q6,q4⟩
  ·obtain⟨_,q7⟩:=Zb.1 q4
   simp[jl,jN,hw,a2,q1,q5,q7]
  ·obtain⟨_,q7⟩:=Zb.1 q4
   simp[jl,jN,hw,a2,q1,q5,q7,q6]
end
end Gi
namespace Gi
open Go Go.RowKit
set_option maxRecDepth 4000
abbrev Ye :PTy->Type
 | .int _=>Int
 | .bool=>Bool
 | .str=>List UInt8
 | .lst _=>List (List PV)
abbrev VH :(t:PTy)->Ye t->PV
 | .int k,n=> .int k n
 | .bool,b=> .bool b
 | .str,s=> .str s
 | .lst _,l=> .lst l
abbrev UE :List PTy->Type
 |[]=>Unit
 |t::ts=>Ye t×UE ts
abbrev Xx :(ts:List PTy)->UE ts->List PV
 |[],_=>[]
 |t::ts,(x,y)=>VH t x::Xx ts y
def WZ :(ts:List PTy)->UE ts->Prop
 |[],_=>True
 |t::ts,(x,y)=>oq t (VH t x)/\ WZ ts y
def cI :∀{ts:List PTy}{r:List PV},bF ts r->∃x:UE ts,r=Xx ts x/\ WZ ts x
 |[],r,h=>⟨(),fv h,trivial⟩
 |t::ts,r,h=>by
  obtain⟨p,q,rfl,g,k⟩:=ee h
  obtain⟨y,rfl,l⟩:=cI k
  cases t with
  |int=>obtain⟨n,rfl⟩:=mp g;exact⟨(n,y),rfl,g,l⟩
  |bool=>obtain⟨n,rfl⟩:=ma g;exact⟨(n,y),rfl,g,l⟩
  |str=>obtain⟨n,rfl⟩:=lu g;exact⟨(n,y),rfl,g,l⟩
  |lst=>obtain⟨n,rfl⟩:=pg g;exact⟨(n,y),rfl,g,l⟩
section
variable {ext:Nat->List V->Option V}
def Yd {rows:List (List PV)}(h:oq (.lst jz) (.lst rows)):∀r∈rows,∃s:List UInt8,r=[.str s]/\ s.length<=maxLen:=by
 obtain⟨_,hr⟩:=bi h
 intro r m
 obtain⟨⟨c0,_⟩,rfl,g0,_⟩:=cI (hr r m)
 exact⟨c0,rfl,g0⟩
def Ps :lw Ph ext 89 AY:=cZ (ss:=wD) rfl (bK ⟨rfl,rfl,trivial⟩)
def Pd :mb Ph ext 87 AY:=du (ss:=wD) rfl (bK ⟨rfl,rfl,trivial⟩)
def Ou :lq Ph ext 91 AY:=cY (ss:=wD) rfl (bK ⟨rfl,rfl,trivial⟩)
def NM :lM Ph ext 66 ml:=jc rfl rfl rfl rfl (by decide) (by decide) Ps (fun _=>rfl)
def Nv :lL Ph ext 64 ml:=kH rfl rfl Pd
def Mi :lK Ph ext 69 ml:=iZ rfl rfl Ou
def NO :lw Ph ext 34 Jp:=cZ (ss:=I8) rfl (bK ⟨rfl,rfl,rfl,trivial⟩)
def Nx :mb Ph ext 30 Jp:=du (ss:=I8) rfl (bK ⟨rfl,rfl,rfl,trivial⟩)
def Mo :lq Ph ext 38 Jp:=cY (ss:=I8) rfl (bK ⟨rfl,rfl,rfl,trivial⟩)
def NR :lw Ph ext 35 wn:=cZ (ss:=tz) rfl (bK ⟨⟨NM,rfl⟩,trivial⟩)
def NA :mb Ph ext 31 wn:=du (ss:=tz) rfl (bK ⟨Nv,trivial⟩)
def Mt :lq Ph ext 39 wn:=cY (ss:=tz) rfl (bK ⟨Mi,trivial⟩)
def Sq :lw Ph ext 7 CN:=cZ (ss:=Be) rfl (bK ⟨⟨NO,fun _=>rfl⟩,⟨NR,nofun⟩,trivial⟩)
def Sg :mb Ph ext 5 CN:=du (ss:=Be) rfl (bK ⟨Nx,NA,trivial⟩)
def Rk :lq Ph ext 9 CN:=cY (ss:=Be) rfl (bK ⟨Mo,Mt,trivial⟩)
def NP :lw Ph ext 73 wl:=cZ (ss:=tw) rfl (bK ⟨rfl,rfl,trivial⟩)
def Ny :mb Ph ext 70 wl:=du (ss:=tw) rfl (bK ⟨rfl,rfl,trivial⟩)
def Mp :lq Ph ext 76 wl:=cY (ss:=tw) rfl (bK ⟨rfl,rfl,trivial⟩)
def Lo :lM Ph ext 42 lI:=jc rfl rfl rfl rfl (by decide) (by decide) NP (fun _=>rfl)
def K7 :lL Ph ext 40 lI:=kH rfl rfl Ny
def J3 :lK Ph ext 44 lI:=iZ rfl rfl Mp
def Pt :lw Ph ext 93 AZ:=cZ (ss:=wE) rfl (bK ⟨rfl,rfl,rfl,rfl,trivial⟩)
def Pe :mb Ph ext 92 AZ:=du (ss:=wE) rfl (bK ⟨rfl,rfl,rfl,rfl,trivial⟩)
def Ov :lq Ph ext 94 AZ:=cY (ss:=wE) rfl (bK ⟨rfl,rfl,rfl,rfl,trivial⟩)
def NN :lM Ph ext 74 mn:=jc rfl rfl rfl rfl (by decide) (by decide) Pt (fun _=>rfl)
def Nw :lL Ph ext 71 mn:=kH rfl rfl Pe
def Mn :lK Ph ext 77 mn:=iZ rfl rfl Ov
def Sp :lM Ph ext 75 rt:=Ln rfl rfl rfl (by decide)
def Sf :lL Ph ext 72 rt:=ER rfl rfl
def Rj :lK Ph ext 78 rt:=J2 rfl rfl
def Lp :lw Ph ext 43 tV:=cZ (ss:=qb) rfl (bK ⟨⟨NN,rfl⟩,rfl,⟨Sp,rfl⟩,rfl,rfl,rfl,trivial⟩)
def K8 :mb Ph ext 41 tV:=du (ss:=qb) rfl (bK ⟨Nw,rfl,Sf,rfl,rfl,rfl,trivial⟩)
def J4 :lq Ph ext 45 tV:=cY (ss:=qb) rfl (bK ⟨Mn,rfl,Rj,rfl,rfl,rfl,trivial⟩)
def Sw :lw Ph ext 12 Ht:=cZ (ss:=Bg) rfl (bK ⟨rfl,rfl,rfl,rfl,⟨Lo,rfl⟩,⟨Lp,nofun⟩,trivial⟩)
def Sj :mb Ph ext 10 Ht:=du (ss:=Bg) rfl (bK ⟨rfl,rfl,rfl,rfl,K7,K8,trivial⟩)
def Ro :lq Ph ext 14 Ht:=cY (ss:=Bg) rfl (bK ⟨rfl,rfl,rfl,rfl,J3,J4,trivial⟩)
def Pu :lM Ph ext 53 mJ:=jc rfl rfl rfl rfl (by decide) (by decide) Sq nofun
def Pf :lL Ph ext 52 mJ:=kH rfl rfl Sg
def Ow :lK Ph ext 55 mJ:=iZ rfl rfl Rk
def Lh :lw Ph ext 80 xa:=cZ (ss:=wB) rfl (bK ⟨rfl,rfl,trivial⟩)
def JY :lq Ph ext 82 xa:=cY (ss:=wB) rfl (bK ⟨rfl,rfl,trivial⟩)
def IR :lM Ph ext 48 jT:=jc rfl rfl rfl rfl (by decide) (by decide) Lh (fun _=>rfl)
def IK :lL Ph ext 46 jT:=ER rfl rfl
def H0 :lK Ph ext 50 jT:=iZ rfl rfl JY
def PC :lw Ph ext 81 xb:=cZ (ss:=wJ) rfl (bK ⟨rfl,rfl,⟨NO,fun _=>rfl⟩,rfl,rfl,trivial⟩)
def Po :mb Ph ext 79 xb:=du (ss:=wJ) rfl (bK ⟨rfl,rfl,Nx,rfl,rfl,trivial⟩)
def OB :lq Ph ext 83 xb:=cY (ss:=wJ) rfl (bK ⟨rfl,rfl,Mo,rfl,rfl,trivial⟩)
def Dv :lM Ph ext 49 iP:=jc rfl rfl rfl rfl (by decide) (by decide) PC (fun _=>rfl)
def Dt :lL Ph ext 47 iP:=kH rfl rfl Po
def CZ :lK Ph ext 51 iP:=iZ rfl rfl OB
def zd :lw Ph ext 22 uM:=cZ (ss:=wH) rfl (bK ⟨rfl,⟨Pu,rfl⟩,rfl,trivial⟩)
def zc :mb Ph ext 20 uM:=du (ss:=wH) rfl (bK ⟨rfl,Pf,rfl,trivial⟩)
def yc :lq Ph ext 24 uM:=cY (ss:=wH) rfl (bK ⟨rfl,Ow,rfl,trivial⟩)
def NS :lw Ph ext 17 wq:=cZ (ss:=tA) rfl (bK ⟨⟨zd,nofun⟩,⟨IR,rfl⟩,⟨Dv,rfl⟩,trivial⟩)
def NB :mb Ph ext 15 wq:=du (ss:=tA) rfl (bK ⟨zc,IK,Dt,trivial⟩)
def Mv :lq Ph ext 19 wq:=cY (ss:=tA) rfl (bK ⟨yc,H0,CZ,trivial⟩)
def NT :lM Ph ext 60 lf:=jc rfl rfl rfl rfl (by decide) (by decide) zd nofun
def NC :lL Ph ext 57 lf:=kH rfl rfl zc
def Mw :lK Ph ext 63 lf:=iZ rfl rfl yc
def HE :lM Ph ext 255 kI:=Ln rfl rfl rfl (by decide)
def Hk :lL Ph ext 251 kI:=ER rfl rfl
def Fy :lK Ph ext 259 kI:=J2 rfl rfl
def IV :lw Ph ext 281 ru:=cZ (ss:=oF) rfl (bK ⟨rfl,rfl,rfl,⟨HE,rfl⟩,rfl,trivial⟩)
def IQ :mb Ph ext 280 ru:=du (ss:=oF) rfl (bK ⟨rfl,rfl,rfl,Hk,rfl,trivial⟩)
def H5 :lq Ph ext 282 ru:=cY (ss:=oF) rfl (bK ⟨rfl,rfl,rfl,Fy,rfl,trivial⟩)
def NL :lw Ph ext 278 wi:=cZ (ss:=tv) rfl (bK ⟨rfl,rfl,⟨IV,nofun⟩,trivial⟩)
def Nu :mb Ph ext 277 wi:=du (ss:=tv) rfl (bK ⟨rfl,rfl,IQ,trivial⟩)
def Mh :lq Ph ext 279 wi:=cY (ss:=tv) rfl (bK ⟨rfl,rfl,H5,trivial⟩)
def Lj :lM Ph ext 273 lH:=jc rfl rfl rfl rfl (by decide) (by decide) NL nofun
def K5 :lL Ph ext 271 lH:=kH rfl rfl Nu
def J0 :lK Ph ext 275 lH:=iZ rfl rfl Mh
def Pr :lw Ph ext 265 AX:=cZ (ss:=wC) rfl (bK ⟨rfl,⟨Lj,rfl⟩,trivial⟩)
def Pb :mb Ph ext 262 AX:=du (ss:=wC) rfl (bK ⟨rfl,K5,trivial⟩)
def Ot :lq Ph ext 268 AX:=cY (ss:=wC) rfl (bK ⟨rfl,J0,trivial⟩)
def NK :lM Ph ext 253 mj:=jc rfl rfl rfl rfl (by decide) (by decide) Pr nofun
def Nt :lL Ph ext 249 mj:=kH rfl rfl Pb
def Mg :lK Ph ext 257 mj:=iZ rfl rfl Ot
def IU :lw Ph ext 274 rq:=cZ (ss:=oE) rfl (bK ⟨rfl,rfl,trivial⟩)
def IN :mb Ph ext 272 rq:=du (ss:=oE) rfl (bK ⟨rfl,rfl,trivial⟩)
def H4 :lq Ph ext 276 rq:=cY (ss:=oE) rfl (bK ⟨rfl,rfl,trivial⟩)
def HF :lM Ph ext 266 gu:=jc rfl rfl rfl rfl (by decide) (by decide) IU (fun _=>rfl)
def Hm :lL Ph ext 263 gu:=kH rfl rfl IN
def Fz :lK Ph ext 269 gu:=iZ rfl rfl H4
def A4 :lw Ph ext 231 lc:=cZ (ss:=jg) rfl (bK ⟨rfl,rfl,rfl,rfl,trivial⟩)
def AV :mb Ph ext 227 lc:=du (ss:=jg) rfl (bK ⟨rfl,rfl,rfl,rfl,trivial⟩)
def zx :lq Ph ext 235 lc:=cY (ss:=jg) rfl (bK ⟨rfl,rfl,rfl,rfl,trivial⟩)
def IS :lw Ph ext 232 ro:=cZ (ss:=oC) rfl (bK ⟨⟨NK,rfl⟩,trivial⟩)
def IL :mb Ph ext 228 ro:=du (ss:=oC) rfl (bK ⟨Nt,trivial⟩)
def H2 :lq Ph ext 236 ro:=cY (ss:=oC) rfl (bK ⟨Mg,trivial⟩)
def IT :lw Ph ext 254 rp:=cZ (ss:=oD) rfl (bK ⟨rfl,rfl,⟨NT,rfl⟩,⟨HF,rfl⟩,trivial⟩)
def IM :mb Ph ext 250 rp:=du (ss:=oD) rfl (bK ⟨rfl,rfl,NC,Hm,trivial⟩)
def H3 :lq Ph ext 258 rp:=cY (ss:=oD) rfl (bK ⟨rfl,rfl,Mw,Fz,trivial⟩)
def So :lw Ph ext 233 Hr:=cZ (ss:=Bd) rfl (bK ⟨⟨IT,nofun⟩,⟨HE,rfl⟩,rfl,trivial⟩)
def Se :mb Ph ext 229 Hr:=du (ss:=Bd) rfl (bK ⟨IM,Hk,rfl,trivial⟩)
def Rh :lq Ph ext 237 Hr:=cY (ss:=Bd) rfl (bK ⟨H3,Fy,rfl,trivial⟩)
def NQ :lw Ph ext 267 wm:=cZ (ss:=tx) rfl (bK ⟨rfl,rfl,⟨Dv,rfl⟩,trivial⟩)
def Nz :mb Ph ext 264 wm:=du (ss:=tx) rfl (bK ⟨rfl,rfl,Dt,trivial⟩)
def Ms :lq Ph ext 270 wm:=cY (ss:=tx) rfl (bK ⟨rfl,rfl,CZ,trivial⟩)
def Sy :lw Ph ext 256 Hv:=cZ (ss:=Bi) rfl (bK ⟨⟨NQ,nofun⟩,rfl,rfl,trivial⟩)
def Sl :mb Ph ext 252 Hv:=du (ss:=Bi) rfl (bK ⟨Nz,rfl,rfl,trivial⟩)
def Rq :lq Ph ext 260 Hv:=cY (ss:=Bi) rfl (bK ⟨Ms,rfl,rfl,trivial⟩)
def Lq :lw Ph ext 234 tW:=cZ (ss:=qc) rfl (bK ⟨⟨zd,nofun⟩,rfl,⟨Sy,nofun⟩,trivial⟩)
def K9 :mb Ph ext 230 tW:=du (ss:=qc) rfl (bK ⟨zc,rfl,Sl,trivial⟩)
def J5 :lq Ph ext 238 tW:=cY (ss:=qc) rfl (bK ⟨yc,rfl,Rq,trivial⟩)
def NJ :lw Ph ext 201 wh:=cZ (ss:=tu) rfl (bK ⟨rfl,rfl,⟨A4,fun _=>rfl⟩,⟨IS,nofun⟩,⟨So,nofun⟩,⟨Lq,nofun⟩,rfl,rfl,trivial⟩)
def Ns :mb Ph ext 198 wh:=du (ss:=tu) rfl (bK ⟨rfl,rfl,AV,IL,Se,K9,rfl,rfl,trivial⟩)
def Mf :lq Ph ext 205 wh:=cY (ss:=tu) rfl (bK ⟨rfl,rfl,zx,H2,Rh,J5,rfl,rfl,trivial⟩)
def Li :lM Ph ext 167 ej:=jc rfl rfl rfl rfl (by decide) (by decide) NJ nofun
def K3 :lL Ph ext 163 ej:=kH rfl rfl Ns
def JZ :lK Ph ext 171 ej:=iZ rfl rfl Mf
def Px :lM Ph ext 134 kJ:=jc rfl rfl rfl rfl (by decide) (by decide) Sw nofun
def Pk :lL Ph ext 128 kJ:=kH rfl rfl Sj
def Oz :lK Ph ext 140 kJ:=iZ rfl rfl Ro
def Sr :lw Ph ext 202 Hs:=cZ (ss:=Bf) rfl (bK ⟨rfl,rfl,rfl,rfl,trivial⟩)
def Si :mb Ph ext 199 Hs:=du (ss:=Bf) rfl (bK ⟨rfl,rfl,rfl,rfl,trivial⟩)
def Rl :lq Ph ext 206 Hs:=cY (ss:=Bf) rfl (bK ⟨rfl,rfl,rfl,rfl,trivial⟩)
def Pv :lM Ph ext 168 jU:=jc rfl rfl rfl rfl (by decide) (by decide) Sr (fun _=>rfl)
def Pi :lL Ph ext 164 jU:=kH rfl rfl Si
def Ox :lK Ph ext 172 jU:=iZ rfl rfl Rl
def Ss :lw Ph ext 203 Lg:=cZ (ss:=JS) rfl (bK ⟨rfl,rfl,rfl,trivial⟩)
def Rm :lq Ph ext 207 Lg:=cY (ss:=JS) rfl (bK ⟨rfl,rfl,rfl,trivial⟩)
def Pw :lM Ph ext 169 jV:=jc rfl rfl rfl rfl (by decide) (by decide) Ss (fun _=>rfl)
def Pj :lL Ph ext 165 jV:=ER rfl rfl
def Oy :lK Ph ext 173 jV:=iZ rfl rfl Rm
def Lu :lM Ph ext 204 jz:=Ln rfl rfl rfl (by decide)
def Le :lL Ph ext 200 jz:=fun _ h _ a b=>Ld (bi h).1 (Yd h) a b
def J8 :lK Ph ext 208 jz:=J2 rfl rfl
def Sx :lw Ph ext 170 Hu:=cZ (ss:=Bh) rfl (bK ⟨rfl,rfl,⟨Lu,rfl⟩,rfl,trivial⟩)
def Sk :mb Ph ext 166 Hu:=du (ss:=Bh) rfl (bK ⟨rfl,rfl,Le,rfl,trivial⟩)
def Rp :lq Ph ext 174 Hu:=cY (ss:=Bh) rfl (bK ⟨rfl,rfl,J8,rfl,trivial⟩)
def Py :lM Ph ext 137 kK:=jc rfl rfl rfl rfl (by decide) (by decide) Sx nofun
def Pl :lL Ph ext 131 kK:=kH rfl rfl Sk
def OA :lK Ph ext 143 kK:=iZ rfl rfl Rp
def Lr :lM Ph ext 138 fo:=jc rfl rfl rfl rfl (by decide) (by decide) NS nofun
def Lb :lL Ph ext 132 fo:=kH rfl rfl NB
def J6 :lK Ph ext 144 fo:=iZ rfl rfl Mv
def Lt :lw Ph ext 133 iC:=cZ (ss:=qd) rfl (bK ⟨⟨Li,rfl⟩,trivial⟩)
def Lc :mb Ph ext 127 iC:=du (ss:=qd) rfl (bK ⟨K3,trivial⟩)
def J7 :lq Ph ext 139 iC:=cY (ss:=qd) rfl (bK ⟨JZ,trivial⟩)
def HG :lw Ph ext 135 fQ:=cZ (ss:=nj) rfl (bK ⟨⟨Pv,rfl⟩,trivial⟩)
def Hp :mb Ph ext 129 fQ:=du (ss:=nj) rfl (bK ⟨Pi,trivial⟩)
def FA :lq Ph ext 141 fQ:=cY (ss:=nj) rfl (bK ⟨Ox,trivial⟩)
def Ll :lw Ph ext 136 iB:=cZ (ss:=qa) rfl (bK ⟨⟨Pw,rfl⟩,trivial⟩)
def K6 :mb Ph ext 130 iB:=du (ss:=qa) rfl (bK ⟨Pj,trivial⟩)
def J1 :lq Ph ext 142 iB:=cY (ss:=qa) rfl (bK ⟨Oy,trivial⟩)
def Pz :lw Ph ext 106 fS:=cZ (ss:=wI) rfl (bK ⟨rfl,rfl,rfl,⟨Lt,nofun⟩,⟨Px,rfl⟩,rfl,⟨HG,nofun⟩,⟨Ll,nofun⟩,⟨Py,rfl⟩,⟨Lr,rfl⟩,trivial⟩)
def Pn :mb Ph ext 104 fS:=du (ss:=wI) rfl (bK ⟨rfl,rfl,rfl,Lc,Pk,rfl,Hp,K6,Pl,Lb,trivial⟩)
def FB :lq Ph ext 108 fS:=cY (ss:=wI) rfl (bK ⟨rfl,rfl,rfl,J7,Oz,rfl,FA,J1,OA,J6,trivial⟩)
def bg :Dw Ph ext av 432:=WI rfl
def Ee :qj Ph ext av 448 jT:=fG bg rfl rfl ⟨rfl,⟨rfl,trivial⟩⟩
def Ay :qj Ph ext av 474 kI:=fG bg rfl rfl ⟨rfl,trivial⟩
def GO :qj Ph ext av 485 lH:=fG bg rfl rfl ⟨rfl,⟨rfl,⟨rfl,⟨rfl,⟨rfl,⟨rfl,Ay,⟨rfl,trivial⟩⟩⟩⟩⟩⟩⟩
def IC :qj Ph ext av 471 mj:=fG bg rfl rfl ⟨rfl,⟨rfl,GO,trivial⟩⟩
def ID :qj Ph ext av 475 ml:=fG bg rfl rfl ⟨rfl,⟨rfl,trivial⟩⟩
def uC :qj Ph ext av 447 mJ:=fG bg rfl rfl ⟨rfl,⟨rfl,⟨rfl,⟨rfl,ID,trivial⟩⟩⟩⟩
def IF :qj Ph ext av 472 lf:=fG bg rfl rfl ⟨rfl,⟨rfl,uC,⟨rfl,trivial⟩⟩⟩
def Cp :qj Ph ext av 473 gu:=fG bg rfl rfl ⟨rfl,⟨rfl,trivial⟩⟩
def xM :qj Ph ext av 449 iP:=fG bg rfl rfl ⟨rfl,⟨rfl,⟨rfl,⟨rfl,⟨rfl,⟨rfl,⟨rfl,trivial⟩⟩⟩⟩⟩⟩⟩
def vP :qj Ph ext av 441 ej:=fG bg rfl rfl ⟨rfl,⟨rfl,⟨rfl,⟨rfl,⟨rfl,⟨rfl,⟨rfl,IC,⟨rfl,⟨rfl,⟨rfl,IF,⟨rfl,Cp,⟨rfl,Ay,⟨rfl,⟨rfl,⟨rfl,uC,⟨rfl,⟨rfl,⟨rfl,⟨rfl,⟨rfl,xM,⟨rfl,⟨rfl,⟨rfl,⟨rfl,trivial⟩⟩⟩⟩⟩⟩⟩⟩⟩⟩⟩⟩⟩⟩⟩⟩⟩⟩⟩⟩⟩⟩⟩⟩
def Kz :qj Ph ext av 446 jV:=fG bg rfl rfl ⟨rfl,⟨rfl,⟨rfl,trivial⟩⟩⟩
def vQ :QM Ph ext av 429 iB:=Az (ss:=[.l jV 446]) rfl rfl ⟨Kz,trivial⟩
def IE :qj Ph ext av 443 mn:=fG bg rfl rfl ⟨rfl,⟨rfl,⟨rfl,⟨rfl,trivial⟩⟩⟩⟩
def MU :qj Ph ext av 444 rt:=fG bg rfl rfl ⟨rfl,trivial⟩
def GP :qj Ph ext av 442 lI:=fG bg rfl rfl ⟨rfl,⟨rfl,trivial⟩⟩
def Ky :qj Ph ext av 445 jU:=fG bg rfl rfl ⟨rfl,⟨rfl,⟨rfl,⟨rfl,trivial⟩⟩⟩⟩
def tL :QM Ph ext av 428 fQ:=Az (ss:=[.l jU 445]) rfl rfl ⟨Ky,trivial⟩
def AA :qj Ph ext av 427 kJ:=fG bg rfl rfl ⟨rfl,⟨rfl,⟨rfl,⟨rfl,⟨rfl,GP,⟨rfl,IE,⟨rfl,⟨rfl,MU,⟨rfl,⟨rfl,⟨rfl,trivial⟩⟩⟩⟩⟩⟩⟩⟩⟩⟩⟩
def re :qj Ph ext av 431 fo:=fG bg rfl rfl ⟨rfl,⟨rfl,uC,⟨rfl,⟨rfl,Ee,⟨rfl,xM,trivial⟩⟩⟩⟩⟩
def GQ :qj Ph ext av 421 jz:=fG bg rfl rfl ⟨rfl,trivial⟩
def uD :qj Ph ext av 430 kK:=fG bg rfl rfl ⟨rfl,⟨rfl,⟨rfl,GQ,⟨rfl,trivial⟩⟩⟩⟩
def vR :QM Ph ext av 426 iC:=Az (ss:=[.l ej 441]) rfl rfl ⟨vP,trivial⟩
def KA :QM Ph ext av 420 fS:=Az (ss:=[.k [.int .i64, .bool, .int .i64], .s iC 426, .l kJ 427, .k [.int .i64], .s fQ 428, .s iB 429, .l kK 430, .l fo 431]) rfl rfl ⟨rfl,⟨vR,⟨AA,⟨rfl,⟨tL,⟨vQ,⟨uD,⟨re,trivial⟩⟩⟩⟩⟩⟩⟩⟩
def D9 :hZ Ph ext av 469 jT:=fE bg rfl ⟨rfl,⟨rfl,trivial⟩⟩
def Ae :hZ Ph ext av 483 kI:=fE bg rfl ⟨rfl,trivial⟩
def Gv :hZ Ph ext av 494 lH:=fE bg rfl ⟨rfl,⟨rfl,⟨rfl,⟨rfl,⟨rfl,⟨rfl,Ae,⟨rfl,trivial⟩⟩⟩⟩⟩⟩⟩
def Ix :hZ Ph ext av 480 mj:=fE bg rfl ⟨rfl,⟨rfl,Gv,trivial⟩⟩
def Iy :hZ Ph ext av 484 ml:=fE bg rfl ⟨rfl,⟨rfl,trivial⟩⟩
def ur :hZ Ph ext av 468 mJ:=fE bg rfl ⟨rfl,⟨rfl,⟨rfl,⟨rfl,Iy,trivial⟩⟩⟩⟩
def IA :hZ Ph ext av 481 lf:=fE bg rfl ⟨rfl,⟨rfl,ur,⟨rfl,trivial⟩⟩⟩
def B4 :hZ Ph ext av 482 gu:=fE bg rfl ⟨rfl,⟨rfl,trivial⟩⟩
def xJ :hZ Ph ext av 470 iP:=fE bg rfl ⟨rfl,⟨rfl,⟨rfl,⟨rfl,⟨rfl,⟨rfl,⟨rfl,trivial⟩⟩⟩⟩⟩⟩⟩
def Gu :hZ Ph ext av 462 ej:=fE bg rfl ⟨rfl,⟨rfl,⟨rfl,⟨rfl,⟨rfl,⟨rfl,⟨rfl,Ix,⟨rfl,⟨rfl,⟨rfl,IA,⟨rfl,B4,⟨rfl,Ae,⟨rfl,⟨rfl,⟨rfl,ur,⟨rfl,⟨rfl,⟨rfl,⟨rfl,⟨rfl,xJ,⟨rfl,⟨rfl,⟨rfl,⟨rfl,trivial⟩⟩⟩⟩⟩⟩⟩⟩⟩⟩⟩⟩⟩⟩⟩⟩⟩⟩⟩⟩⟩⟩⟩⟩
def Km :hZ Ph ext av 467 jV:=fE bg rfl ⟨rfl,⟨rfl,⟨rfl,trivial⟩⟩⟩
def Gw :QL Ph ext av 438 iB:=Ag (ss:=[.l jV 467]) rfl ⟨Km,trivial⟩
def Iz :hZ Ph ext av 464 mn:=fE bg rfl ⟨rfl,⟨rfl,⟨rfl,⟨rfl,trivial⟩⟩⟩⟩
def MG :hZ Ph ext av 465 rt:=fE bg rfl ⟨rfl,trivial⟩
def Gx :hZ Ph ext av 463 lI:=fE bg rfl ⟨rfl,⟨rfl,trivial⟩⟩
def Kl :hZ Ph ext av 466 jU:=fE bg rfl ⟨rfl,⟨rfl,⟨rfl,⟨rfl,trivial⟩⟩⟩⟩
def B5 :QL Ph ext av 437 fQ:=Ag (ss:=[.l jU 466]) rfl ⟨Kl,trivial⟩
def Ko :hZ Ph ext av 436 kJ:=fE bg rfl ⟨rfl,⟨rfl,⟨rfl,⟨rfl,⟨rfl,Gx,⟨rfl,Iz,⟨rfl,⟨rfl,MG,⟨rfl,⟨rfl,⟨rfl,trivial⟩⟩⟩⟩⟩⟩⟩⟩⟩⟩⟩
def Gy :hZ Ph ext av 440 fo:=fE bg rfl ⟨rfl,⟨rfl,ur,⟨rfl,⟨rfl,D9,⟨rfl,xJ,trivial⟩⟩⟩⟩⟩
def GA :hZ Ph ext av 422 jz:=fE bg rfl ⟨rfl,trivial⟩
def Kp :hZ Ph ext av 439 kK:=fE bg rfl ⟨rfl,⟨rfl,⟨rfl,GA,⟨rfl,trivial⟩⟩⟩⟩
def Gz :QL Ph ext av 435 iC:=Ag (ss:=[.l ej 462]) rfl ⟨Gu,trivial⟩
def Kq :QL Ph ext av 425 fS:=Ag (ss:=[.k [.int .i64, .bool, .int .i64], .s iC 435, .l kJ 436, .k [.int .i64], .s fQ 437, .s iB 438, .l kK 439, .l fo 440]) rfl ⟨rfl,⟨Gz,⟨Ko,⟨rfl,⟨B5,⟨Gw,⟨Kp,⟨Gy,trivial⟩⟩⟩⟩⟩⟩⟩⟩
end
end Gi
