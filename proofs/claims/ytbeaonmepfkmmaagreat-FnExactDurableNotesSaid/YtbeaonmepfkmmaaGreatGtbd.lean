/- Of this proof. -/
import Derived.Test.YtbeaonmepfkmmaaGreatGtad
set_option linter.unusedSimpArgs false
set_option linter.unusedVariables false
namespace Gi
open Go Go.RowKit
attribute [local simp] start fB au ai aE aO a9 b6 Opd.ev put V.cells plain bf fO isInt isStr isBool bin ca un asList L.view av V.view viewL done aR aw cq bE comp aK bv al V.flat L.flat cX cN br putAt thaw thawL freezeVs freezeLs freezeL V.mut L.mut aJ aM
theorem yB {f g:St→Option (Ex×St)}(h:g=f)(σ:St):aC f σ=(match g σ with
 |some (.normal,σ')=>aC f σ'
 |r=>r):=by rw[h];exact sL f σ
theorem Fb (p:PV)(ps:List PV):eT (p::ps)=sz p+eT ps:=by simp only[eT]
theorem dQ (s:List UInt8):sz (.str s)=s.length:=by simp only[sz]
theorem bd :∀{l:List PV}{i:Nat}{p:PV},l[i]? =some p→sz p≤eT l
 |[],_,_,h=>by simp at h
 |q::l,0,p,h=>by simp at h;subst h;rw[Fb];exact Nat.le_add_right _ _
 |q::l,i+1,p,h=>by rw[Fb];exact Nat.le_trans (bd (l:=l) (i:=i) (by simpa using h)) (Nat.le_add_left _ _)
def Pj (x:Option (Ex×St))(Q:Ex→St→Prop):Prop:=
 match x with
 |some (e,σ)=>Q e σ
 |none=>False
theorem Pj.get {x:Option (Ex×St)}{Q:Ex→St→Prop}(h:Pj x Q):∃e σ,x=some (e,σ)∧Q e σ:=by
 unfold Pj at h
 split at h
 ·exact⟨_,_,rfl,h⟩
 ·exact h.elim
theorem EC {e:Ex}{σ:St}{Q:Ex→St→Prop}:Pj (some (e,σ)) Q=Q e σ:=rfl
section
variable {ext:Nat→List V→Option V}
theorem Ly {rows:List (List PV)}(hl:rows.length≤maxLen)(hr:∀r∈rows,∃s:List UInt8,r=[.str s]∧s.length≤maxLen):∀(m k:Nat)(i:Int),i=k→k+m=rows.length→∀(left:Int),0≤left→left≤1048576→∀(x2 x3 x4 x6 x7 x8 x9 x10 x11 x12 x13 x14 x15 x16 x17 x18 x19 x20 x21 x22 x23 x24 x25 x26 x27:V)(h:List AObj),
 Pj (aC (au (ah Ph ext) aC dD) ⟨(aQ rows::aa .i64 left::x2::x3::x4::aa .i64 i::x6::x7::x8::x9::x10::x11::x12::x13::x14::x15::x16::x17::x18::x19::x20::x21::x22::x23::x24::x25::x26::x27::[]),h⟩) fun e σ'=>σ'.h=h∧σ'.t.length=28∧((e= .exit 0∧0≤less left (cU (rows.drop k))∧σ'.t[1]? =some (aa .i64 (less left (cU (rows.drop k)))))∨(e= .ret∧less left (cU (rows.drop k))= -1∧σ'.t[4]? =some (aa .i64 (-1)))):=by
 generalize hF:au (ah Ph ext) aC dD=F
 intro m
 induction m with
 |zero=>
  intro k i hi hk left h0 h1 x2 x3 x4 x6 x7 x8 x9 x10 x11 x12 x13 x14 x15 x16 x17 x18 x19 x20 x21 x22 x23 x24 x25 x26 x27 h
  subst hi
  have hk':k=rows.length:=by omega
  subst hk'
  have hl0:less left (cU (rows.drop rows.length))=left:=by simp[cU,less];omega
  rw[hl0,yB hF]
  simp[dD,iK,h0,EC]
 |succ m ih=>
  intro k i hi hk left h0 h1 x2 x3 x4 x6 x7 x8 x9 x10 x11 x12 x13 x14 x15 x16 x17 x18 x19 x20 x21 x22 x23 x24 x25 x26 x27 h
  subst hi
  have hlt:k<rows.length:=by omega
  have hw:=jE (k:=k) (by unfold maxLen at hl;omega)
  obtain⟨s,hrk,hs⟩:=hr _ (List.getElem_mem hlt)
  unfold maxLen at hs
  have hw2:IntKind.i64.wrap (left-(s.length:Int))=left-(s.length:Int):=by rw[IntKind.wrap_i64];omega
  rw[zJ hlt,hrk]
  have hsz:eT [PV.str s]=s.length:=by simp[eT,sz]
  rw[hsz]
  by_cases hneg:left<(s.length:Int)
  ·have e1:less left (s.length+cU (rows.drop (k+1)))= -1:=by unfold less;rw[if_pos (by omega)]
   rw[e1,yB hF]
   have hn:left-(s.length:Int)<0:=by omega
   simp[dD,iK,hlt,hrk,hw,hw2,hn,EC]
  ·have hn:¬left-(s.length:Int)<0:=by omega
   have key:=ih (k+1) ((k:Int)+1) (by omega) (by omega) (left-s.length) (by omega) (by omega)
   have e1:less (left-s.length) (cU (rows.drop (k+1)))=less left (s.length+cU (rows.drop (k+1))):=by
    have:left-(s.length:Int)=less left s.length:=by unfold less;rw[if_neg hneg]
    rw[this];exact qz (by rw[←this];omega)
   rw[e1]at key
   clear ih
   rw[yB hF]
   simp[dD,iK,hlt,hrk,hw,hw2,hn]
   exact key _ _ _ _ _ _ _ _ _ _ _ _ _ _ _ _ _ _ _ _ _ _ _ _ _ _
theorem He {rows:List (List PV)}(hl:rows.length≤maxLen)(hr:∀r∈rows,∃s:List UInt8,r=[.str s]∧s.length≤maxLen){left:Int}(h0:0≤left)(h1:left≤1048576):ah Ph ext 200 [aQ rows,aa .i64 left]=some (aa .i64 (less left (sz (.lst rows)))):=by
 refine eB (fn:=il) rfl ?_
 have hw:IntKind.i64.wrap (left-rows.length)=left-rows.length:=by unfold maxLen at hl;rw[IntKind.wrap_i64];omega
 rw[k6]
 by_cases hn:left<rows.length
 ·have hn':left-(rows.length:Int)<0:=by omega
  have e:less left (rows.length+cU rows)= -1:=by unfold less;rw[if_pos (by omega)]
  rw[e]
  generalize hF:au (ah Ph ext) aC dD=F
  simp[il,iK,hF,hw,hn']
 ·have hn':¬left-(rows.length:Int)<0:=by omega
  have hle:left-(rows.length:Int)=less left rows.length:=by unfold less;rw[if_neg hn]
  obtain⟨e,⟨t',h'⟩,q1,q2,q5,q3⟩:=(Ly (ext:=ext) hl hr rows.length 0 0 rfl (by omega) (left-rows.length) (by omega) (by omega) (.tup []) (.tup []) (aa .i64 0) (aa .i64 left) (aQ rows) (aa .i64 rows.length) (aa .i64 (left-rows.length)) (aa .i64 (left-rows.length)) (aD false) (.tup []) (.tup []) (.tup []) (.tup []) (.tup []) (.tup []) (.tup []) (.tup []) (.tup []) (.tup []) (.tup []) (.tup []) (.tup []) (.tup []) (.tup []) (.tup []) []).get
  simp only[List.drop_zero]at q3
  have hls:less (left-rows.length) (cU rows)=less left (rows.length+cU rows):=by rw[hle];exact qz (by rw[←hle];omega)
  rw[hls]at q3
  simp at q5
  rcases q3 with⟨rfl,_,q4⟩|⟨rfl,q6,q4⟩
  ·obtain⟨_,q7⟩:=List.getElem?_eq_some_iff.1 q4
   simp[il,iK,hw,hn',q1,q5,q7]
  ·obtain⟨_,q7⟩:=List.getElem?_eq_some_iff.1 q4
   simp[il,iK,hw,hn',q1,q5,q7,q6]
end
end Gi
namespace Gi
open Go Go.RowKit
set_option maxRecDepth 4000
abbrev UK :PTy→Type
 | .int _=>Int
 | .bool=>Bool
 | .str=>List UInt8
 | .lst _=>List (List PV)
abbrev Sv :(t:PTy)→UK t→PV
 | .int k,n=> .int k n
 | .bool,b=> .bool b
 | .str,s=> .str s
 | .lst _,l=> .lst l
abbrev Rc :List PTy→Type
 |[]=>Unit
 |t::ts=>UK t×Rc ts
abbrev Ua :(ts:List PTy)→Rc ts→List PV
 |[],_=>[]
 |t::ts,(x,y)=>Sv t x::Ua ts y
def TI :(ts:List PTy)→Rc ts→Prop
 |[],_=>True
 |t::ts,(x,y)=>n5 t (Sv t x)∧TI ts y
theorem bM :∀{ts:List PTy}{r:List PV},bp ts r→∃x:Rc ts,r=Ua ts x∧TI ts x
 |[],r,h=>⟨(),eV h,trivial⟩
 |t::ts,r,h=>by
  obtain⟨p,q,rfl,g,k⟩:=dB h
  obtain⟨y,rfl,l⟩:=bM k
  cases t with
  |int=>obtain⟨n,rfl⟩:=lh g;exact⟨(n,y),rfl,g,l⟩
  |bool=>obtain⟨n,rfl⟩:=j7 g;exact⟨(n,y),rfl,g,l⟩
  |str=>obtain⟨n,rfl⟩:=jG g;exact⟨(n,y),rfl,g,l⟩
  |lst=>obtain⟨n,rfl⟩:=mV g;exact⟨(n,y),rfl,g,l⟩
section
variable {ext:Nat→List V→Option V}
theorem UI {rows:List (List PV)}(h:n5 (.lst jT) (.lst rows)):∀r∈rows,∃s:List UInt8,r=[.str s]∧s.length≤maxLen:=by
 obtain⟨_,hr⟩:=aS h
 intro r m
 obtain⟨⟨c0,_⟩,rfl,g0,_⟩:=bM (hr r m)
 exact⟨c0,rfl,g0⟩
theorem LF :jH Ph ext 89 xc:=cA (ss:=tt) rfl (bg ⟨rfl,rfl,trivial⟩)
theorem Lq :j8 Ph ext 87 xc:=cM (ss:=tt) rfl (bg ⟨rfl,rfl,trivial⟩)
theorem Kt :jF Ph ext 91 xc:=cz (ss:=tt) rfl (bg ⟨rfl,rfl,trivial⟩)
theorem JV :jW Ph ext 66 kh:=ic rfl rfl rfl rfl (by decide) (by decide) LF (fun _=>rfl)
theorem JE :jV Ph ext 64 kh:=jl rfl rfl Lq
theorem Ip :jU Ph ext 69 kh:=hY rfl rfl Kt
theorem JX :jH Ph ext 34 Fc:=cA (ss:=EM) rfl (bg ⟨rfl,rfl,rfl,trivial⟩)
theorem JG :j8 Ph ext 30 Fc:=cM (ss:=EM) rfl (bg ⟨rfl,rfl,rfl,trivial⟩)
theorem It :jF Ph ext 38 Fc:=cz (ss:=EM) rfl (bg ⟨rfl,rfl,rfl,trivial⟩)
theorem J0 :jH Ph ext 35 td:=cA (ss:=qm) rfl (bg ⟨⟨JV,rfl⟩,trivial⟩)
theorem JJ :j8 Ph ext 31 td:=cM (ss:=qm) rfl (bg ⟨JE,trivial⟩)
theorem Iy :jF Ph ext 39 td:=cz (ss:=qm) rfl (bg ⟨Ip,trivial⟩)
theorem O3 :jH Ph ext 7 yW:=cA (ss:=xt) rfl (bg ⟨⟨JX,fun _=>rfl⟩,⟨J0,nofun⟩,trivial⟩)
theorem OT :j8 Ph ext 5 yW:=cM (ss:=xt) rfl (bg ⟨JG,JJ,trivial⟩)
theorem NQ :jF Ph ext 9 yW:=cz (ss:=xt) rfl (bg ⟨It,Iy,trivial⟩)
theorem JY :jH Ph ext 73 tb:=cA (ss:=qk) rfl (bg ⟨rfl,rfl,trivial⟩)
theorem JH :j8 Ph ext 70 tb:=cM (ss:=qk) rfl (bg ⟨rfl,rfl,trivial⟩)
theorem Iu :jF Ph ext 76 tb:=cz (ss:=qk) rfl (bg ⟨rfl,rfl,trivial⟩)
theorem Ho :jW Ph ext 42 mS:=ic rfl rfl rfl rfl (by decide) (by decide) JY (fun _=>rfl)
theorem G8 :jV Ph ext 40 mS:=jl rfl rfl JH
theorem FW :jU Ph ext 44 mS:=hY rfl rfl Iu
theorem LG :jH Ph ext 93 xd:=cA (ss:=tu) rfl (bg ⟨rfl,rfl,rfl,rfl,trivial⟩)
theorem Lr :j8 Ph ext 92 xd:=cM (ss:=tu) rfl (bg ⟨rfl,rfl,rfl,rfl,trivial⟩)
theorem Ku :jF Ph ext 94 xd:=cz (ss:=tu) rfl (bg ⟨rfl,rfl,rfl,rfl,trivial⟩)
theorem JW :jW Ph ext 74 nf:=ic rfl rfl rfl rfl (by decide) (by decide) LG (fun _=>rfl)
theorem JF :jV Ph ext 71 nf:=jl rfl rfl Lr
theorem Is :jU Ph ext 77 nf:=hY rfl rfl Ku
theorem O1 :jW Ph ext 75 rV:=Hn rfl rfl rfl (by decide)
theorem OR :jV Ph ext 72 rV:=A3 rfl rfl
theorem NP :jU Ph ext 78 rV:=FV rfl rfl
theorem Hp :jH Ph ext 43 qK:=cA (ss:=od) rfl (bg ⟨⟨JW,rfl⟩,rfl,⟨O1,rfl⟩,rfl,rfl,rfl,trivial⟩)
theorem G9 :j8 Ph ext 41 qK:=cM (ss:=od) rfl (bg ⟨JF,rfl,OR,rfl,rfl,rfl,trivial⟩)
theorem FX :jF Ph ext 45 qK:=cz (ss:=od) rfl (bg ⟨Is,rfl,NP,rfl,rfl,rfl,trivial⟩)
theorem O7 :jH Ph ext 12 Dm:=cA (ss:=xv) rfl (bg ⟨rfl,rfl,rfl,rfl,⟨Ho,rfl⟩,⟨Hp,nofun⟩,trivial⟩)
theorem OV :j8 Ph ext 10 Dm:=cM (ss:=xv) rfl (bg ⟨rfl,rfl,rfl,rfl,G8,G9,trivial⟩)
theorem NU :jF Ph ext 14 Dm:=cz (ss:=xv) rfl (bg ⟨rfl,rfl,rfl,rfl,FW,FX,trivial⟩)
theorem LH :jW Ph ext 53 gQ:=ic rfl rfl rfl rfl (by decide) (by decide) O3 nofun
theorem Lt :jV Ph ext 52 gQ:=jl rfl rfl OT
theorem Kv :jU Ph ext 55 gQ:=hY rfl rfl NQ
theorem Hi :jH Ph ext 80 tL:=cA (ss:=tn) rfl (bg ⟨rfl,rfl,trivial⟩)
theorem FQ :jF Ph ext 82 tL:=cz (ss:=tn) rfl (bg ⟨rfl,rfl,trivial⟩)
theorem Eu :jW Ph ext 48 k7:=ic rfl rfl rfl rfl (by decide) (by decide) Hi (fun _=>rfl)
theorem En :jV Ph ext 46 k7:=A3 rfl rfl
theorem DJ :jU Ph ext 50 k7:=hY rfl rfl FQ
theorem LN :jH Ph ext 81 xe:=cA (ss:=tx) rfl (bg ⟨rfl,rfl,⟨JX,fun _=>rfl⟩,rfl,rfl,trivial⟩)
theorem LA :j8 Ph ext 79 xe:=cM (ss:=tx) rfl (bg ⟨rfl,rfl,JG,rfl,rfl,trivial⟩)
theorem KB :jF Ph ext 83 xe:=cz (ss:=tx) rfl (bg ⟨rfl,rfl,It,rfl,rfl,trivial⟩)
theorem zO :jW Ph ext 49 iT:=ic rfl rfl rfl rfl (by decide) (by decide) LN (fun _=>rfl)
theorem zM :jV Ph ext 47 iT:=jl rfl rfl LA
theorem zh :jU Ph ext 51 iT:=hY rfl rfl KB
theorem vt :jH Ph ext 22 jm:=cA (ss:=tv) rfl (bg ⟨rfl,⟨LH,rfl⟩,rfl,trivial⟩)
theorem vq :j8 Ph ext 20 jm:=cM (ss:=tv) rfl (bg ⟨rfl,Lt,rfl,trivial⟩)
theorem qZ :jF Ph ext 24 jm:=cz (ss:=tv) rfl (bg ⟨rfl,Kv,rfl,trivial⟩)
theorem J1 :jH Ph ext 17 te:=cA (ss:=qp) rfl (bg ⟨⟨vt,nofun⟩,⟨Eu,rfl⟩,⟨zO,rfl⟩,trivial⟩)
theorem JK :j8 Ph ext 15 te:=cM (ss:=qp) rfl (bg ⟨vq,En,zM,trivial⟩)
theorem Iz :jF Ph ext 19 te:=cz (ss:=qp) rfl (bg ⟨qZ,DJ,zh,trivial⟩)
theorem J2 :jW Ph ext 60 lW:=ic rfl rfl rfl rfl (by decide) (by decide) vt nofun
theorem JL :jV Ph ext 57 lW:=jl rfl rfl vq
theorem IA :jU Ph ext 63 lW:=hY rfl rfl qZ
theorem Ds :jW Ph ext 255 kE:=Hn rfl rfl rfl (by decide)
theorem De :jV Ph ext 251 kE:=A3 rfl rfl
theorem Bx :jU Ph ext 259 kE:=FV rfl rfl
theorem Ez :jH Ph ext 281 o5:=cA (ss:=mr) rfl (bg ⟨rfl,rfl,rfl,⟨Ds,rfl⟩,rfl,trivial⟩)
theorem Et :j8 Ph ext 280 o5:=cM (ss:=mr) rfl (bg ⟨rfl,rfl,rfl,De,rfl,trivial⟩)
theorem DN :jF Ph ext 282 o5:=cz (ss:=mr) rfl (bg ⟨rfl,rfl,rfl,Bx,rfl,trivial⟩)
theorem JU :jH Ph ext 278 ta:=cA (ss:=qj) rfl (bg ⟨rfl,rfl,⟨Ez,nofun⟩,trivial⟩)
theorem JD :j8 Ph ext 277 ta:=cM (ss:=qj) rfl (bg ⟨rfl,rfl,Et,trivial⟩)
theorem Io :jF Ph ext 279 ta:=cz (ss:=qj) rfl (bg ⟨rfl,rfl,DN,trivial⟩)
theorem Hk :jW Ph ext 273 mR:=ic rfl rfl rfl rfl (by decide) (by decide) JU nofun
theorem G6 :jV Ph ext 271 mR:=jl rfl rfl JD
theorem FT :jU Ph ext 275 mR:=hY rfl rfl Io
theorem LD :jH Ph ext 265 xb:=cA (ss:=tq) rfl (bg ⟨rfl,⟨Hk,rfl⟩,trivial⟩)
theorem Lp :j8 Ph ext 262 xb:=cM (ss:=tq) rfl (bg ⟨rfl,G6,trivial⟩)
theorem Kr :jF Ph ext 268 xb:=cz (ss:=tq) rfl (bg ⟨rfl,FT,trivial⟩)
theorem JS :jW Ph ext 253 nc:=ic rfl rfl rfl rfl (by decide) (by decide) LD nofun
theorem JC :jV Ph ext 249 nc:=jl rfl rfl Lp
theorem Im :jU Ph ext 257 nc:=hY rfl rfl Kr
theorem Ey :jH Ph ext 274 o4:=cA (ss:=mq) rfl (bg ⟨rfl,rfl,trivial⟩)
theorem Er :j8 Ph ext 272 o4:=cM (ss:=mq) rfl (bg ⟨rfl,rfl,trivial⟩)
theorem DM :jF Ph ext 276 o4:=cz (ss:=mq) rfl (bg ⟨rfl,rfl,trivial⟩)
theorem Dt :jW Ph ext 266 gP:=ic rfl rfl rfl rfl (by decide) (by decide) Ey (fun _=>rfl)
theorem Dg :jV Ph ext 263 gP:=jl rfl rfl Er
theorem By :jU Ph ext 269 gP:=hY rfl rfl DM
theorem xh :jH Ph ext 231 jC:=cA (ss:=ij) rfl (bg ⟨rfl,rfl,rfl,rfl,trivial⟩)
theorem xa :j8 Ph ext 227 jC:=cM (ss:=ij) rfl (bg ⟨rfl,rfl,rfl,rfl,trivial⟩)
theorem vH :jF Ph ext 235 jC:=cz (ss:=ij) rfl (bg ⟨rfl,rfl,rfl,rfl,trivial⟩)
theorem Ev :jH Ph ext 232 oY:=cA (ss:=ml) rfl (bg ⟨⟨JS,rfl⟩,trivial⟩)
theorem Eo :j8 Ph ext 228 oY:=cM (ss:=ml) rfl (bg ⟨JC,trivial⟩)
theorem DK :jF Ph ext 236 oY:=cz (ss:=ml) rfl (bg ⟨Im,trivial⟩)
theorem Ew :jH Ph ext 254 oZ:=cA (ss:=mo) rfl (bg ⟨rfl,rfl,⟨J2,rfl⟩,⟨Dt,rfl⟩,trivial⟩)
theorem Ep :j8 Ph ext 250 oZ:=cM (ss:=mo) rfl (bg ⟨rfl,rfl,JL,Dg,trivial⟩)
theorem DL :jF Ph ext 258 oZ:=cz (ss:=mo) rfl (bg ⟨rfl,rfl,IA,By,trivial⟩)
theorem O0 :jH Ph ext 233 Dk:=cA (ss:=xr) rfl (bg ⟨⟨Ew,nofun⟩,⟨Ds,rfl⟩,rfl,trivial⟩)
theorem OQ :j8 Ph ext 229 Dk:=cM (ss:=xr) rfl (bg ⟨Ep,De,rfl,trivial⟩)
theorem NN :jF Ph ext 237 Dk:=cz (ss:=xr) rfl (bg ⟨DL,Bx,rfl,trivial⟩)
theorem JZ :jH Ph ext 267 tc:=cA (ss:=ql) rfl (bg ⟨rfl,rfl,⟨zO,rfl⟩,trivial⟩)
theorem JI :j8 Ph ext 264 tc:=cM (ss:=ql) rfl (bg ⟨rfl,rfl,zM,trivial⟩)
theorem Ix :jF Ph ext 270 tc:=cz (ss:=ql) rfl (bg ⟨rfl,rfl,zh,trivial⟩)
theorem O9 :jH Ph ext 256 Do:=cA (ss:=xx) rfl (bg ⟨⟨JZ,nofun⟩,rfl,rfl,trivial⟩)
theorem OY :j8 Ph ext 252 Do:=cM (ss:=xx) rfl (bg ⟨JI,rfl,rfl,trivial⟩)
theorem NW :jF Ph ext 260 Do:=cz (ss:=xx) rfl (bg ⟨Ix,rfl,rfl,trivial⟩)
theorem Hq :jH Ph ext 234 qL:=cA (ss:=oe) rfl (bg ⟨⟨vt,nofun⟩,rfl,⟨O9,nofun⟩,trivial⟩)
theorem Ha :j8 Ph ext 230 qL:=cM (ss:=oe) rfl (bg ⟨vq,rfl,OY,trivial⟩)
theorem FY :jF Ph ext 238 qL:=cz (ss:=oe) rfl (bg ⟨qZ,rfl,NW,trivial⟩)
theorem JR :jH Ph ext 201 s9:=cA (ss:=qi) rfl (bg ⟨rfl,rfl,⟨xh,fun _=>rfl⟩,⟨Ev,nofun⟩,⟨O0,nofun⟩,⟨Hq,nofun⟩,rfl,rfl,trivial⟩)
theorem JB :j8 Ph ext 198 s9:=cM (ss:=qi) rfl (bg ⟨rfl,rfl,xa,Eo,OQ,Ha,rfl,rfl,trivial⟩)
theorem Il :jF Ph ext 205 s9:=cz (ss:=qi) rfl (bg ⟨rfl,rfl,vH,DK,NN,FY,rfl,rfl,trivial⟩)
theorem Hj :jW Ph ext 167 iw:=ic rfl rfl rfl rfl (by decide) (by decide) JR nofun
theorem G4 :jV Ph ext 163 iw:=jl rfl rfl JB
theorem FS :jU Ph ext 171 iw:=hY rfl rfl Il
theorem LK :jW Ph ext 134 mZ:=ic rfl rfl rfl rfl (by decide) (by decide) O7 nofun
theorem Lw :jV Ph ext 128 mZ:=jl rfl rfl OV
theorem Ky :jU Ph ext 140 mZ:=hY rfl rfl NU
theorem O4 :jH Ph ext 202 Dl:=cA (ss:=xu) rfl (bg ⟨rfl,rfl,rfl,rfl,trivial⟩)
theorem OU :j8 Ph ext 199 Dl:=cM (ss:=xu) rfl (bg ⟨rfl,rfl,rfl,rfl,trivial⟩)
theorem NR :jF Ph ext 206 Dl:=cz (ss:=xu) rfl (bg ⟨rfl,rfl,rfl,rfl,trivial⟩)
theorem LI :jW Ph ext 168 lU:=ic rfl rfl rfl rfl (by decide) (by decide) O4 (fun _=>rfl)
theorem Lu :jV Ph ext 164 lU:=jl rfl rfl OU
theorem Kw :jU Ph ext 172 lU:=hY rfl rfl NR
theorem O5 :jH Ph ext 203 Hh:=cA (ss:=FK) rfl (bg ⟨rfl,rfl,rfl,trivial⟩)
theorem NS :jF Ph ext 207 Hh:=cz (ss:=FK) rfl (bg ⟨rfl,rfl,rfl,trivial⟩)
theorem LJ :jW Ph ext 169 lV:=ic rfl rfl rfl rfl (by decide) (by decide) O5 (fun _=>rfl)
theorem Lv :jV Ph ext 165 lV:=A3 rfl rfl
theorem Kx :jU Ph ext 173 lV:=hY rfl rfl NS
theorem Ht :jW Ph ext 204 jT:=Hn rfl rfl rfl (by decide)
theorem Hf :jV Ph ext 200 jT:=fun _ h _ a b=>He (aS h).1 (UI h) a b
theorem F2 :jU Ph ext 208 jT:=FV rfl rfl
theorem O8 :jH Ph ext 170 Dn:=cA (ss:=xw) rfl (bg ⟨rfl,rfl,⟨Ht,rfl⟩,rfl,trivial⟩)
theorem OX :j8 Ph ext 166 Dn:=cM (ss:=xw) rfl (bg ⟨rfl,rfl,Hf,rfl,trivial⟩)
theorem NV :jF Ph ext 174 Dn:=cz (ss:=xw) rfl (bg ⟨rfl,rfl,F2,rfl,trivial⟩)
theorem LL :jW Ph ext 137 m4:=ic rfl rfl rfl rfl (by decide) (by decide) O8 nofun
theorem Lx :jV Ph ext 131 m4:=jl rfl rfl OX
theorem Kz :jU Ph ext 143 m4:=hY rfl rfl NV
theorem Hr :jW Ph ext 138 iY:=ic rfl rfl rfl rfl (by decide) (by decide) J1 nofun
theorem Hc :jV Ph ext 132 iY:=jl rfl rfl JK
theorem FZ :jU Ph ext 144 iY:=hY rfl rfl Iz
theorem Hs :jH Ph ext 133 jS:=cA (ss:=og) rfl (bg ⟨⟨Hj,rfl⟩,trivial⟩)
theorem Hd :j8 Ph ext 127 jS:=cM (ss:=og) rfl (bg ⟨G4,trivial⟩)
theorem F1 :jF Ph ext 139 jS:=cz (ss:=og) rfl (bg ⟨FS,trivial⟩)
theorem Du :jH Ph ext 135 gR:=cA (ss:=la) rfl (bg ⟨⟨LI,rfl⟩,trivial⟩)
theorem Dj :j8 Ph ext 129 gR:=cM (ss:=la) rfl (bg ⟨Lu,trivial⟩)
theorem Bz :jF Ph ext 141 gR:=cz (ss:=la) rfl (bg ⟨Kw,trivial⟩)
theorem Hl :jH Ph ext 136 jR:=cA (ss:=n9) rfl (bg ⟨⟨LJ,rfl⟩,trivial⟩)
theorem G7 :j8 Ph ext 130 jR:=cM (ss:=n9) rfl (bg ⟨Lv,trivial⟩)
theorem FU :jF Ph ext 142 jR:=cz (ss:=n9) rfl (bg ⟨Kx,trivial⟩)
theorem LM :jH Ph ext 106 iO:=cA (ss:=tw) rfl (bg ⟨rfl,rfl,rfl,⟨Hs,nofun⟩,⟨LK,rfl⟩,rfl,⟨Du,nofun⟩,⟨Hl,nofun⟩,⟨LL,rfl⟩,⟨Hr,rfl⟩,trivial⟩)
theorem Lz :j8 Ph ext 104 iO:=cM (ss:=tw) rfl (bg ⟨rfl,rfl,rfl,Hd,Lw,rfl,Dj,G7,Lx,Hc,trivial⟩)
theorem KA :jF Ph ext 108 iO:=cz (ss:=tw) rfl (bg ⟨rfl,rfl,rfl,F1,Ky,rfl,Bz,FU,Kz,FZ,trivial⟩)
theorem cj :zP Ph ext dO 432:=Tq rfl
theorem AG :ou Ph ext dO 448 k7:=eF cj rfl rfl ⟨rfl,⟨rfl,trivial⟩⟩
theorem wC :ou Ph ext dO 474 kE:=eF cj rfl rfl ⟨rfl,trivial⟩
theorem CC :ou Ph ext dO 485 mR:=eF cj rfl rfl ⟨rfl,⟨rfl,⟨rfl,⟨rfl,⟨rfl,⟨rfl,wC,⟨rfl,trivial⟩⟩⟩⟩⟩⟩⟩
theorem Ee :ou Ph ext dO 471 nc:=eF cj rfl rfl ⟨rfl,⟨rfl,CC,trivial⟩⟩
theorem Ef :ou Ph ext dO 475 kh:=eF cj rfl rfl ⟨rfl,⟨rfl,trivial⟩⟩
theorem lO :ou Ph ext dO 447 gQ:=eF cj rfl rfl ⟨rfl,⟨rfl,⟨rfl,⟨rfl,Ef,trivial⟩⟩⟩⟩
theorem Eh :ou Ph ext dO 472 lW:=eF cj rfl rfl ⟨rfl,⟨rfl,lO,⟨rfl,trivial⟩⟩⟩
theorem yE :ou Ph ext dO 473 gP:=eF cj rfl rfl ⟨rfl,⟨rfl,trivial⟩⟩
theorem um :ou Ph ext dO 449 iT:=eF cj rfl rfl ⟨rfl,⟨rfl,⟨rfl,⟨rfl,⟨rfl,⟨rfl,⟨rfl,trivial⟩⟩⟩⟩⟩⟩⟩
theorem CB :ou Ph ext dO 441 iw:=eF cj rfl rfl ⟨rfl,⟨rfl,⟨rfl,⟨rfl,⟨rfl,⟨rfl,⟨rfl,Ee,⟨rfl,⟨rfl,⟨rfl,Eh,⟨rfl,yE,⟨rfl,wC,⟨rfl,⟨rfl,⟨rfl,lO,⟨rfl,⟨rfl,⟨rfl,⟨rfl,⟨rfl,um,⟨rfl,⟨rfl,⟨rfl,⟨rfl,trivial⟩⟩⟩⟩⟩⟩⟩⟩⟩⟩⟩⟩⟩⟩⟩⟩⟩⟩⟩⟩⟩⟩⟩⟩
theorem Gw :ou Ph ext dO 446 lV:=eF cj rfl rfl ⟨rfl,⟨rfl,⟨rfl,trivial⟩⟩⟩
theorem CE :Ka Ph ext dO 429 jR:=sM (ss:=[.l lV 446]) rfl rfl ⟨Gw,trivial⟩
theorem Eg :ou Ph ext dO 443 nf:=eF cj rfl rfl ⟨rfl,⟨rfl,⟨rfl,⟨rfl,trivial⟩⟩⟩⟩
theorem IZ :ou Ph ext dO 444 rV:=eF cj rfl rfl ⟨rfl,trivial⟩
theorem CG :ou Ph ext dO 442 mS:=eF cj rfl rfl ⟨rfl,⟨rfl,trivial⟩⟩
theorem Gv :ou Ph ext dO 445 lU:=eF cj rfl rfl ⟨rfl,⟨rfl,⟨rfl,⟨rfl,trivial⟩⟩⟩⟩
theorem yF :Ka Ph ext dO 428 gR:=sM (ss:=[.l lU 445]) rfl rfl ⟨Gv,trivial⟩
theorem Gx :ou Ph ext dO 427 mZ:=eF cj rfl rfl ⟨rfl,⟨rfl,⟨rfl,⟨rfl,⟨rfl,CG,⟨rfl,Eg,⟨rfl,⟨rfl,IZ,⟨rfl,⟨rfl,⟨rfl,trivial⟩⟩⟩⟩⟩⟩⟩⟩⟩⟩⟩
theorem CH :ou Ph ext dO 431 iY:=eF cj rfl rfl ⟨rfl,⟨rfl,lO,⟨rfl,⟨rfl,AG,⟨rfl,um,trivial⟩⟩⟩⟩⟩
theorem CL :ou Ph ext dO 421 jT:=eF cj rfl rfl ⟨rfl,trivial⟩
theorem Gy :ou Ph ext dO 430 m4:=eF cj rfl rfl ⟨rfl,⟨rfl,⟨rfl,CL,⟨rfl,trivial⟩⟩⟩⟩
theorem CJ :Ka Ph ext dO 426 jS:=sM (ss:=[.l iw 441]) rfl rfl ⟨CB,trivial⟩
theorem Gz :Ka Ph ext dO 539 jm:=sM (ss:=[.k [.str], .l gQ 447, .k [.int .i64]]) rfl rfl ⟨rfl,⟨lO,⟨rfl,trivial⟩⟩⟩
theorem GA :Ka Ph ext dO 420 iO:=sM (ss:=[.k [.int .i64, .bool, .int .i64], .s jS 426, .l mZ 427, .k [.int .i64], .s gR 428, .s jR 429, .l m4 430, .l iY 431]) rfl rfl ⟨rfl,⟨CJ,⟨Gx,⟨rfl,⟨yF,⟨CE,⟨Gy,⟨CH,trivial⟩⟩⟩⟩⟩⟩⟩⟩
theorem Ec :xj Ph ext dO 484 kh:=IK cj rfl ⟨rfl,⟨rfl,trivial⟩⟩
theorem Gg :xj Ph ext dO 468 gQ:=IK cj rfl ⟨rfl,⟨rfl,⟨rfl,⟨rfl,Ec,trivial⟩⟩⟩⟩
theorem Gh :SO Ph ext dO 540 jm:=P0 (ss:=[.k [.str], .l gQ 468, .k [.int .i64]]) rfl ⟨rfl,⟨Gg,⟨rfl,trivial⟩⟩⟩
end
end Gi
