/- Of this proof. -/
import Derived.Test.YtebnmoogdmpepaaGreatGta
set_option linter.unusedSimpArgs false
set_option linter.unusedVariables false
namespace Gi
open Go Go.RowKit
attribute [local simp] start f9 aw ah aJ bf bJ cI Opd.ev put V.cells plain bA fR isInt isStr isBool bin cK un asList L.view aj V.view viewL done aW am cF bS comp aQ bI ai V.flat L.flat db da bB putAt thaw thawL freezeVs freezeLs freezeL V.mut L.mut aH aP
theorem BE {f g:St→Option (Ex×St)}(h:g=f)(σ:St):aL f σ=(match g σ with
 |some (.normal,σ')=>aL f σ'
 |r=>r):=by rw[h];exact vp f σ
theorem SL :fg []=0:=by simp only[fg]
theorem wv (p:PV)(ps:List PV):fg (p::ps)=sz p+fg ps:=by simp only[fg]
theorem eQ (s:List UInt8):sz (.str s)=s.length:=by simp only[sz]
theorem Ah :∀(l m:List PV),fg (l++m)=fg l+fg m
 |[],m=>by rw[Zi,SL,Yc]
 |p::l,m=>by rw[Zg,wv,wv,Ah l m,Xn]
theorem bT :∀{l:List PV}{i:Nat}{p:PV},l[i]? =some p→sz p≤fg l
 |[],_,_,h=>by simp at h
 |q::l,0,p,h=>by simp at h;subst h;rw[wv];exact Xe _ _
 |q::l,i+1,p,h=>by rw[wv];exact Zc (bT (l:=l) (i:=i) (by simpa using h)) (Nat.le_add_left _ _)
def Rm (x:Option (Ex×St))(Q:Ex→St→Prop):Prop:=
 match x with
 |some (e,σ)=>Q e σ
 |none=>False
theorem Rm.get {x:Option (Ex×St)}{Q:Ex→St→Prop}(h:Rm x Q):∃e σ,x=some (e,σ)∧Q e σ:=by
 unfold Rm at h
 split at h
 ·exact⟨_,_,rfl,h⟩
 ·exact h.elim
theorem HU {e:Ex}{σ:St}{Q:Ex→St→Prop}:Rm (some (e,σ)) Q=Q e σ:=rfl
section
variable {ext:Nat→List V→Option V}
theorem N3 {rows:List (List PV)}(hl:rows.length≤maxLen)(hr:∀r∈rows,∃s:List UInt8,r=[.str s]∧s.length≤maxLen):∀(m k:Nat)(i:Int),i=k→k+m=rows.length→∀(left:Int),0≤left→left≤1048576→∀(x2 x3 x4 x6 x7 x8 x9 x10 x11 x12 x13 x14 x15 x16 x17 x18 x19 x20 x21 x22 x23 x24 x25 x26 x27:V)(h:List AObj),
 Rm (aL (aw (ag Ph ext) aL eG) ⟨(cA rows::aa .i64 left::x2::x3::x4::aa .i64 i::x6::x7::x8::x9::x10::x11::x12::x13::x14::x15::x16::x17::x18::x19::x20::x21::x22::x23::x24::x25::x26::x27::[]),h⟩) fun e σ'=>σ'.h=h∧σ'.t.length=28∧((e= .exit 0∧0≤less left (cM (rows.drop k))∧σ'.t[1]? =some (aa .i64 (less left (cM (rows.drop k)))))∨(e= .ret∧less left (cM (rows.drop k))= -1∧σ'.t[4]? =some (aa .i64 (-1)))):=by
 generalize hF:aw (ag Ph ext) aL eG=F
 intro m
 induction m with
 |zero=>
  intro k i hi hk left h0 h1 x2 x3 x4 x6 x7 x8 x9 x10 x11 x12 x13 x14 x15 x16 x17 x18 x19 x20 x21 x22 x23 x24 x25 x26 x27 h
  subst hi
  have hk':k=rows.length:=by omega
  subst hk'
  have hl0:less left (cM (rows.drop rows.length))=left:=by simp[cM,less];omega
  rw[hl0,BE hF]
  simp[eG,jx,h0,HU]
 |succ m ih=>
  intro k i hi hk left h0 h1 x2 x3 x4 x6 x7 x8 x9 x10 x11 x12 x13 x14 x15 x16 x17 x18 x19 x20 x21 x22 x23 x24 x25 x26 x27 h
  subst hi
  have hlt:k<rows.length:=by omega
  have hw:=kK (k:=k) (by unfold maxLen at hl;omega)
  obtain⟨s,hrk,hs⟩:=hr _ (Zf hlt)
  unfold maxLen at hs
  have hw2:IntKind.i64.wrap (left-(s.length:Int))=left-(s.length:Int):=by rw[IntKind.wrap_i64];omega
  rw[Cu hlt,hrk]
  have hsz:fg [PV.str s]=s.length:=by simp[fg,sz]
  rw[hsz]
  by_cases hneg:left<(s.length:Int)
  ·have e1:less left (s.length+cM (rows.drop (k+1)))= -1:=by unfold less;rw[if_pos (by omega)]
   rw[e1,BE hF]
   have hn:left-(s.length:Int)<0:=by omega
   simp[eG,jx,hlt,hrk,hw,hw2,hn,HU]
  ·have hn:¬left-(s.length:Int)<0:=by omega
   have key:=ih (k+1) ((k:Int)+1) (by omega) (by omega) (left-s.length) (by omega) (by omega)
   have e1:less (left-s.length) (cM (rows.drop (k+1)))=less left (s.length+cM (rows.drop (k+1))):=by
    have:left-(s.length:Int)=less left s.length:=by unfold less;rw[if_neg hneg]
    rw[this];exact tk (by rw[←this];omega)
   rw[e1]at key
   clear ih
   rw[BE hF]
   simp[eG,jx,hlt,hrk,hw,hw2,hn]
   exact key _ _ _ _ _ _ _ _ _ _ _ _ _ _ _ _ _ _ _ _ _ _ _ _ _ _
theorem JZ {rows:List (List PV)}(hl:rows.length≤maxLen)(hr:∀r∈rows,∃s:List UInt8,r=[.str s]∧s.length≤maxLen){left:Int}(h0:0≤left)(h1:left≤1048576):ag Ph ext 200 [cA rows,aa .i64 left]=some (aa .i64 (less left (sz (.lst rows)))):=by
 refine fJ (fn:=iY) rfl ?_
 have hw:IntKind.i64.wrap (left-rows.length)=left-rows.length:=by unfold maxLen at hl;rw[IntKind.wrap_i64];omega
 rw[ly]
 by_cases hn:left<rows.length
 ·have hn':left-(rows.length:Int)<0:=by omega
  have e:less left (rows.length+cM rows)= -1:=by unfold less;rw[if_pos (by omega)]
  rw[e]
  generalize hF:aw (ag Ph ext) aL eG=F
  simp[iY,jx,hF,hw,hn']
 ·have hn':¬left-(rows.length:Int)<0:=by omega
  have hle:left-(rows.length:Int)=less left rows.length:=by unfold less;rw[if_neg hn]
  obtain⟨e,⟨t',h'⟩,q1,q2,q5,q3⟩:=(N3 (ext:=ext) hl hr rows.length 0 0 rfl (by omega) (left-rows.length) (by omega) (by omega) (.tup []) (.tup []) (aa .i64 0) (aa .i64 left) (cA rows) (aa .i64 rows.length) (aa .i64 (left-rows.length)) (aa .i64 (left-rows.length)) (aA false) (.tup []) (.tup []) (.tup []) (.tup []) (.tup []) (.tup []) (.tup []) (.tup []) (.tup []) (.tup []) (.tup []) (.tup []) (.tup []) (.tup []) (.tup []) (.tup []) []).get
  simp only[List.drop_zero]at q3
  have hls:less (left-rows.length) (cM rows)=less left (rows.length+cM rows):=by rw[hle];exact tk (by rw[←hle];omega)
  rw[hls]at q3
  simp at q5
  rcases q3 with⟨rfl,_,q4⟩|⟨rfl,q6,q4⟩
  ·obtain⟨_,q7⟩:=Zb.1 q4
   simp[iY,jx,hw,hn',q1,q5,q7]
  ·obtain⟨_,q7⟩:=Zb.1 q4
   simp[iY,jx,hw,hn',q1,q5,q7,q6]
end
end Gi
namespace Gi
open Go Go.RowKit
set_option maxRecDepth 4000
abbrev V2 :PTy→Type
 | .int _=>Int
 | .bool=>Bool
 | .str=>List UInt8
 | .lst _=>List (List PV)
abbrev Ud :(t:PTy)→V2 t→PV
 | .int k,n=> .int k n
 | .bool,b=> .bool b
 | .str,s=> .str s
 | .lst _,l=> .lst l
abbrev Td :List PTy→Type
 |[]=>Unit
 |t::ts=>V2 t×Td ts
abbrev Vt :(ts:List PTy)→Td ts→List PV
 |[],_=>[]
 |t::ts,(x,y)=>Ud t x::Vt ts y
def U3 :(ts:List PTy)→Td ts→Prop
 |[],_=>True
 |t::ts,(x,y)=>oQ t (Ud t x)∧U3 ts y
theorem cJ :∀{ts:List PTy}{r:List PV},bM ts r→∃x:Td ts,r=Vt ts x∧U3 ts x
 |[],r,h=>⟨(),fF h,trivial⟩
 |t::ts,r,h=>by
  obtain⟨p,q,rfl,g,k⟩:=eD h
  obtain⟨y,rfl,l⟩:=cJ k
  cases t with
  |int=>obtain⟨n,rfl⟩:=mP g;exact⟨(n,y),rfl,g,l⟩
  |bool=>obtain⟨n,rfl⟩:=lB g;exact⟨(n,y),rfl,g,l⟩
  |str=>obtain⟨n,rfl⟩:=kM g;exact⟨(n,y),rfl,g,l⟩
  |lst=>obtain⟨n,rfl⟩:=oE g;exact⟨(n,y),rfl,g,l⟩
section
variable {ext:Nat→List V→Option V}
theorem V1 {rows:List (List PV)}(h:oQ (.lst jk) (.lst rows)):∀r∈rows,∃s:List UInt8,r=[.str s]∧s.length≤maxLen:=by
 obtain⟨_,hr⟩:=bw h
 intro r m
 obtain⟨⟨c0,_⟩,rfl,g0,_⟩:=cJ (hr r m)
 exact⟨c0,rfl,g0⟩
theorem N9 :kN Ph ext 89 Ak:=dk (ss:=vY) rfl (bQ ⟨rfl,rfl,trivial⟩)
theorem NT :lC Ph ext 87 Ak:=dA (ss:=vY) rfl (bQ ⟨rfl,rfl,trivial⟩)
theorem Nb :kL Ph ext 91 Ak:=dj (ss:=vY) rfl (bQ ⟨rfl,rfl,trivial⟩)
theorem My :k6 Ph ext 66 lH:=iP rfl rfl rfl rfl (by decide) (by decide) N9 (fun _=>rfl)
theorem Mf :kZ Ph ext 64 lH:=kh rfl rfl NT
theorem K4 :kY Ph ext 69 lH:=iK rfl rfl Nb
theorem MA :kN Ph ext 34 Im:=dk (ss:=H3) rfl (bQ ⟨rfl,rfl,rfl,trivial⟩)
theorem Mh :lC Ph ext 30 Im:=dA (ss:=H3) rfl (bQ ⟨rfl,rfl,rfl,trivial⟩)
theorem K8 :kL Ph ext 38 Im:=dj (ss:=H3) rfl (bQ ⟨rfl,rfl,rfl,trivial⟩)
theorem ME :kN Ph ext 35 vQ:=dk (ss:=ta) rfl (bQ ⟨⟨My,rfl⟩,trivial⟩)
theorem Ml :lC Ph ext 31 vQ:=dA (ss:=ta) rfl (bQ ⟨Mf,trivial⟩)
theorem Ld :kL Ph ext 39 vQ:=dj (ss:=ta) rfl (bQ ⟨K4,trivial⟩)
theorem Q4 :kN Ph ext 7 BX:=dk (ss:=AA) rfl (bQ ⟨⟨MA,fun _=>rfl⟩,⟨ME,nofun⟩,trivial⟩)
theorem QV :lC Ph ext 5 BX:=dA (ss:=AA) rfl (bQ ⟨Mh,Ml,trivial⟩)
theorem P4 :kL Ph ext 9 BX:=dj (ss:=AA) rfl (bQ ⟨K8,Ld,trivial⟩)
theorem MB :kN Ph ext 73 vO:=dk (ss:=sY) rfl (bQ ⟨rfl,rfl,trivial⟩)
theorem Mi :lC Ph ext 70 vO:=dA (ss:=sY) rfl (bQ ⟨rfl,rfl,trivial⟩)
theorem K9 :kL Ph ext 76 vO:=dj (ss:=sY) rfl (bQ ⟨rfl,rfl,trivial⟩)
theorem J9 :k6 Ph ext 42 kX:=iP rfl rfl rfl rfl (by decide) (by decide) MB (fun _=>rfl)
theorem JS :kZ Ph ext 40 kX:=kh rfl rfl Mi
theorem I3 :kY Ph ext 44 kX:=iK rfl rfl K9
theorem Oa :kN Ph ext 93 Am:=dk (ss:=vZ) rfl (bQ ⟨rfl,rfl,rfl,rfl,trivial⟩)
theorem NU :lC Ph ext 92 Am:=dA (ss:=vZ) rfl (bQ ⟨rfl,rfl,rfl,rfl,trivial⟩)
theorem Nc :kL Ph ext 94 Am:=dj (ss:=vZ) rfl (bQ ⟨rfl,rfl,rfl,rfl,trivial⟩)
theorem Mz :k6 Ph ext 74 lI:=iP rfl rfl rfl rfl (by decide) (by decide) Oa (fun _=>rfl)
theorem Mg :kZ Ph ext 71 lI:=kh rfl rfl NU
theorem K7 :kY Ph ext 77 lI:=iK rfl rfl Nc
theorem Q3 :k6 Ph ext 75 rl:=J8 rfl rfl rfl (by decide)
theorem QU :kZ Ph ext 72 rl:=DW rfl rfl
theorem P3 :kY Ph ext 78 rl:=I2 rfl rfl
theorem Ka :kN Ph ext 43 tD:=dk (ss:=p5) rfl (bQ ⟨⟨Mz,rfl⟩,rfl,⟨Q3,rfl⟩,rfl,rfl,rfl,trivial⟩)
theorem JU :lC Ph ext 41 tD:=dA (ss:=p5) rfl (bQ ⟨Mg,rfl,QU,rfl,rfl,rfl,trivial⟩)
theorem I4 :kL Ph ext 45 tD:=dj (ss:=p5) rfl (bQ ⟨K7,rfl,P3,rfl,rfl,rfl,trivial⟩)
theorem Q8 :kN Ph ext 12 Gu:=dk (ss:=AC) rfl (bQ ⟨rfl,rfl,rfl,rfl,⟨J9,rfl⟩,⟨Ka,nofun⟩,trivial⟩)
theorem QX :lC Ph ext 10 Gu:=dA (ss:=AC) rfl (bQ ⟨rfl,rfl,rfl,rfl,JS,JU,trivial⟩)
theorem P8 :kL Ph ext 14 Gu:=dj (ss:=AC) rfl (bQ ⟨rfl,rfl,rfl,rfl,I3,I4,trivial⟩)
theorem Ob :k6 Ph ext 53 lY:=iP rfl rfl rfl rfl (by decide) (by decide) Q4 nofun
theorem NV :kZ Ph ext 52 lY:=kh rfl rfl QV
theorem Nf :kY Ph ext 55 lY:=iK rfl rfl P4
theorem J3 :kN Ph ext 80 ww:=dk (ss:=vW) rfl (bQ ⟨rfl,rfl,trivial⟩)
theorem IY :kL Ph ext 82 ww:=dj (ss:=vW) rfl (bQ ⟨rfl,rfl,trivial⟩)
theorem HJ :k6 Ph ext 48 jD:=iP rfl rfl rfl rfl (by decide) (by decide) J3 (fun _=>rfl)
theorem HD :kZ Ph ext 46 jD:=DW rfl rfl
theorem GU :kY Ph ext 50 jD:=iK rfl rfl IY
theorem Oh :kN Ph ext 81 wx:=dk (ss:=wb) rfl (bQ ⟨rfl,rfl,⟨MA,fun _=>rfl⟩,rfl,rfl,trivial⟩)
theorem N5 :lC Ph ext 79 wx:=dA (ss:=wb) rfl (bQ ⟨rfl,rfl,Mh,rfl,rfl,trivial⟩)
theorem Nk :kL Ph ext 83 wx:=dj (ss:=wb) rfl (bQ ⟨rfl,rfl,K8,rfl,rfl,trivial⟩)
theorem Cz :k6 Ph ext 49 iB:=iP rfl rfl rfl rfl (by decide) (by decide) Oh (fun _=>rfl)
theorem Cx :kZ Ph ext 47 iB:=kh rfl rfl N5
theorem B7 :kY Ph ext 51 iB:=iK rfl rfl Nk
theorem yz :kN Ph ext 22 ur:=dk (ss:=v7) rfl (bQ ⟨rfl,⟨Ob,rfl⟩,rfl,trivial⟩)
theorem yy :lC Ph ext 20 ur:=dA (ss:=v7) rfl (bQ ⟨rfl,NV,rfl,trivial⟩)
theorem xA :kL Ph ext 24 ur:=dj (ss:=v7) rfl (bQ ⟨rfl,Nf,rfl,trivial⟩)
theorem MF :kN Ph ext 17 vR:=dk (ss:=tb) rfl (bQ ⟨⟨yz,nofun⟩,⟨HJ,rfl⟩,⟨Cz,rfl⟩,trivial⟩)
theorem Mm :lC Ph ext 15 vR:=dA (ss:=tb) rfl (bQ ⟨yy,HD,Cx,trivial⟩)
theorem Le :kL Ph ext 19 vR:=dj (ss:=tb) rfl (bQ ⟨xA,GU,B7,trivial⟩)
theorem MG :k6 Ph ext 60 kI:=iP rfl rfl rfl rfl (by decide) (by decide) yz nofun
theorem Mn :kZ Ph ext 57 kI:=kh rfl rfl yy
theorem Lf :kY Ph ext 63 kI:=iK rfl rfl xA
theorem GB :k6 Ph ext 255 ki:=J8 rfl rfl rfl (by decide)
theorem Gj :kZ Ph ext 251 ki:=DW rfl rfl
theorem Ep :kY Ph ext 259 ki:=I2 rfl rfl
theorem HO :kN Ph ext 281 rm:=dk (ss:=nS) rfl (bQ ⟨rfl,rfl,rfl,⟨GB,rfl⟩,rfl,trivial⟩)
theorem HI :lC Ph ext 280 rm:=dA (ss:=nS) rfl (bQ ⟨rfl,rfl,rfl,Gj,rfl,trivial⟩)
theorem GY :kL Ph ext 282 rm:=dj (ss:=nS) rfl (bQ ⟨rfl,rfl,rfl,Ep,rfl,trivial⟩)
theorem Mx :kN Ph ext 278 vN:=dk (ss:=sX) rfl (bQ ⟨rfl,rfl,⟨HO,nofun⟩,trivial⟩)
theorem Me :lC Ph ext 277 vN:=dA (ss:=sX) rfl (bQ ⟨rfl,rfl,HI,trivial⟩)
theorem K3 :kL Ph ext 279 vN:=dj (ss:=sX) rfl (bQ ⟨rfl,rfl,GY,trivial⟩)
theorem J5 :k6 Ph ext 273 kW:=iP rfl rfl rfl rfl (by decide) (by decide) Mx nofun
theorem JQ :kZ Ph ext 271 kW:=kh rfl rfl Me
theorem I0 :kY Ph ext 275 kW:=iK rfl rfl K3
theorem N8 :kN Ph ext 265 Aj:=dk (ss:=vX) rfl (bQ ⟨rfl,⟨J5,rfl⟩,trivial⟩)
theorem NS :lC Ph ext 262 Aj:=dA (ss:=vX) rfl (bQ ⟨rfl,JQ,trivial⟩)
theorem Na :kL Ph ext 268 Aj:=dj (ss:=vX) rfl (bQ ⟨rfl,I0,trivial⟩)
theorem Mw :k6 Ph ext 253 lG:=iP rfl rfl rfl rfl (by decide) (by decide) N8 nofun
theorem Mc :kZ Ph ext 249 lG:=kh rfl rfl NS
theorem K2 :kY Ph ext 257 lG:=iK rfl rfl Na
theorem HM :kN Ph ext 274 rj:=dk (ss:=nR) rfl (bQ ⟨rfl,rfl,trivial⟩)
theorem HG :lC Ph ext 272 rj:=dA (ss:=nR) rfl (bQ ⟨rfl,rfl,trivial⟩)
theorem GX :kL Ph ext 276 rj:=dj (ss:=nR) rfl (bQ ⟨rfl,rfl,trivial⟩)
theorem GC :k6 Ph ext 266 gi:=iP rfl rfl rfl rfl (by decide) (by decide) HM (fun _=>rfl)
theorem Gl :kZ Ph ext 263 gi:=kh rfl rfl HG
theorem Er :kY Ph ext 269 gi:=iK rfl rfl GX
theorem Ap :kN Ph ext 231 kH:=dk (ss:=iU) rfl (bQ ⟨rfl,rfl,rfl,rfl,trivial⟩)
theorem Ai :lC Ph ext 227 kH:=dA (ss:=iU) rfl (bQ ⟨rfl,rfl,rfl,rfl,trivial⟩)
theorem yJ :kL Ph ext 235 kH:=dj (ss:=iU) rfl (bQ ⟨rfl,rfl,rfl,rfl,trivial⟩)
theorem HK :kN Ph ext 232 rf:=dk (ss:=nP) rfl (bQ ⟨⟨Mw,rfl⟩,trivial⟩)
theorem HE :lC Ph ext 228 rf:=dA (ss:=nP) rfl (bQ ⟨Mc,trivial⟩)
theorem GV :kL Ph ext 236 rf:=dj (ss:=nP) rfl (bQ ⟨K2,trivial⟩)
theorem HL :kN Ph ext 254 rh:=dk (ss:=nQ) rfl (bQ ⟨rfl,rfl,⟨MG,rfl⟩,⟨GC,rfl⟩,trivial⟩)
theorem HF :lC Ph ext 250 rh:=dA (ss:=nQ) rfl (bQ ⟨rfl,rfl,Mn,Gl,trivial⟩)
theorem GW :kL Ph ext 258 rh:=dj (ss:=nQ) rfl (bQ ⟨rfl,rfl,Lf,Er,trivial⟩)
theorem Q2 :kN Ph ext 233 Gs:=dk (ss:=Az) rfl (bQ ⟨⟨HL,nofun⟩,⟨GB,rfl⟩,rfl,trivial⟩)
theorem QT :lC Ph ext 229 Gs:=dA (ss:=Az) rfl (bQ ⟨HF,Gj,rfl,trivial⟩)
theorem P1 :kL Ph ext 237 Gs:=dj (ss:=Az) rfl (bQ ⟨GW,Ep,rfl,trivial⟩)
theorem MD :kN Ph ext 267 vP:=dk (ss:=sZ) rfl (bQ ⟨rfl,rfl,⟨Cz,rfl⟩,trivial⟩)
theorem Mj :lC Ph ext 264 vP:=dA (ss:=sZ) rfl (bQ ⟨rfl,rfl,Cx,trivial⟩)
theorem Lc :kL Ph ext 270 vP:=dj (ss:=sZ) rfl (bQ ⟨rfl,rfl,B7,trivial⟩)
theorem Ra :kN Ph ext 256 Gw:=dk (ss:=AE) rfl (bQ ⟨⟨MD,nofun⟩,rfl,rfl,trivial⟩)
theorem QZ :lC Ph ext 252 Gw:=dA (ss:=AE) rfl (bQ ⟨Mj,rfl,rfl,trivial⟩)
theorem Qa :kL Ph ext 260 Gw:=dj (ss:=AE) rfl (bQ ⟨Lc,rfl,rfl,trivial⟩)
theorem Kb :kN Ph ext 234 mO:=dk (ss:=p6) rfl (bQ ⟨⟨yz,nofun⟩,rfl,⟨Ra,nofun⟩,trivial⟩)
theorem JV :lC Ph ext 230 mO:=dA (ss:=p6) rfl (bQ ⟨yy,rfl,QZ,trivial⟩)
theorem I5 :kL Ph ext 238 mO:=dj (ss:=p6) rfl (bQ ⟨xA,rfl,Qa,trivial⟩)
theorem Mv :kN Ph ext 201 vM:=dk (ss:=sW) rfl (bQ ⟨rfl,rfl,⟨Ap,fun _=>rfl⟩,⟨HK,nofun⟩,⟨Q2,nofun⟩,⟨Kb,nofun⟩,rfl,rfl,trivial⟩)
theorem Mb :lC Ph ext 198 vM:=dA (ss:=sW) rfl (bQ ⟨rfl,rfl,Ai,HE,QT,JV,rfl,rfl,trivial⟩)
theorem KZ :kL Ph ext 205 vM:=dj (ss:=sW) rfl (bQ ⟨rfl,rfl,yJ,GV,P1,I5,rfl,rfl,trivial⟩)
theorem J4 :k6 Ph ext 167 eE:=iP rfl rfl rfl rfl (by decide) (by decide) Mv nofun
theorem JO :kZ Ph ext 163 eE:=kh rfl rfl Mb
theorem IZ :kY Ph ext 171 eE:=iK rfl rfl KZ
theorem Oe :k6 Ph ext 134 kj:=iP rfl rfl rfl rfl (by decide) (by decide) Q8 nofun
theorem NY :kZ Ph ext 128 kj:=kh rfl rfl QX
theorem Ni :kY Ph ext 140 kj:=iK rfl rfl P8
theorem Q5 :kN Ph ext 202 Gt:=dk (ss:=AB) rfl (bQ ⟨rfl,rfl,rfl,rfl,trivial⟩)
theorem QW :lC Ph ext 199 Gt:=dA (ss:=AB) rfl (bQ ⟨rfl,rfl,rfl,rfl,trivial⟩)
theorem P5 :kL Ph ext 206 Gt:=dj (ss:=AB) rfl (bQ ⟨rfl,rfl,rfl,rfl,trivial⟩)
theorem Oc :k6 Ph ext 168 jE:=iP rfl rfl rfl rfl (by decide) (by decide) Q5 (fun _=>rfl)
theorem NW :kZ Ph ext 164 jE:=kh rfl rfl QW
theorem Ng :kY Ph ext 172 jE:=iK rfl rfl P5
theorem Q6 :kN Ph ext 203 J2:=dk (ss:=IU) rfl (bQ ⟨rfl,rfl,rfl,trivial⟩)
theorem P6 :kL Ph ext 207 J2:=dj (ss:=IU) rfl (bQ ⟨rfl,rfl,rfl,trivial⟩)
theorem Od :k6 Ph ext 169 jF:=iP rfl rfl rfl rfl (by decide) (by decide) Q6 (fun _=>rfl)
theorem NX :kZ Ph ext 165 jF:=DW rfl rfl
theorem Nh :kY Ph ext 173 jF:=iK rfl rfl P6
theorem Ke :k6 Ph ext 204 jk:=J8 rfl rfl rfl (by decide)
theorem J0 :kZ Ph ext 200 jk:=fun _ h _ a b=>JZ (bw h).1 (V1 h) a b
theorem I8 :kY Ph ext 208 jk:=I2 rfl rfl
theorem Q9 :kN Ph ext 170 Gv:=dk (ss:=AD) rfl (bQ ⟨rfl,rfl,⟨Ke,rfl⟩,rfl,trivial⟩)
theorem QY :lC Ph ext 166 Gv:=dA (ss:=AD) rfl (bQ ⟨rfl,rfl,J0,rfl,trivial⟩)
theorem P9 :kL Ph ext 174 Gv:=dj (ss:=AD) rfl (bQ ⟨rfl,rfl,I8,rfl,trivial⟩)
theorem Of :k6 Ph ext 137 kl:=iP rfl rfl rfl rfl (by decide) (by decide) Q9 nofun
theorem NZ :kZ Ph ext 131 kl:=kh rfl rfl QY
theorem Nj :kY Ph ext 143 kl:=iK rfl rfl P9
theorem Kc :k6 Ph ext 138 gz:=iP rfl rfl rfl rfl (by decide) (by decide) MF nofun
theorem JX :kZ Ph ext 132 gz:=kh rfl rfl Mm
theorem I6 :kY Ph ext 144 gz:=iK rfl rfl Le
theorem Kd :kN Ph ext 133 io:=dk (ss:=p7) rfl (bQ ⟨⟨J4,rfl⟩,trivial⟩)
theorem JY :lC Ph ext 127 io:=dA (ss:=p7) rfl (bQ ⟨JO,trivial⟩)
theorem I7 :kL Ph ext 139 io:=dj (ss:=p7) rfl (bQ ⟨IZ,trivial⟩)
theorem GD :kN Ph ext 135 fC:=dk (ss:=mL) rfl (bQ ⟨⟨Oc,rfl⟩,trivial⟩)
theorem Gq :lC Ph ext 129 fC:=dA (ss:=mL) rfl (bQ ⟨NW,trivial⟩)
theorem Es :kL Ph ext 141 fC:=dj (ss:=mL) rfl (bQ ⟨Ng,trivial⟩)
theorem J6 :kN Ph ext 136 il:=dk (ss:=p4) rfl (bQ ⟨⟨Od,rfl⟩,trivial⟩)
theorem JR :lC Ph ext 130 il:=dA (ss:=p4) rfl (bQ ⟨NX,trivial⟩)
theorem I1 :kL Ph ext 142 il:=dj (ss:=p4) rfl (bQ ⟨Nh,trivial⟩)
theorem Og :kN Ph ext 106 fE:=dk (ss:=wa) rfl (bQ ⟨rfl,rfl,rfl,⟨Kd,nofun⟩,⟨Oe,rfl⟩,rfl,⟨GD,nofun⟩,⟨J6,nofun⟩,⟨Of,rfl⟩,⟨Kc,rfl⟩,trivial⟩)
theorem N4 :lC Ph ext 104 fE:=dA (ss:=wa) rfl (bQ ⟨rfl,rfl,rfl,JY,NY,rfl,Gq,JR,NZ,JX,trivial⟩)
theorem Et :kL Ph ext 108 fE:=dj (ss:=wa) rfl (bQ ⟨rfl,rfl,rfl,I7,Ni,rfl,Es,I1,Nj,I6,trivial⟩)
theorem bh :CB Ph ext az 432:=UQ rfl
theorem Dt :qd Ph ext az 448 jD:=fu bh rfl rfl ⟨rfl,⟨rfl,trivial⟩⟩
theorem zP :qd Ph ext az 474 ki:=fu bh rfl rfl ⟨rfl,trivial⟩
theorem FL :qd Ph ext az 485 kW:=fu bh rfl rfl ⟨rfl,⟨rfl,⟨rfl,⟨rfl,⟨rfl,⟨rfl,zP,⟨rfl,trivial⟩⟩⟩⟩⟩⟩⟩
theorem Hs :qd Ph ext az 471 lG:=fu bh rfl rfl ⟨rfl,⟨rfl,FL,trivial⟩⟩
theorem Ht :qd Ph ext az 475 lH:=fu bh rfl rfl ⟨rfl,⟨rfl,trivial⟩⟩
theorem uh :qd Ph ext az 447 lY:=fu bh rfl rfl ⟨rfl,⟨rfl,⟨rfl,⟨rfl,Ht,trivial⟩⟩⟩⟩
theorem Hv :qd Ph ext az 472 kI:=fu bh rfl rfl ⟨rfl,⟨rfl,uh,⟨rfl,trivial⟩⟩⟩
theorem BH :qd Ph ext az 473 gi:=fu bh rfl rfl ⟨rfl,⟨rfl,trivial⟩⟩
theorem xj :qd Ph ext az 449 iB:=fu bh rfl rfl ⟨rfl,⟨rfl,⟨rfl,⟨rfl,⟨rfl,⟨rfl,⟨rfl,trivial⟩⟩⟩⟩⟩⟩⟩
theorem vq :qd Ph ext az 441 eE:=fu bh rfl rfl ⟨rfl,⟨rfl,⟨rfl,⟨rfl,⟨rfl,⟨rfl,⟨rfl,Hs,⟨rfl,⟨rfl,⟨rfl,Hv,⟨rfl,BH,⟨rfl,zP,⟨rfl,⟨rfl,⟨rfl,uh,⟨rfl,⟨rfl,⟨rfl,⟨rfl,⟨rfl,xj,⟨rfl,⟨rfl,⟨rfl,⟨rfl,trivial⟩⟩⟩⟩⟩⟩⟩⟩⟩⟩⟩⟩⟩⟩⟩⟩⟩⟩⟩⟩⟩⟩⟩⟩
theorem Jv :qd Ph ext az 446 jF:=fu bh rfl rfl ⟨rfl,⟨rfl,⟨rfl,trivial⟩⟩⟩
theorem vt :Pt Ph ext az 429 il:=zQ (ss:=[.l jF 446]) rfl rfl ⟨Jv,trivial⟩
theorem Hu :qd Ph ext az 443 lI:=fu bh rfl rfl ⟨rfl,⟨rfl,⟨rfl,⟨rfl,trivial⟩⟩⟩⟩
theorem LC :qd Ph ext az 444 rl:=fu bh rfl rfl ⟨rfl,trivial⟩
theorem FM :qd Ph ext az 442 kX:=fu bh rfl rfl ⟨rfl,⟨rfl,trivial⟩⟩
theorem Ju :qd Ph ext az 445 jE:=fu bh rfl rfl ⟨rfl,⟨rfl,⟨rfl,⟨rfl,trivial⟩⟩⟩⟩
theorem tq :Pt Ph ext az 428 fC:=zQ (ss:=[.l jE 445]) rfl rfl ⟨Ju,trivial⟩
theorem zR :qd Ph ext az 427 kj:=fu bh rfl rfl ⟨rfl,⟨rfl,⟨rfl,⟨rfl,⟨rfl,FM,⟨rfl,Hu,⟨rfl,⟨rfl,LC,⟨rfl,⟨rfl,⟨rfl,trivial⟩⟩⟩⟩⟩⟩⟩⟩⟩⟩⟩
theorem qU :qd Ph ext az 431 gz:=fu bh rfl rfl ⟨rfl,⟨rfl,uh,⟨rfl,⟨rfl,Dt,⟨rfl,xj,trivial⟩⟩⟩⟩⟩
theorem FN :qd Ph ext az 421 jk:=fu bh rfl rfl ⟨rfl,trivial⟩
theorem uj :qd Ph ext az 430 kl:=fu bh rfl rfl ⟨rfl,⟨rfl,⟨rfl,FN,⟨rfl,trivial⟩⟩⟩⟩
theorem vu :Pt Ph ext az 426 io:=zQ (ss:=[.l eE 441]) rfl rfl ⟨vq,trivial⟩
theorem Jw :Pt Ph ext az 420 fE:=zQ (ss:=[.k [.int .i64, .bool, .int .i64], .s io 426, .l kj 427, .k [.int .i64], .s fC 428, .s il 429, .l kl 430, .l gz 431]) rfl rfl ⟨rfl,⟨vu,⟨zR,⟨rfl,⟨tq,⟨vt,⟨uj,⟨qU,trivial⟩⟩⟩⟩⟩⟩⟩⟩
theorem Dn :gX Ph ext az 469 jD:=fq bh rfl ⟨rfl,⟨rfl,trivial⟩⟩
theorem zw :gX Ph ext az 483 ki:=fq bh rfl ⟨rfl,trivial⟩
theorem Fs :gX Ph ext az 494 kW:=fq bh rfl ⟨rfl,⟨rfl,⟨rfl,⟨rfl,⟨rfl,⟨rfl,zw,⟨rfl,trivial⟩⟩⟩⟩⟩⟩⟩
theorem Ho :gX Ph ext az 480 lG:=fq bh rfl ⟨rfl,⟨rfl,Fs,trivial⟩⟩
theorem Hp :gX Ph ext az 484 lH:=fq bh rfl ⟨rfl,⟨rfl,trivial⟩⟩
theorem t8 :gX Ph ext az 468 lY:=fq bh rfl ⟨rfl,⟨rfl,⟨rfl,⟨rfl,Hp,trivial⟩⟩⟩⟩
theorem Hr :gX Ph ext az 481 kI:=fq bh rfl ⟨rfl,⟨rfl,t8,⟨rfl,trivial⟩⟩⟩
theorem Bs :gX Ph ext az 482 gi:=fq bh rfl ⟨rfl,⟨rfl,trivial⟩⟩
theorem xh :gX Ph ext az 470 iB:=fq bh rfl ⟨rfl,⟨rfl,⟨rfl,⟨rfl,⟨rfl,⟨rfl,⟨rfl,trivial⟩⟩⟩⟩⟩⟩⟩
theorem Fq :gX Ph ext az 462 eE:=fq bh rfl ⟨rfl,⟨rfl,⟨rfl,⟨rfl,⟨rfl,⟨rfl,⟨rfl,Ho,⟨rfl,⟨rfl,⟨rfl,Hr,⟨rfl,Bs,⟨rfl,zw,⟨rfl,⟨rfl,⟨rfl,t8,⟨rfl,⟨rfl,⟨rfl,⟨rfl,⟨rfl,xh,⟨rfl,⟨rfl,⟨rfl,⟨rfl,trivial⟩⟩⟩⟩⟩⟩⟩⟩⟩⟩⟩⟩⟩⟩⟩⟩⟩⟩⟩⟩⟩⟩⟩⟩
theorem Jm :gX Ph ext az 467 jF:=fq bh rfl ⟨rfl,⟨rfl,⟨rfl,trivial⟩⟩⟩
theorem Ft :Ps Ph ext az 438 il:=zy (ss:=[.l jF 467]) rfl ⟨Jm,trivial⟩
theorem Hq :gX Ph ext az 464 lI:=fq bh rfl ⟨rfl,⟨rfl,⟨rfl,⟨rfl,trivial⟩⟩⟩⟩
theorem Ln :gX Ph ext az 465 rl:=fq bh rfl ⟨rfl,trivial⟩
theorem Fu :gX Ph ext az 463 kX:=fq bh rfl ⟨rfl,⟨rfl,trivial⟩⟩
theorem Jl :gX Ph ext az 466 jE:=fq bh rfl ⟨rfl,⟨rfl,⟨rfl,⟨rfl,trivial⟩⟩⟩⟩
theorem Bt :Ps Ph ext az 437 fC:=zy (ss:=[.l jE 466]) rfl ⟨Jl,trivial⟩
theorem Jn :gX Ph ext az 436 kj:=fq bh rfl ⟨rfl,⟨rfl,⟨rfl,⟨rfl,⟨rfl,Fu,⟨rfl,Hq,⟨rfl,⟨rfl,Ln,⟨rfl,⟨rfl,⟨rfl,trivial⟩⟩⟩⟩⟩⟩⟩⟩⟩⟩⟩
theorem Fv :gX Ph ext az 440 gz:=fq bh rfl ⟨rfl,⟨rfl,t8,⟨rfl,⟨rfl,Dn,⟨rfl,xh,trivial⟩⟩⟩⟩⟩
theorem Fx :gX Ph ext az 422 jk:=fq bh rfl ⟨rfl,trivial⟩
theorem Jo :gX Ph ext az 439 kl:=fq bh rfl ⟨rfl,⟨rfl,⟨rfl,Fx,⟨rfl,trivial⟩⟩⟩⟩
theorem Fw :Ps Ph ext az 435 io:=zy (ss:=[.l eE 462]) rfl ⟨Fq,trivial⟩
theorem Jp :Ps Ph ext az 425 fE:=zy (ss:=[.k [.int .i64, .bool, .int .i64], .s io 435, .l kj 436, .k [.int .i64], .s fC 437, .s il 438, .l kl 439, .l gz 440]) rfl ⟨rfl,⟨Fw,⟨Jn,⟨rfl,⟨Bt,⟨Ft,⟨Jo,⟨Fv,trivial⟩⟩⟩⟩⟩⟩⟩⟩
end
end Gi
