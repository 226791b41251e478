/- Of this proof. -/
import Derived.Test.YtebnmoogdmpepaaGreatGta
set_option linter.unusedSimpArgs false
set_option linter.unusedVariables false
namespace Gi
open Go Go.RowKit
attribute [local simp] start fL aq ai az aK bj cf Opd.ev put V.cells plain bo gn isInt isStr isBool bin bV un asList L.view am V.view viewL done aY ar bQ bM comp aJ bH al V.flat L.flat dO di bv putAt thaw thawL freezeVs freezeLs freezeL V.mut L.mut aG aV
theorem Bf {f g:St→Option (Ex×St)}(h:g=f)(σ:St):aB f σ=(match g σ with
 |some (.normal,σ')=>aB f σ'
 |r=>r):=by rw[h];exact uJ f σ
theorem H6 (p:PV)(ps:List PV):fA (p::ps)=sz p+fA ps:=by simp only[fA]
theorem eF (s:List UInt8):sz (.str s)=s.length:=by simp only[sz]
theorem bu :∀{l:List PV}{i:Nat}{p:PV},l[i]? =some p→sz p≤fA l
 |[],_,_,h=>by simp at h
 |q::l,0,p,h=>by simp at h;subst h;rw[H6];exact Xq _ _
 |q::l,i+1,p,h=>by rw[H6];exact Zc (bu (l:=l) (i:=i) (by simpa using h)) (Nat.le_add_left _ _)
def QK (x:Option (Ex×St))(Q:Ex→St→Prop):Prop:=
 match x with
 |some (e,σ)=>Q e σ
 |none=>False
theorem QK.get {x:Option (Ex×St)}{Q:Ex→St→Prop}(h:QK x Q):∃e σ,x=some (e,σ)∧Q e σ:=by
 unfold QK at h
 split at h
 ·exact⟨_,_,rfl,h⟩
 ·exact h.elim
theorem Hv {e:Ex}{σ:St}{Q:Ex→St→Prop}:QK (some (e,σ)) Q=Q e σ:=rfl
section
variable {ext:Nat→List V→Option V}
theorem Nv {rows:List (List PV)}(hl:rows.length≤maxLen)(hr:∀r∈rows,∃s:List UInt8,r=[.str s]∧s.length≤maxLen):∀(m k:Nat)(i:Int),i=k→k+m=rows.length→∀(left:Int),0≤left→left≤1048576→∀(x2 x3 x4 x6 x7 x8 x9 x10 x11 x12 x13 x14 x15 x16 x17 x18 x19 x20 x21 x22 x23 x24 x25 x26 x27:V)(h:List AObj),
 QK (aB (aq (ah Ph ext) aB ed) ⟨(ba rows::aa .i64 left::x2::x3::x4::aa .i64 i::x6::x7::x8::x9::x10::x11::x12::x13::x14::x15::x16::x17::x18::x19::x20::x21::x22::x23::x24::x25::x26::x27::[]),h⟩) fun e σ'=>σ'.h=h∧σ'.t.length=28∧((e= .exit 0∧0≤less left (bI (rows.drop k))∧σ'.t[1]? =some (aa .i64 (less left (bI (rows.drop k)))))∨(e= .ret∧less left (bI (rows.drop k))= -1∧σ'.t[4]? =some (aa .i64 (-1)))):=by
 generalize hF:aq (ah Ph ext) aB ed=F
 intro m
 induction m with
 |zero=>
  intro k i hi hk left h0 h1 x2 x3 x4 x6 x7 x8 x9 x10 x11 x12 x13 x14 x15 x16 x17 x18 x19 x20 x21 x22 x23 x24 x25 x26 x27 h
  subst hi
  have hk':k=rows.length:=by omega
  subst hk'
  have hl0:less left (bI (rows.drop rows.length))=left:=by simp[bI,less];omega
  rw[hl0,Bf hF]
  simp[ed,je,h0,Hv]
 |succ m ih=>
  intro k i hi hk left h0 h1 x2 x3 x4 x6 x7 x8 x9 x10 x11 x12 x13 x14 x15 x16 x17 x18 x19 x20 x21 x22 x23 x24 x25 x26 x27 h
  subst hi
  have hlt:k<rows.length:=by omega
  have hw:=j4 (k:=k) (by unfold maxLen at hl;omega)
  obtain⟨s,hrk,hs⟩:=hr _ (Zg hlt)
  unfold maxLen at hs
  have hw2:IntKind.i64.wrap (left-(s.length:Int))=left-(s.length:Int):=by rw[IntKind.wrap_i64];omega
  rw[Cd hlt,hrk]
  have hsz:fA [PV.str s]=s.length:=by simp[fA,sz]
  rw[hsz]
  by_cases hneg:left<(s.length:Int)
  ·have e1:less left (s.length+bI (rows.drop (k+1)))= -1:=by unfold less;rw[if_pos (by omega)]
   rw[e1,Bf hF]
   have hn:left-(s.length:Int)<0:=by omega
   simp[ed,je,hlt,hrk,hw,hw2,hn,Hv]
  ·have hn:¬left-(s.length:Int)<0:=by omega
   have key:=ih (k+1) ((k:Int)+1) (by omega) (by omega) (left-s.length) (by omega) (by omega)
   have e1:less (left-s.length) (bI (rows.drop (k+1)))=less left (s.length+bI (rows.drop (k+1))):=by
    have:left-(s.length:Int)=less left s.length:=by unfold less;rw[if_neg hneg]
    rw[this];exact sd (by rw[←this];omega)
   rw[e1]at key
   clear ih
   rw[Bf hF]
   simp[ed,je,hlt,hrk,hw,hw2,hn]
   exact key _ _ _ _ _ _ _ _ _ _ _ _ _ _ _ _ _ _ _ _ _ _ _ _ _ _
theorem JA {rows:List (List PV)}(hl:rows.length≤maxLen)(hr:∀r∈rows,∃s:List UInt8,r=[.str s]∧s.length≤maxLen){left:Int}(h0:0≤left)(h1:left≤1048576):ah Ph ext 200 [ba rows,aa .i64 left]=some (aa .i64 (less left (sz (.lst rows)))):=by
 refine fC (fn:=iH) rfl ?_
 have hw:IntKind.i64.wrap (left-rows.length)=left-rows.length:=by unfold maxLen at hl;rw[IntKind.wrap_i64];omega
 rw[ik]
 by_cases hn:left<rows.length
 ·have hn':left-(rows.length:Int)<0:=by omega
  have e:less left (rows.length+bI rows)= -1:=by unfold less;rw[if_pos (by omega)]
  rw[e]
  generalize hF:aq (ah Ph ext) aB ed=F
  simp[iH,je,hF,hw,hn']
 ·have hn':¬left-(rows.length:Int)<0:=by omega
  have hle:left-(rows.length:Int)=less left rows.length:=by unfold less;rw[if_neg hn]
  obtain⟨e,⟨t',h'⟩,q1,q2,q5,q3⟩:=(Nv (ext:=ext) hl hr rows.length 0 0 rfl (by omega) (left-rows.length) (by omega) (by omega) (.tup []) (.tup []) (aa .i64 0) (aa .i64 left) (ba rows) (aa .i64 rows.length) (aa .i64 (left-rows.length)) (aa .i64 (left-rows.length)) (av false) (.tup []) (.tup []) (.tup []) (.tup []) (.tup []) (.tup []) (.tup []) (.tup []) (.tup []) (.tup []) (.tup []) (.tup []) (.tup []) (.tup []) (.tup []) (.tup []) []).get
  simp only[List.drop_zero]at q3
  have hls:less (left-rows.length) (bI rows)=less left (rows.length+bI rows):=by rw[hle];exact sd (by rw[←hle];omega)
  rw[hls]at q3
  simp at q5
  rcases q3 with⟨rfl,_,q4⟩|⟨rfl,q6,q4⟩
  ·obtain⟨_,q7⟩:=Zb.1 q4
   simp[iH,je,hw,hn',q1,q5,q7]
  ·obtain⟨_,q7⟩:=Zb.1 q4
   simp[iH,je,hw,hn',q1,q5,q7,q6]
end
end Gi
namespace Gi
open Go Go.RowKit
set_option maxRecDepth 4000
abbrev Vy :PTy→Type
 | .int _=>Int
 | .bool=>Bool
 | .str=>List UInt8
 | .lst _=>List (List PV)
abbrev TD :(t:PTy)→Vy t→PV
 | .int k,n=> .int k n
 | .bool,b=> .bool b
 | .str,s=> .str s
 | .lst _,l=> .lst l
abbrev Sw :List PTy→Type
 |[]=>Unit
 |t::ts=>Vy t×Sw ts
abbrev UV :(ts:List PTy)→Sw ts→List PV
 |[],_=>[]
 |t::ts,(x,y)=>TD t x::UV ts y
def Uz :(ts:List PTy)→Sw ts→Prop
 |[],_=>True
 |t::ts,(x,y)=>nQ t (TD t x)∧Uz ts y
theorem bW :∀{ts:List PTy}{r:List PV},bi ts r→∃x:Sw ts,r=UV ts x∧Uz ts x
 |[],r,h=>⟨(),fR h,trivial⟩
 |t::ts,r,h=>by
  obtain⟨p,q,rfl,g,k⟩:=eA h
  obtain⟨y,rfl,l⟩:=bW k
  cases t with
  |int=>obtain⟨n,rfl⟩:=ma g;exact⟨(n,y),rfl,g,l⟩
  |bool=>obtain⟨n,rfl⟩:=kL g;exact⟨(n,y),rfl,g,l⟩
  |str=>obtain⟨n,rfl⟩:=mb g;exact⟨(n,y),rfl,g,l⟩
  |lst=>obtain⟨n,rfl⟩:=nR g;exact⟨(n,y),rfl,g,l⟩
section
variable {ext:Nat→List V→Option V}
theorem Vw {rows:List (List PV)}(h:nQ (.lst iR) (.lst rows)):∀r∈rows,∃s:List UInt8,r=[.str s]∧s.length≤maxLen:=by
 obtain⟨_,hr⟩:=aL h
 intro r m
 obtain⟨⟨c0,_⟩,rfl,g0,_⟩:=bW (hr r m)
 exact⟨c0,rfl,g0⟩
theorem NA :j6 Ph ext 89 zH:=cM (ss:=vj) rfl (bq ⟨rfl,rfl,trivial⟩)
theorem No :kM Ph ext 87 zH:=da (ss:=vj) rfl (bq ⟨rfl,rfl,trivial⟩)
theorem MA :j5 Ph ext 91 zH:=cL (ss:=vj) rfl (bq ⟨rfl,rfl,trivial⟩)
theorem L1 :kq Ph ext 66 kT:=iz rfl rfl rfl rfl (by decide) (by decide) NA (fun _=>rfl)
theorem LI :ko Ph ext 64 kT:=jL rfl rfl No
theorem KB :kl Ph ext 69 kT:=iu rfl rfl MA
theorem L3 :j6 Ph ext 34 H7:=cM (ss:=HH) rfl (bq ⟨rfl,rfl,rfl,trivial⟩)
theorem LK :kM Ph ext 30 H7:=da (ss:=HH) rfl (bq ⟨rfl,rfl,rfl,trivial⟩)
theorem KH :j5 Ph ext 38 H7:=cL (ss:=HH) rfl (bq ⟨rfl,rfl,rfl,trivial⟩)
theorem L6 :j6 Ph ext 35 uZ:=cM (ss:=rW) rfl (bq ⟨⟨L1,rfl⟩,trivial⟩)
theorem LN :kM Ph ext 31 uZ:=da (ss:=rW) rfl (bq ⟨LI,trivial⟩)
theorem KO :j5 Ph ext 39 uZ:=cL (ss:=rW) rfl (bq ⟨KB,trivial⟩)
theorem Qt :j6 Ph ext 7 F6:=cM (ss:=zX) rfl (bq ⟨⟨L3,fun _=>rfl⟩,⟨L6,nofun⟩,trivial⟩)
theorem Qk :kM Ph ext 5 F6:=da (ss:=zX) rfl (bq ⟨LK,LN,trivial⟩)
theorem Ps :j5 Ph ext 9 F6:=cL (ss:=zX) rfl (bq ⟨KH,KO,trivial⟩)
theorem L4 :j6 Ph ext 73 uX:=cM (ss:=rU) rfl (bq ⟨rfl,rfl,trivial⟩)
theorem LL :kM Ph ext 70 uX:=da (ss:=rU) rfl (bq ⟨rfl,rfl,trivial⟩)
theorem KJ :j5 Ph ext 76 uX:=cL (ss:=rU) rfl (bq ⟨rfl,rfl,trivial⟩)
theorem JJ :kq Ph ext 42 kj:=iz rfl rfl rfl rfl (by decide) (by decide) L4 (fun _=>rfl)
theorem Ju :ko Ph ext 40 kj:=jL rfl rfl LL
theorem IJ :kl Ph ext 44 kj:=iu rfl rfl KJ
theorem NB :j6 Ph ext 93 zI:=cM (ss:=vk) rfl (bq ⟨rfl,rfl,rfl,rfl,trivial⟩)
theorem Np :kM Ph ext 92 zI:=da (ss:=vk) rfl (bq ⟨rfl,rfl,rfl,rfl,trivial⟩)
theorem MB :j5 Ph ext 94 zI:=cL (ss:=vk) rfl (bq ⟨rfl,rfl,rfl,rfl,trivial⟩)
theorem L2 :kq Ph ext 74 kU:=iz rfl rfl rfl rfl (by decide) (by decide) NB (fun _=>rfl)
theorem LJ :ko Ph ext 71 kU:=jL rfl rfl Np
theorem KE :kl Ph ext 77 kU:=iu rfl rfl MB
theorem Qs :kq Ph ext 75 qn:=JI rfl rfl rfl (by decide)
theorem Qj :ko Ph ext 72 qn:=DD rfl rfl
theorem Pr :kl Ph ext 78 qn:=II rfl rfl
theorem JK :j6 Ph ext 43 sr:=cM (ss:=pm) rfl (bq ⟨⟨L2,rfl⟩,rfl,⟨Qs,rfl⟩,rfl,rfl,rfl,trivial⟩)
theorem Jv :kM Ph ext 41 sr:=da (ss:=pm) rfl (bq ⟨LJ,rfl,Qj,rfl,rfl,rfl,trivial⟩)
theorem IK :j5 Ph ext 45 sr:=cL (ss:=pm) rfl (bq ⟨KE,rfl,Pr,rfl,rfl,rfl,trivial⟩)
theorem Qx :j6 Ph ext 12 F8:=cM (ss:=zZ) rfl (bq ⟨rfl,rfl,rfl,rfl,⟨JJ,rfl⟩,⟨JK,nofun⟩,trivial⟩)
theorem Qm :kM Ph ext 10 F8:=da (ss:=zZ) rfl (bq ⟨rfl,rfl,rfl,rfl,Ju,Jv,trivial⟩)
theorem Pw :j5 Ph ext 14 F8:=cL (ss:=zZ) rfl (bq ⟨rfl,rfl,rfl,rfl,IJ,IK,trivial⟩)
theorem NC :kq Ph ext 53 li:=iz rfl rfl rfl rfl (by decide) (by decide) Qt nofun
theorem Nq :ko Ph ext 52 li:=jL rfl rfl Qk
theorem MD :kl Ph ext 55 li:=iu rfl rfl Ps
theorem JD :j6 Ph ext 80 vA:=cM (ss:=vh) rfl (bq ⟨rfl,rfl,trivial⟩)
theorem IE :j5 Ph ext 82 vA:=cL (ss:=vh) rfl (bq ⟨rfl,rfl,trivial⟩)
theorem Hn :kq Ph ext 48 jk:=iz rfl rfl rfl rfl (by decide) (by decide) JD (fun _=>rfl)
theorem Hh :ko Ph ext 46 jk:=DD rfl rfl
theorem GA :kl Ph ext 50 jk:=iu rfl rfl IE
theorem NH :j6 Ph ext 81 zJ:=cM (ss:=vn) rfl (bq ⟨rfl,rfl,⟨L3,fun _=>rfl⟩,rfl,rfl,trivial⟩)
theorem Nx :kM Ph ext 79 zJ:=da (ss:=vn) rfl (bq ⟨rfl,rfl,LK,rfl,rfl,trivial⟩)
theorem MI :j5 Ph ext 83 zJ:=cL (ss:=vn) rfl (bq ⟨rfl,rfl,KH,rfl,rfl,trivial⟩)
theorem Ci :kq Ph ext 49 ic:=iz rfl rfl rfl rfl (by decide) (by decide) NH (fun _=>rfl)
theorem Cf :ko Ph ext 47 ic:=jL rfl rfl Nx
theorem BL :kl Ph ext 51 ic:=iu rfl rfl MI
theorem xN :j6 Ph ext 22 tj:=cM (ss:=vl) rfl (bq ⟨rfl,⟨NC,rfl⟩,rfl,trivial⟩)
theorem xM :kM Ph ext 20 tj:=da (ss:=vl) rfl (bq ⟨rfl,Nq,rfl,trivial⟩)
theorem wC :j5 Ph ext 24 tj:=cL (ss:=vl) rfl (bq ⟨rfl,MD,rfl,trivial⟩)
theorem L7 :j6 Ph ext 17 u0:=cM (ss:=rX) rfl (bq ⟨⟨xN,nofun⟩,⟨Hn,rfl⟩,⟨Ci,rfl⟩,trivial⟩)
theorem LO :kM Ph ext 15 u0:=da (ss:=rX) rfl (bq ⟨xM,Hh,Cf,trivial⟩)
theorem KP :j5 Ph ext 19 u0:=cL (ss:=rX) rfl (bq ⟨wC,GA,BL,trivial⟩)
theorem L8 :kq Ph ext 60 jZ:=iz rfl rfl rfl rfl (by decide) (by decide) xN nofun
theorem LP :ko Ph ext 57 jZ:=jL rfl rfl xM
theorem KQ :kl Ph ext 63 jZ:=iu rfl rfl wC
theorem tk :kq Ph ext 255 dg:=JI rfl rfl rfl (by decide)
theorem FU :ko Ph ext 251 dg:=DD rfl rfl
theorem sK :kl Ph ext 259 dg:=II rfl rfl
theorem Hr :j6 Ph ext 281 qp:=cM (ss:=ni) rfl (bq ⟨rfl,rfl,rfl,⟨tk,rfl⟩,rfl,trivial⟩)
theorem Hm :kM Ph ext 280 qp:=da (ss:=ni) rfl (bq ⟨rfl,rfl,rfl,FU,rfl,trivial⟩)
theorem GE :j5 Ph ext 282 qp:=cL (ss:=ni) rfl (bq ⟨rfl,rfl,rfl,sK,rfl,trivial⟩)
theorem L0 :j6 Ph ext 278 uW:=cM (ss:=rS) rfl (bq ⟨rfl,rfl,⟨Hr,nofun⟩,trivial⟩)
theorem LH :kM Ph ext 277 uW:=da (ss:=rS) rfl (bq ⟨rfl,rfl,Hm,trivial⟩)
theorem KA :j5 Ph ext 279 uW:=cL (ss:=rS) rfl (bq ⟨rfl,rfl,GE,trivial⟩)
theorem JF :kq Ph ext 273 ki:=iz rfl rfl rfl rfl (by decide) (by decide) L0 nofun
theorem Js :ko Ph ext 271 ki:=jL rfl rfl LH
theorem IG :kl Ph ext 275 ki:=iu rfl rfl KA
theorem Nz :j6 Ph ext 265 zG:=cM (ss:=vi) rfl (bq ⟨rfl,⟨JF,rfl⟩,trivial⟩)
theorem Nn :kM Ph ext 262 zG:=da (ss:=vi) rfl (bq ⟨rfl,Js,trivial⟩)
theorem Mz :j5 Ph ext 268 zG:=cL (ss:=vi) rfl (bq ⟨rfl,IG,trivial⟩)
theorem LZ :kq Ph ext 253 kS:=iz rfl rfl rfl rfl (by decide) (by decide) Nz nofun
theorem LG :ko Ph ext 249 kS:=jL rfl rfl Nn
theorem Kz :kl Ph ext 257 kS:=iu rfl rfl Mz
theorem Hq :j6 Ph ext 274 qm:=cM (ss:=nh) rfl (bq ⟨rfl,rfl,trivial⟩)
theorem Hk :kM Ph ext 272 qm:=da (ss:=nh) rfl (bq ⟨rfl,rfl,trivial⟩)
theorem GD :j5 Ph ext 276 qm:=cL (ss:=nh) rfl (bq ⟨rfl,rfl,trivial⟩)
theorem Gg :kq Ph ext 266 fU:=iz rfl rfl rfl rfl (by decide) (by decide) Hq (fun _=>rfl)
theorem FW :ko Ph ext 263 fU:=jL rfl rfl Hk
theorem Ec :kl Ph ext 269 fU:=iu rfl rfl GD
theorem zN :j6 Ph ext 231 jY:=cM (ss:=iC) rfl (bq ⟨rfl,rfl,rfl,rfl,trivial⟩)
theorem zF :kM Ph ext 227 jY:=da (ss:=iC) rfl (bq ⟨rfl,rfl,rfl,rfl,trivial⟩)
theorem xX :j5 Ph ext 235 jY:=cL (ss:=iC) rfl (bq ⟨rfl,rfl,rfl,rfl,trivial⟩)
theorem Ho :j6 Ph ext 232 qk:=cM (ss:=nf) rfl (bq ⟨⟨LZ,rfl⟩,trivial⟩)
theorem Hi :kM Ph ext 228 qk:=da (ss:=nf) rfl (bq ⟨LG,trivial⟩)
theorem GB :j5 Ph ext 236 qk:=cL (ss:=nf) rfl (bq ⟨Kz,trivial⟩)
theorem Hp :j6 Ph ext 254 ql:=cM (ss:=ng) rfl (bq ⟨rfl,rfl,⟨L8,rfl⟩,⟨Gg,rfl⟩,trivial⟩)
theorem Hj :kM Ph ext 250 ql:=da (ss:=ng) rfl (bq ⟨rfl,rfl,LP,FW,trivial⟩)
theorem GC :j5 Ph ext 258 ql:=cL (ss:=ng) rfl (bq ⟨rfl,rfl,KQ,Ec,trivial⟩)
theorem Qr :j6 Ph ext 233 F5:=cM (ss:=zW) rfl (bq ⟨⟨Hp,nofun⟩,⟨tk,rfl⟩,rfl,trivial⟩)
theorem Qi :kM Ph ext 229 F5:=da (ss:=zW) rfl (bq ⟨Hj,FU,rfl,trivial⟩)
theorem Pp :j5 Ph ext 237 F5:=cL (ss:=zW) rfl (bq ⟨GC,sK,rfl,trivial⟩)
theorem L5 :j6 Ph ext 267 uY:=cM (ss:=rV) rfl (bq ⟨rfl,rfl,⟨Ci,rfl⟩,trivial⟩)
theorem LM :kM Ph ext 264 uY:=da (ss:=rV) rfl (bq ⟨rfl,rfl,Cf,trivial⟩)
theorem KN :j5 Ph ext 270 uY:=cL (ss:=rV) rfl (bq ⟨rfl,rfl,BL,trivial⟩)
theorem Qz :j6 Ph ext 256 Ga:=cM (ss:=Ab) rfl (bq ⟨⟨L5,nofun⟩,rfl,rfl,trivial⟩)
theorem Qo :kM Ph ext 252 Ga:=da (ss:=Ab) rfl (bq ⟨LM,rfl,rfl,trivial⟩)
theorem Py :j5 Ph ext 260 Ga:=cL (ss:=Ab) rfl (bq ⟨KN,rfl,rfl,trivial⟩)
theorem JL :j6 Ph ext 234 su:=cM (ss:=pn) rfl (bq ⟨⟨xN,nofun⟩,rfl,⟨Qz,nofun⟩,trivial⟩)
theorem Jw :kM Ph ext 230 su:=da (ss:=pn) rfl (bq ⟨xM,rfl,Qo,trivial⟩)
theorem IL :j5 Ph ext 238 su:=cL (ss:=pn) rfl (bq ⟨wC,rfl,Py,trivial⟩)
theorem LY :j6 Ph ext 201 uV:=cM (ss:=rR) rfl (bq ⟨rfl,rfl,⟨zN,fun _=>rfl⟩,⟨Ho,nofun⟩,⟨Qr,nofun⟩,⟨JL,nofun⟩,rfl,rfl,trivial⟩)
theorem LF :kM Ph ext 198 uV:=da (ss:=rR) rfl (bq ⟨rfl,rfl,zF,Hi,Qi,Jw,rfl,rfl,trivial⟩)
theorem Ky :j5 Ph ext 205 uV:=cL (ss:=rR) rfl (bq ⟨rfl,rfl,xX,GB,Pp,IL,rfl,rfl,trivial⟩)
theorem JE :kq Ph ext 167 dB:=iz rfl rfl rfl rfl (by decide) (by decide) LY nofun
theorem Jq :ko Ph ext 163 dB:=jL rfl rfl LF
theorem IF :kl Ph ext 171 dB:=iu rfl rfl Ky
theorem NF :kq Ph ext 134 jl:=iz rfl rfl rfl rfl (by decide) (by decide) Qx nofun
theorem Nt :ko Ph ext 128 jl:=jL rfl rfl Qm
theorem MG :kl Ph ext 140 jl:=iu rfl rfl Pw
theorem Qu :j6 Ph ext 202 F7:=cM (ss:=zY) rfl (bq ⟨rfl,rfl,rfl,rfl,trivial⟩)
theorem Ql :kM Ph ext 199 F7:=da (ss:=zY) rfl (bq ⟨rfl,rfl,rfl,rfl,trivial⟩)
theorem Pt :j5 Ph ext 206 F7:=cL (ss:=zY) rfl (bq ⟨rfl,rfl,rfl,rfl,trivial⟩)
theorem ND :kq Ph ext 168 ix:=iz rfl rfl rfl rfl (by decide) (by decide) Qu (fun _=>rfl)
theorem Nr :ko Ph ext 164 ix:=jL rfl rfl Ql
theorem ME :kl Ph ext 172 ix:=iu rfl rfl Pt
theorem Qv :j6 Ph ext 203 JC:=cM (ss:=IA) rfl (bq ⟨rfl,rfl,rfl,trivial⟩)
theorem Pu :j5 Ph ext 207 JC:=cL (ss:=IA) rfl (bq ⟨rfl,rfl,rfl,trivial⟩)
theorem NE :kq Ph ext 169 iy:=iz rfl rfl rfl rfl (by decide) (by decide) Qv (fun _=>rfl)
theorem Ns :ko Ph ext 165 iy:=DD rfl rfl
theorem MF :kl Ph ext 173 iy:=iu rfl rfl Pu
theorem JO :kq Ph ext 204 iR:=JI rfl rfl rfl (by decide)
theorem JB :ko Ph ext 200 iR:=fun _ h _ a b=>JA (aL h).1 (Vw h) a b
theorem IP :kl Ph ext 208 iR:=II rfl rfl
theorem Qy :j6 Ph ext 170 F9:=cM (ss:=Aa) rfl (bq ⟨rfl,rfl,⟨JO,rfl⟩,rfl,trivial⟩)
theorem Qn :kM Ph ext 166 F9:=da (ss:=Aa) rfl (bq ⟨rfl,rfl,JB,rfl,trivial⟩)
theorem Px :j5 Ph ext 174 F9:=cL (ss:=Aa) rfl (bq ⟨rfl,rfl,IP,rfl,trivial⟩)
theorem NG :kq Ph ext 137 jm:=iz rfl rfl rfl rfl (by decide) (by decide) Qy nofun
theorem Nu :ko Ph ext 131 jm:=jL rfl rfl Qn
theorem MH :kl Ph ext 143 jm:=iu rfl rfl Px
theorem JM :kq Ph ext 138 fK:=iz rfl rfl rfl rfl (by decide) (by decide) L7 nofun
theorem Jy :ko Ph ext 132 fK:=jL rfl rfl LO
theorem IM :kl Ph ext 144 fK:=iu rfl rfl KP
theorem JN :j6 Ph ext 133 gF:=cM (ss:=pp) rfl (bq ⟨⟨JE,rfl⟩,trivial⟩)
theorem Jz :kM Ph ext 127 gF:=da (ss:=pp) rfl (bq ⟨Jq,trivial⟩)
theorem IN :j5 Ph ext 139 gF:=cL (ss:=pp) rfl (bq ⟨IF,trivial⟩)
theorem Gh :j6 Ph ext 135 eU:=cM (ss:=lX) rfl (bq ⟨⟨ND,rfl⟩,trivial⟩)
theorem FZ :kM Ph ext 129 eU:=da (ss:=lX) rfl (bq ⟨Nr,trivial⟩)
theorem Ed :j5 Ph ext 141 eU:=cL (ss:=lX) rfl (bq ⟨ME,trivial⟩)
theorem JG :j6 Ph ext 136 gE:=cM (ss:=pk) rfl (bq ⟨⟨NE,rfl⟩,trivial⟩)
theorem Jt :kM Ph ext 130 gE:=da (ss:=pk) rfl (bq ⟨Ns,trivial⟩)
theorem IH :j5 Ph ext 142 gE:=cL (ss:=pk) rfl (bq ⟨MF,trivial⟩)
theorem Gj :j6 Ph ext 106 dh:=cM (ss:=vm) rfl (bq ⟨rfl,rfl,rfl,⟨JN,nofun⟩,⟨NF,rfl⟩,rfl,⟨Gh,nofun⟩,⟨JG,nofun⟩,⟨NG,rfl⟩,⟨JM,rfl⟩,trivial⟩)
theorem Nw :kM Ph ext 104 dh:=da (ss:=vm) rfl (bq ⟨rfl,rfl,rfl,Jz,Nt,rfl,FZ,Jt,Nu,Jy,trivial⟩)
theorem sL :j5 Ph ext 108 dh:=cL (ss:=vm) rfl (bq ⟨rfl,rfl,rfl,IN,MG,rfl,Ed,IH,MH,IM,trivial⟩)
theorem aP :Cj Ph ext aj 432:=Ul rfl
theorem Da :pz Ph ext aj 448 jk:=fe aP rfl rfl ⟨rfl,⟨rfl,trivial⟩⟩
theorem pd :pz Ph ext aj 474 dg:=fe aP rfl rfl ⟨rfl,trivial⟩
theorem Fq :pz Ph ext aj 485 ki:=fe aP rfl rfl ⟨rfl,⟨rfl,⟨rfl,⟨rfl,⟨rfl,⟨rfl,pd,⟨rfl,trivial⟩⟩⟩⟩⟩⟩⟩
theorem G9 :pz Ph ext aj 471 kS:=fe aP rfl rfl ⟨rfl,⟨rfl,Fq,trivial⟩⟩
theorem Ha :pz Ph ext aj 475 kT:=fe aP rfl rfl ⟨rfl,⟨rfl,trivial⟩⟩
theorem ta :pz Ph ext aj 447 li:=fe aP rfl rfl ⟨rfl,⟨rfl,⟨rfl,⟨rfl,Ha,trivial⟩⟩⟩⟩
theorem Hd :pz Ph ext aj 472 jZ:=fe aP rfl rfl ⟨rfl,⟨rfl,ta,⟨rfl,trivial⟩⟩⟩
theorem Bi :pz Ph ext aj 473 fU:=fe aP rfl rfl ⟨rfl,⟨rfl,trivial⟩⟩
theorem wi :pz Ph ext aj 449 ic:=fe aP rfl rfl ⟨rfl,⟨rfl,⟨rfl,⟨rfl,⟨rfl,⟨rfl,⟨rfl,trivial⟩⟩⟩⟩⟩⟩⟩
theorem uK :pz Ph ext aj 441 dB:=fe aP rfl rfl ⟨rfl,⟨rfl,⟨rfl,⟨rfl,⟨rfl,⟨rfl,⟨rfl,G9,⟨rfl,⟨rfl,⟨rfl,Hd,⟨rfl,Bi,⟨rfl,pd,⟨rfl,⟨rfl,⟨rfl,ta,⟨rfl,⟨rfl,⟨rfl,⟨rfl,⟨rfl,wi,⟨rfl,⟨rfl,⟨rfl,⟨rfl,trivial⟩⟩⟩⟩⟩⟩⟩⟩⟩⟩⟩⟩⟩⟩⟩⟩⟩⟩⟩⟩⟩⟩⟩⟩
theorem zd :pz Ph ext aj 446 iy:=fe aP rfl rfl ⟨rfl,⟨rfl,⟨rfl,trivial⟩⟩⟩
theorem uL :OU Ph ext aj 429 gE:=za (ss:=[.l iy 446]) rfl rfl ⟨zd,trivial⟩
theorem Hb :pz Ph ext aj 443 kU:=fe aP rfl rfl ⟨rfl,⟨rfl,⟨rfl,⟨rfl,trivial⟩⟩⟩⟩
theorem K8 :pz Ph ext aj 444 qn:=fe aP rfl rfl ⟨rfl,trivial⟩
theorem Fs :pz Ph ext aj 442 kj:=fe aP rfl rfl ⟨rfl,⟨rfl,trivial⟩⟩
theorem zb :pz Ph ext aj 445 ix:=fe aP rfl rfl ⟨rfl,⟨rfl,⟨rfl,⟨rfl,trivial⟩⟩⟩⟩
theorem sh :OU Ph ext aj 428 eU:=za (ss:=[.l ix 445]) rfl rfl ⟨zb,trivial⟩
theorem tb :pz Ph ext aj 427 jl:=fe aP rfl rfl ⟨rfl,⟨rfl,⟨rfl,⟨rfl,⟨rfl,Fs,⟨rfl,Hb,⟨rfl,⟨rfl,K8,⟨rfl,⟨rfl,⟨rfl,trivial⟩⟩⟩⟩⟩⟩⟩⟩⟩⟩⟩
theorem jW :pz Ph ext aj 431 fK:=fe aP rfl rfl ⟨rfl,⟨rfl,ta,⟨rfl,⟨rfl,Da,⟨rfl,wi,trivial⟩⟩⟩⟩⟩
theorem Ft :pz Ph ext aj 421 iR:=fe aP rfl rfl ⟨rfl,trivial⟩
theorem mR :pz Ph ext aj 430 jm:=fe aP rfl rfl ⟨rfl,⟨rfl,⟨rfl,Ft,⟨rfl,trivial⟩⟩⟩⟩
theorem qe :OU Ph ext aj 426 gF:=za (ss:=[.l dB 441]) rfl rfl ⟨uK,trivial⟩
theorem ze :OU Ph ext aj 420 dh:=za (ss:=[.k [.int .i64, .bool, .int .i64], .s gF 426, .l jl 427, .k [.int .i64], .s eU 428, .s gE 429, .l jm 430, .l fK 431]) rfl rfl ⟨rfl,⟨qe,⟨tb,⟨rfl,⟨sh,⟨uL,⟨mR,⟨jW,trivial⟩⟩⟩⟩⟩⟩⟩⟩
theorem C6 :gG Ph ext aj 469 jk:=fb aP rfl ⟨rfl,⟨rfl,trivial⟩⟩
theorem yD :gG Ph ext aj 483 dg:=fb aP rfl ⟨rfl,trivial⟩
theorem E4 :gG Ph ext aj 494 ki:=fb aP rfl ⟨rfl,⟨rfl,⟨rfl,⟨rfl,⟨rfl,⟨rfl,yD,⟨rfl,trivial⟩⟩⟩⟩⟩⟩⟩
theorem G5 :gG Ph ext aj 480 kS:=fb aP rfl ⟨rfl,⟨rfl,E4,trivial⟩⟩
theorem G6 :gG Ph ext aj 484 kT:=fb aP rfl ⟨rfl,⟨rfl,trivial⟩⟩
theorem sU :gG Ph ext aj 468 li:=fb aP rfl ⟨rfl,⟨rfl,⟨rfl,⟨rfl,G6,trivial⟩⟩⟩⟩
theorem G8 :gG Ph ext aj 481 jZ:=fb aP rfl ⟨rfl,⟨rfl,sU,⟨rfl,trivial⟩⟩⟩
theorem A1 :gG Ph ext aj 482 fU:=fb aP rfl ⟨rfl,⟨rfl,trivial⟩⟩
theorem wc :gG Ph ext aj 470 ic:=fb aP rfl ⟨rfl,⟨rfl,⟨rfl,⟨rfl,⟨rfl,⟨rfl,⟨rfl,trivial⟩⟩⟩⟩⟩⟩⟩
theorem E3 :gG Ph ext aj 462 dB:=fb aP rfl ⟨rfl,⟨rfl,⟨rfl,⟨rfl,⟨rfl,⟨rfl,⟨rfl,G5,⟨rfl,⟨rfl,⟨rfl,G8,⟨rfl,A1,⟨rfl,yD,⟨rfl,⟨rfl,⟨rfl,sU,⟨rfl,⟨rfl,⟨rfl,⟨rfl,⟨rfl,wc,⟨rfl,⟨rfl,⟨rfl,⟨rfl,trivial⟩⟩⟩⟩⟩⟩⟩⟩⟩⟩⟩⟩⟩⟩⟩⟩⟩⟩⟩⟩⟩⟩⟩⟩
theorem I2 :gG Ph ext aj 467 iy:=fb aP rfl ⟨rfl,⟨rfl,⟨rfl,trivial⟩⟩⟩
theorem E5 :OT Ph ext aj 438 gE:=yF (ss:=[.l iy 467]) rfl ⟨I2,trivial⟩
theorem G7 :gG Ph ext aj 464 kU:=fb aP rfl ⟨rfl,⟨rfl,⟨rfl,⟨rfl,trivial⟩⟩⟩⟩
theorem KX :gG Ph ext aj 465 qn:=fb aP rfl ⟨rfl,trivial⟩
theorem E6 :gG Ph ext aj 463 kj:=fb aP rfl ⟨rfl,⟨rfl,trivial⟩⟩
theorem I1 :gG Ph ext aj 466 ix:=fb aP rfl ⟨rfl,⟨rfl,⟨rfl,⟨rfl,trivial⟩⟩⟩⟩
theorem A2 :OT Ph ext aj 437 eU:=yF (ss:=[.l ix 466]) rfl ⟨I1,trivial⟩
theorem I3 :gG Ph ext aj 436 jl:=fb aP rfl ⟨rfl,⟨rfl,⟨rfl,⟨rfl,⟨rfl,E6,⟨rfl,G7,⟨rfl,⟨rfl,KX,⟨rfl,⟨rfl,⟨rfl,trivial⟩⟩⟩⟩⟩⟩⟩⟩⟩⟩⟩
theorem E7 :gG Ph ext aj 440 fK:=fb aP rfl ⟨rfl,⟨rfl,sU,⟨rfl,⟨rfl,C6,⟨rfl,wc,trivial⟩⟩⟩⟩⟩
theorem E9 :gG Ph ext aj 422 iR:=fb aP rfl ⟨rfl,trivial⟩
theorem I4 :gG Ph ext aj 439 jm:=fb aP rfl ⟨rfl,⟨rfl,⟨rfl,E9,⟨rfl,trivial⟩⟩⟩⟩
theorem E8 :OT Ph ext aj 435 gF:=yF (ss:=[.l dB 462]) rfl ⟨E3,trivial⟩
theorem yG :OT Ph ext aj 425 dh:=yF (ss:=[.k [.int .i64, .bool, .int .i64], .s gF 435, .l jl 436, .k [.int .i64], .s eU 437, .s gE 438, .l jm 439, .l fK 440]) rfl ⟨rfl,⟨E8,⟨I3,⟨rfl,⟨A2,⟨E5,⟨I4,⟨E7,trivial⟩⟩⟩⟩⟩⟩⟩⟩
end
end Gi
