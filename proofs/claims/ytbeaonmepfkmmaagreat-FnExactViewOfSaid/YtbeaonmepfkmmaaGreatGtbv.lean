/- Of this proof. -/
import Derived.Test.YtbeaonmepfkmmaaGreatGtav
set_option linter.unusedSimpArgs false
set_option linter.unusedVariables false
namespace Gi
open Go Go.RowKit
attribute [local simp] start f8 aB am aK aW bo cj Opd.ev put V.cells plain bi fT isInt isStr isBool bin cA un asList L.view az V.view viewL done aS aA cN bJ comp aM bA ar V.flat L.flat cT cS bq putAt thaw thawL freezeVs freezeLs freezeL V.mut L.mut aI aO
theorem zY {f g:St→Option (Ex×St)}(h:g=f)(σ:St):aG f σ=(match g σ with
 |some (.normal,σ')=>aG f σ'
 |r=>r):=by rw[h];exact tX f σ
theorem GT (p:PV)(ps:List PV):fC (p::ps)=sz p+fC ps:=by simp only[fC]
theorem dZ (s:List UInt8):sz (.str s)=s.length:=by simp only[sz]
theorem bz :∀{l:List PV}{i:Nat}{p:PV},l[i]? =some p→sz p≤fC l
 |[],_,_,h=>by simp at h
 |q::l,0,p,h=>by simp at h;subst h;rw[GT];exact Nat.le_add_right _ _
 |q::l,i+1,p,h=>by rw[GT];exact Zc (bz (l:=l) (i:=i) (by simpa using h)) (Nat.le_add_left _ _)
def QA (x:Option (Ex×St))(Q:Ex→St→Prop):Prop:=
 match x with
 |some (e,σ)=>Q e σ
 |none=>False
theorem QA.get {x:Option (Ex×St)}{Q:Ex→St→Prop}(h:QA x Q):∃e σ,x=some (e,σ)∧Q e σ:=by
 unfold QA at h
 split at h
 ·exact⟨_,_,rfl,h⟩
 ·exact h.elim
theorem Gl {e:Ex}{σ:St}{Q:Ex→St→Prop}:QA (some (e,σ)) Q=Q e σ:=rfl
section
variable {ext:Nat→List V→Option V}
theorem M3 {rows:List (List PV)}(hl:rows.length≤maxLen)(hr:∀r∈rows,∃s:List UInt8,r=[.str s]∧s.length≤maxLen):∀(m k:Nat)(i:Int),i=k→k+m=rows.length→∀(left:Int),0≤left→left≤1048576→∀(x2 x3 x4 x6 x7 x8 x9 x10 x11 x12 x13 x14 x15 x16 x17 x18 x19 x20 x21 x22 x23 x24 x25 x26 x27:V)(h:List AObj),
 QA (aG (aB (ah Ph ext) aG dN) ⟨(aR rows::ae .i64 left::x2::x3::x4::ae .i64 i::x6::x7::x8::x9::x10::x11::x12::x13::x14::x15::x16::x17::x18::x19::x20::x21::x22::x23::x24::x25::x26::x27::[]),h⟩) fun e σ'=>σ'.h=h∧σ'.t.length=28∧((e= .exit 0∧0≤less left (db (rows.drop k))∧σ'.t[1]? =some (ae .i64 (less left (db (rows.drop k)))))∨(e= .ret∧less left (db (rows.drop k))= -1∧σ'.t[4]? =some (ae .i64 (-1)))):=by
 generalize hF:aB (ah Ph ext) aG dN=F
 intro m
 induction m with
 |zero=>
  intro k i hi hk left h0 h1 x2 x3 x4 x6 x7 x8 x9 x10 x11 x12 x13 x14 x15 x16 x17 x18 x19 x20 x21 x22 x23 x24 x25 x26 x27 h
  subst hi
  have hk':k=rows.length:=by omega
  subst hk'
  have hl0:less left (db (rows.drop rows.length))=left:=by simp[db,less];omega
  rw[hl0,zY hF]
  simp[dN,i7,h0,Gl]
 |succ m ih=>
  intro k i hi hk left h0 h1 x2 x3 x4 x6 x7 x8 x9 x10 x11 x12 x13 x14 x15 x16 x17 x18 x19 x20 x21 x22 x23 x24 x25 x26 x27 h
  subst hi
  have hlt:k<rows.length:=by omega
  have hw:=jW (k:=k) (by unfold maxLen at hl;omega)
  obtain⟨s,hrk,hs⟩:=hr _ (Zf hlt)
  unfold maxLen at hs
  have hw2:IntKind.i64.wrap (left-(s.length:Int))=left-(s.length:Int):=by rw[IntKind.wrap_i64];omega
  rw[A6 hlt,hrk]
  have hsz:fC [PV.str s]=s.length:=by simp[fC,sz]
  rw[hsz]
  by_cases hneg:left<(s.length:Int)
  ·have e1:less left (s.length+db (rows.drop (k+1)))= -1:=by unfold less;rw[if_pos (by omega)]
   rw[e1,zY hF]
   have hn:left-(s.length:Int)<0:=by omega
   simp[dN,i7,hlt,hrk,hw,hw2,hn,Gl]
  ·have hn:¬left-(s.length:Int)<0:=by omega
   have key:=ih (k+1) ((k:Int)+1) (by omega) (by omega) (left-s.length) (by omega) (by omega)
   have e1:less (left-s.length) (db (rows.drop (k+1)))=less left (s.length+db (rows.drop (k+1))):=by
    have:left-(s.length:Int)=less left s.length:=by unfold less;rw[if_neg hneg]
    rw[this];exact rZ (by rw[←this];omega)
   rw[e1]at key
   clear ih
   rw[zY hF]
   simp[dN,i7,hlt,hrk,hw,hw2,hn]
   exact key _ _ _ _ _ _ _ _ _ _ _ _ _ _ _ _ _ _ _ _ _ _ _ _ _ _
theorem IN {rows:List (List PV)}(hl:rows.length≤maxLen)(hr:∀r∈rows,∃s:List UInt8,r=[.str s]∧s.length≤maxLen){left:Int}(h0:0≤left)(h1:left≤1048576):ah Ph ext 200 [aR rows,ae .i64 left]=some (ae .i64 (less left (sz (.lst rows)))):=by
 refine fy (fn:=iC) rfl ?_
 have hw:IntKind.i64.wrap (left-rows.length)=left-rows.length:=by unfold maxLen at hl;rw[IntKind.wrap_i64];omega
 rw[lN]
 by_cases hn:left<rows.length
 ·have hn':left-(rows.length:Int)<0:=by omega
  have e:less left (rows.length+db rows)= -1:=by unfold less;rw[if_pos (by omega)]
  rw[e]
  generalize hF:aB (ah Ph ext) aG dN=F
  simp[iC,i7,hF,hw,hn']
 ·have hn':¬left-(rows.length:Int)<0:=by omega
  have hle:left-(rows.length:Int)=less left rows.length:=by unfold less;rw[if_neg hn]
  obtain⟨e,⟨t',h'⟩,q1,q2,q5,q3⟩:=(M3 (ext:=ext) hl hr rows.length 0 0 rfl (by omega) (left-rows.length) (by omega) (by omega) (.tup []) (.tup []) (ae .i64 0) (ae .i64 left) (aR rows) (ae .i64 rows.length) (ae .i64 (left-rows.length)) (ae .i64 (left-rows.length)) (aF false) (.tup []) (.tup []) (.tup []) (.tup []) (.tup []) (.tup []) (.tup []) (.tup []) (.tup []) (.tup []) (.tup []) (.tup []) (.tup []) (.tup []) (.tup []) (.tup []) []).get
  simp only[List.drop_zero]at q3
  have hls:less (left-rows.length) (db rows)=less left (rows.length+db rows):=by rw[hle];exact rZ (by rw[←hle];omega)
  rw[hls]at q3
  simp at q5
  rcases q3 with⟨rfl,_,q4⟩|⟨rfl,q6,q4⟩
  ·obtain⟨_,q7⟩:=Zb.1 q4
   simp[iC,i7,hw,hn',q1,q5,q7]
  ·obtain⟨_,q7⟩:=Zb.1 q4
   simp[iC,i7,hw,hn',q1,q5,q7,q6]
end
end Gi
namespace Gi
open Go Go.RowKit
set_option maxRecDepth 4000
abbrev VU :PTy→Type
 | .int _=>Int
 | .bool=>Bool
 | .str=>List UInt8
 | .lst _=>List (List PV)
abbrev TQ :(t:PTy)→VU t→PV
 | .int k,n=> .int k n
 | .bool,b=> .bool b
 | .str,s=> .str s
 | .lst _,l=> .lst l
abbrev Sz :List PTy→Type
 |[]=>Unit
 |t::ts=>VU t×Sz ts
abbrev Vj :(ts:List PTy)→Sz ts→List PV
 |[],_=>[]
 |t::ts,(x,y)=>TQ t x::Vj ts y
def UT :(ts:List PTy)→Sz ts→Prop
 |[],_=>True
 |t::ts,(x,y)=>oI t (TQ t x)∧UT ts y
theorem b8 :∀{ts:List PTy}{r:List PV},bF ts r→∃x:Sz ts,r=Vj ts x∧UT ts x
 |[],r,h=>⟨(),fL h,trivial⟩
 |t::ts,r,h=>by
  obtain⟨p,q,rfl,g,k⟩:=dO h
  obtain⟨y,rfl,l⟩:=b8 k
  cases t with
  |int=>obtain⟨n,rfl⟩:=lX g;exact⟨(n,y),rfl,g,l⟩
  |bool=>obtain⟨n,rfl⟩:=kH g;exact⟨(n,y),rfl,g,l⟩
  |str=>obtain⟨n,rfl⟩:=jY g;exact⟨(n,y),rfl,g,l⟩
  |lst=>obtain⟨n,rfl⟩:=oJ g;exact⟨(n,y),rfl,g,l⟩
section
variable {ext:Nat→List V→Option V}
theorem VS {rows:List (List PV)}(h:oI (.lst kl) (.lst rows)):∀r∈rows,∃s:List UInt8,r=[.str s]∧s.length≤maxLen:=by
 obtain⟨_,hr⟩:=aX h
 intro r m
 obtain⟨⟨c0,_⟩,rfl,g0,_⟩:=b8 (hr r m)
 exact⟨c0,rfl,g0⟩
theorem M8 :jZ Ph ext 89 yy:=cM (ss:=uF) rfl (bv ⟨rfl,rfl,trivial⟩)
theorem MU :kI Ph ext 87 yy:=cY (ss:=uF) rfl (bv ⟨rfl,rfl,trivial⟩)
theorem LZ :jX Ph ext 91 yy:=cL (ss:=uF) rfl (bv ⟨rfl,rfl,trivial⟩)
theorem Lo :kq Ph ext 66 nT:=iv rfl rfl rfl rfl (by decide) (by decide) M8 (fun _=>rfl)
theorem K8 :ko Ph ext 64 nT:=jE rfl rfl MU
theorem JN :km Ph ext 69 nT:=ir rfl rfl LZ
theorem Lq :jZ Ph ext 34 GU:=cM (ss:=Gw) rfl (bv ⟨rfl,rfl,rfl,trivial⟩)
theorem La :kI Ph ext 30 GU:=cY (ss:=Gw) rfl (bv ⟨rfl,rfl,rfl,trivial⟩)
theorem JR :jX Ph ext 38 GU:=cL (ss:=Gw) rfl (bv ⟨rfl,rfl,rfl,trivial⟩)
theorem Lu :jZ Ph ext 35 ut:=cM (ss:=rz) rfl (bv ⟨⟨Lo,rfl⟩,trivial⟩)
theorem Ld :kI Ph ext 31 ut:=cY (ss:=rz) rfl (bv ⟨K8,trivial⟩)
theorem JX :jX Ph ext 39 ut:=cL (ss:=rz) rfl (bv ⟨JN,trivial⟩)
theorem Qj :jZ Ph ext 7 ER:=cM (ss:=yO) rfl (bv ⟨⟨Lq,fun _=>rfl⟩,⟨Lu,nofun⟩,trivial⟩)
theorem Qb :kI Ph ext 5 ER:=cY (ss:=yO) rfl (bv ⟨La,Ld,trivial⟩)
theorem Pb :jX Ph ext 9 ER:=cL (ss:=yO) rfl (bv ⟨JR,JX,trivial⟩)
theorem Lr :jZ Ph ext 73 uq:=cM (ss:=rt) rfl (bv ⟨rfl,rfl,trivial⟩)
theorem Lb :kI Ph ext 70 uq:=cY (ss:=rt) rfl (bv ⟨rfl,rfl,trivial⟩)
theorem JS :jX Ph ext 76 uq:=cL (ss:=rt) rfl (bv ⟨rfl,rfl,trivial⟩)
theorem IY :kq Ph ext 42 nA:=iv rfl rfl rfl rfl (by decide) (by decide) Lr (fun _=>rfl)
theorem IH :ko Ph ext 40 nA:=jE rfl rfl Lb
theorem Hz :km Ph ext 44 nA:=ir rfl rfl JS
theorem M9 :jZ Ph ext 93 yz:=cM (ss:=uG) rfl (bv ⟨rfl,rfl,rfl,rfl,trivial⟩)
theorem MV :kI Ph ext 92 yz:=cY (ss:=uG) rfl (bv ⟨rfl,rfl,rfl,rfl,trivial⟩)
theorem L0 :jX Ph ext 94 yz:=cL (ss:=uG) rfl (bv ⟨rfl,rfl,rfl,rfl,trivial⟩)
theorem Lp :kq Ph ext 74 nU:=iv rfl rfl rfl rfl (by decide) (by decide) M9 (fun _=>rfl)
theorem K9 :ko Ph ext 71 nU:=jE rfl rfl MV
theorem JQ :km Ph ext 77 nU:=ir rfl rfl L0
theorem Qi :kq Ph ext 75 kF:=IX rfl rfl rfl (by decide)
theorem Qa :ko Ph ext 72 kF:=Cr rfl rfl
theorem Gz :km Ph ext 78 kF:=Hy rfl rfl
theorem IZ :jZ Ph ext 43 so:=cM (ss:=oZ) rfl (bv ⟨⟨Lp,rfl⟩,rfl,⟨Qi,rfl⟩,rfl,rfl,rfl,trivial⟩)
theorem II :kI Ph ext 41 so:=cY (ss:=oZ) rfl (bv ⟨K9,rfl,Qa,rfl,rfl,rfl,trivial⟩)
theorem HD :jX Ph ext 45 so:=cL (ss:=oZ) rfl (bv ⟨JQ,rfl,Gz,rfl,rfl,rfl,trivial⟩)
theorem Qn :jZ Ph ext 12 ET:=cM (ss:=yQ) rfl (bv ⟨rfl,rfl,rfl,rfl,⟨IY,rfl⟩,⟨IZ,nofun⟩,trivial⟩)
theorem Qd :kI Ph ext 10 ET:=cY (ss:=yQ) rfl (bv ⟨rfl,rfl,rfl,rfl,IH,II,trivial⟩)
theorem Pg :jX Ph ext 14 ET:=cL (ss:=yQ) rfl (bv ⟨rfl,rfl,rfl,rfl,Hz,HD,trivial⟩)
theorem Na :kq Ph ext 53 nH:=iv rfl rfl rfl rfl (by decide) (by decide) Qj nofun
theorem MW :ko Ph ext 52 nH:=jE rfl rfl Qb
theorem L1 :km Ph ext 55 nH:=ir rfl rfl Pb
theorem IS :jZ Ph ext 80 uW:=cM (ss:=uD) rfl (bv ⟨rfl,rfl,trivial⟩)
theorem Hu :jX Ph ext 82 uW:=cL (ss:=uD) rfl (bv ⟨rfl,rfl,trivial⟩)
theorem Gd :kq Ph ext 48 lO:=iv rfl rfl rfl rfl (by decide) (by decide) IS (fun _=>rfl)
theorem F6 :ko Ph ext 46 lO:=Cr rfl rfl
theorem Fo :km Ph ext 50 lO:=ir rfl rfl Hu
theorem Ni :jZ Ph ext 81 yA:=cM (ss:=uJ) rfl (bv ⟨rfl,rfl,⟨Lq,fun _=>rfl⟩,rfl,rfl,trivial⟩)
theorem M5 :kI Ph ext 79 yA:=cY (ss:=uJ) rfl (bv ⟨rfl,rfl,La,rfl,rfl,trivial⟩)
theorem L7 :jX Ph ext 83 yA:=cL (ss:=uJ) rfl (bv ⟨rfl,rfl,JR,rfl,rfl,trivial⟩)
theorem Ba :kq Ph ext 49 ji:=iv rfl rfl rfl rfl (by decide) (by decide) Ni (fun _=>rfl)
theorem A8 :ko Ph ext 47 ji:=jE rfl rfl M5
theorem AE :km Ph ext 51 ji:=ir rfl rfl L7
theorem wQ :jZ Ph ext 22 tb:=cM (ss:=uH) rfl (bv ⟨rfl,⟨Na,rfl⟩,rfl,trivial⟩)
theorem wP :kI Ph ext 20 tb:=cY (ss:=uH) rfl (bv ⟨rfl,MW,rfl,trivial⟩)
theorem vR :jX Ph ext 24 tb:=cL (ss:=uH) rfl (bv ⟨rfl,L1,rfl,trivial⟩)
theorem Lv :jZ Ph ext 17 uu:=cM (ss:=rB) rfl (bv ⟨⟨wQ,nofun⟩,⟨Gd,rfl⟩,⟨Ba,rfl⟩,trivial⟩)
theorem Le :kI Ph ext 15 uu:=cY (ss:=rB) rfl (bv ⟨wP,F6,A8,trivial⟩)
theorem JY :jX Ph ext 19 uu:=cL (ss:=rB) rfl (bv ⟨vR,Fo,AE,trivial⟩)
theorem Lw :kq Ph ext 60 mM:=iv rfl rfl rfl rfl (by decide) (by decide) wQ nofun
theorem Lf :ko Ph ext 57 mM:=jE rfl rfl wP
theorem JZ :km Ph ext 63 mM:=ir rfl rfl vR
theorem EZ :kq Ph ext 255 k8:=IX rfl rfl rfl (by decide)
theorem EI :ko Ph ext 251 k8:=Cr rfl rfl
theorem C6 :km Ph ext 259 k8:=Hy rfl rfl
theorem Gh :jZ Ph ext 281 ql:=cM (ss:=m6) rfl (bv ⟨rfl,rfl,rfl,⟨EZ,rfl⟩,rfl,trivial⟩)
theorem Gb :kI Ph ext 280 ql:=cY (ss:=m6) rfl (bv ⟨rfl,rfl,rfl,EI,rfl,trivial⟩)
theorem Ft :jX Ph ext 282 ql:=cL (ss:=m6) rfl (bv ⟨rfl,rfl,rfl,C6,rfl,trivial⟩)
theorem Ln :jZ Ph ext 278 uo:=cM (ss:=rq) rfl (bv ⟨rfl,rfl,⟨Gh,nofun⟩,trivial⟩)
theorem K7 :kI Ph ext 277 uo:=cY (ss:=rq) rfl (bv ⟨rfl,rfl,Gb,trivial⟩)
theorem JM :jX Ph ext 279 uo:=cL (ss:=rq) rfl (bv ⟨rfl,rfl,Ft,trivial⟩)
theorem IU :kq Ph ext 273 ny:=iv rfl rfl rfl rfl (by decide) (by decide) Ln nofun
theorem IF :ko Ph ext 271 ny:=jE rfl rfl K7
theorem Hw :km Ph ext 275 ny:=ir rfl rfl JM
theorem M7 :jZ Ph ext 265 yx:=cM (ss:=uE) rfl (bv ⟨rfl,⟨IU,rfl⟩,trivial⟩)
theorem MR :kI Ph ext 262 yx:=cY (ss:=uE) rfl (bv ⟨rfl,IF,trivial⟩)
theorem LY :jX Ph ext 268 yx:=cL (ss:=uE) rfl (bv ⟨rfl,Hw,trivial⟩)
theorem Lm :kq Ph ext 253 nS:=iv rfl rfl rfl rfl (by decide) (by decide) M7 nofun
theorem K6 :ko Ph ext 249 nS:=jE rfl rfl MR
theorem JL :km Ph ext 257 nS:=ir rfl rfl LY
theorem Gg :jZ Ph ext 274 qk:=cM (ss:=m5) rfl (bv ⟨rfl,rfl,trivial⟩)
theorem F9 :kI Ph ext 272 qk:=cY (ss:=m5) rfl (bv ⟨rfl,rfl,trivial⟩)
theorem Fs :jX Ph ext 276 qk:=cL (ss:=m5) rfl (bv ⟨rfl,rfl,trivial⟩)
theorem E4 :kq Ph ext 266 gZ:=iv rfl rfl rfl rfl (by decide) (by decide) Gg (fun _=>rfl)
theorem EL :ko Ph ext 263 gZ:=jE rfl rfl F9
theorem C7 :km Ph ext 269 gZ:=ir rfl rfl Fs
theorem yD :jZ Ph ext 231 jU:=cM (ss:=iA) rfl (bv ⟨rfl,rfl,rfl,rfl,trivial⟩)
theorem yw :kI Ph ext 227 jU:=cY (ss:=iA) rfl (bv ⟨rfl,rfl,rfl,rfl,trivial⟩)
theorem xd :jX Ph ext 235 jU:=cL (ss:=iA) rfl (bv ⟨rfl,rfl,rfl,rfl,trivial⟩)
theorem Ge :jZ Ph ext 232 qi:=cM (ss:=mZ) rfl (bv ⟨⟨Lm,rfl⟩,trivial⟩)
theorem F7 :kI Ph ext 228 qi:=cY (ss:=mZ) rfl (bv ⟨K6,trivial⟩)
theorem Fp :jX Ph ext 236 qi:=cL (ss:=mZ) rfl (bv ⟨JL,trivial⟩)
theorem Gf :jZ Ph ext 254 qj:=cM (ss:=m4) rfl (bv ⟨rfl,rfl,⟨Lw,rfl⟩,⟨E4,rfl⟩,trivial⟩)
theorem F8 :kI Ph ext 250 qj:=cY (ss:=m4) rfl (bv ⟨rfl,rfl,Lf,EL,trivial⟩)
theorem Fq :jX Ph ext 258 qj:=cL (ss:=m4) rfl (bv ⟨rfl,rfl,JZ,C7,trivial⟩)
theorem Qh :jZ Ph ext 233 EQ:=cM (ss:=yN) rfl (bv ⟨⟨Gf,nofun⟩,⟨EZ,rfl⟩,rfl,trivial⟩)
theorem P9 :kI Ph ext 229 EQ:=cY (ss:=yN) rfl (bv ⟨F8,EI,rfl,trivial⟩)
theorem O9 :jX Ph ext 237 EQ:=cL (ss:=yN) rfl (bv ⟨Fq,C6,rfl,trivial⟩)
theorem Lt :jZ Ph ext 267 ur:=cM (ss:=ru) rfl (bv ⟨rfl,rfl,⟨Ba,rfl⟩,trivial⟩)
theorem Lc :kI Ph ext 264 ur:=cY (ss:=ru) rfl (bv ⟨rfl,rfl,A8,trivial⟩)
theorem JW :jX Ph ext 270 ur:=cL (ss:=ru) rfl (bv ⟨rfl,rfl,AE,trivial⟩)
theorem Qp :jZ Ph ext 256 EV:=cM (ss:=yS) rfl (bv ⟨⟨Lt,nofun⟩,rfl,rfl,trivial⟩)
theorem Qf :kI Ph ext 252 EV:=cY (ss:=yS) rfl (bv ⟨Lc,rfl,rfl,trivial⟩)
theorem Pj :jX Ph ext 260 EV:=cL (ss:=yS) rfl (bv ⟨JW,rfl,rfl,trivial⟩)
theorem I0 :jZ Ph ext 234 sp:=cM (ss:=o4) rfl (bv ⟨⟨wQ,nofun⟩,rfl,⟨Qp,nofun⟩,trivial⟩)
theorem IJ :kI Ph ext 230 sp:=cY (ss:=o4) rfl (bv ⟨wP,rfl,Qf,trivial⟩)
theorem HE :jX Ph ext 238 sp:=cL (ss:=o4) rfl (bv ⟨vR,rfl,Pj,trivial⟩)
theorem Ll :jZ Ph ext 201 um:=cM (ss:=rp) rfl (bv ⟨rfl,rfl,⟨yD,fun _=>rfl⟩,⟨Ge,nofun⟩,⟨Qh,nofun⟩,⟨I0,nofun⟩,rfl,rfl,trivial⟩)
theorem K5 :kI Ph ext 198 um:=cY (ss:=rp) rfl (bv ⟨rfl,rfl,yw,F7,P9,IJ,rfl,rfl,trivial⟩)
theorem JK :jX Ph ext 205 um:=cL (ss:=rp) rfl (bv ⟨rfl,rfl,xd,Fp,O9,HE,rfl,rfl,trivial⟩)
theorem IT :kq Ph ext 167 iL:=iv rfl rfl rfl rfl (by decide) (by decide) Ll nofun
theorem ID :ko Ph ext 163 iL:=jE rfl rfl K5
theorem Hv :km Ph ext 171 iL:=ir rfl rfl JK
theorem Nf :kq Ph ext 134 nI:=iv rfl rfl rfl rfl (by decide) (by decide) Qn nofun
theorem MZ :ko Ph ext 128 nI:=jE rfl rfl Qd
theorem L4 :km Ph ext 140 nI:=ir rfl rfl Pg
theorem Qk :jZ Ph ext 202 ES:=cM (ss:=yP) rfl (bv ⟨rfl,rfl,rfl,rfl,trivial⟩)
theorem Qc :kI Ph ext 199 ES:=cY (ss:=yP) rfl (bv ⟨rfl,rfl,rfl,rfl,trivial⟩)
theorem Pd :jX Ph ext 206 ES:=cL (ss:=yP) rfl (bv ⟨rfl,rfl,rfl,rfl,trivial⟩)
theorem Nb :kq Ph ext 168 mK:=iv rfl rfl rfl rfl (by decide) (by decide) Qk (fun _=>rfl)
theorem MX :ko Ph ext 164 mK:=jE rfl rfl Qc
theorem L2 :km Ph ext 172 mK:=ir rfl rfl Pd
theorem Ql :jZ Ph ext 203 IR:=cM (ss:=Ho) rfl (bv ⟨rfl,rfl,rfl,trivial⟩)
theorem Pe :jX Ph ext 207 IR:=cL (ss:=Ho) rfl (bv ⟨rfl,rfl,rfl,trivial⟩)
theorem Nc :kq Ph ext 169 mL:=iv rfl rfl rfl rfl (by decide) (by decide) Ql (fun _=>rfl)
theorem MY :ko Ph ext 165 mL:=Cr rfl rfl
theorem L3 :km Ph ext 173 mL:=ir rfl rfl Pe
theorem I3 :kq Ph ext 204 kl:=IX rfl rfl rfl (by decide)
theorem IP :ko Ph ext 200 kl:=fun _ h _ a b=>IN (aX h).1 (VS h) a b
theorem HH :km Ph ext 208 kl:=Hy rfl rfl
theorem Qo :jZ Ph ext 170 EU:=cM (ss:=yR) rfl (bv ⟨rfl,rfl,⟨I3,rfl⟩,rfl,trivial⟩)
theorem Qe :kI Ph ext 166 EU:=cY (ss:=yR) rfl (bv ⟨rfl,rfl,IP,rfl,trivial⟩)
theorem Pi :jX Ph ext 174 EU:=cL (ss:=yR) rfl (bv ⟨rfl,rfl,HH,rfl,trivial⟩)
theorem Ng :kq Ph ext 137 nJ:=iv rfl rfl rfl rfl (by decide) (by decide) Qo nofun
theorem M2 :ko Ph ext 131 nJ:=jE rfl rfl Qe
theorem L5 :km Ph ext 143 nJ:=ir rfl rfl Pi
theorem I1 :kq Ph ext 138 jn:=iv rfl rfl rfl rfl (by decide) (by decide) Lv nofun
theorem IL :ko Ph ext 132 jn:=jE rfl rfl Le
theorem HF :km Ph ext 144 jn:=ir rfl rfl JY
theorem I2 :jZ Ph ext 133 kj:=cM (ss:=o5) rfl (bv ⟨⟨IT,rfl⟩,trivial⟩)
theorem IM :kI Ph ext 127 kj:=cY (ss:=o5) rfl (bv ⟨ID,trivial⟩)
theorem HG :jX Ph ext 139 kj:=cL (ss:=o5) rfl (bv ⟨Hv,trivial⟩)
theorem E5 :jZ Ph ext 135 hC:=cM (ss:=lR) rfl (bv ⟨⟨Nb,rfl⟩,trivial⟩)
theorem EO :kI Ph ext 129 hC:=cY (ss:=lR) rfl (bv ⟨MX,trivial⟩)
theorem C8 :jX Ph ext 141 hC:=cL (ss:=lR) rfl (bv ⟨L2,trivial⟩)
theorem IV :jZ Ph ext 136 ki:=cM (ss:=oY) rfl (bv ⟨⟨Nc,rfl⟩,trivial⟩)
theorem IG :kI Ph ext 130 ki:=cY (ss:=oY) rfl (bv ⟨MY,trivial⟩)
theorem Hx :jX Ph ext 142 ki:=cL (ss:=oY) rfl (bv ⟨L3,trivial⟩)
theorem Nh :jZ Ph ext 106 jd:=cM (ss:=uI) rfl (bv ⟨rfl,rfl,rfl,⟨I2,nofun⟩,⟨Nf,rfl⟩,rfl,⟨E5,nofun⟩,⟨IV,nofun⟩,⟨Ng,rfl⟩,⟨I1,rfl⟩,trivial⟩)
theorem M4 :kI Ph ext 104 jd:=cY (ss:=uI) rfl (bv ⟨rfl,rfl,rfl,IM,MZ,rfl,EO,IG,M2,IL,trivial⟩)
theorem L6 :jX Ph ext 108 jd:=cL (ss:=uI) rfl (bv ⟨rfl,rfl,rfl,HG,L4,rfl,C8,Hx,L5,HF,trivial⟩)
theorem cQ :Bb Ph ext d8 432:=UD rfl
theorem BW :pE Ph ext d8 448 lO:=eJ cQ rfl rfl ⟨rfl,⟨rfl,trivial⟩⟩
theorem xV :pE Ph ext d8 474 k8:=eJ cQ rfl rfl ⟨rfl,trivial⟩
theorem Eb :pE Ph ext d8 485 ny:=eJ cQ rfl rfl ⟨rfl,⟨rfl,⟨rfl,⟨rfl,⟨rfl,⟨rfl,xV,⟨rfl,trivial⟩⟩⟩⟩⟩⟩⟩
theorem FV :pE Ph ext d8 471 nS:=eJ cQ rfl rfl ⟨rfl,⟨rfl,Eb,trivial⟩⟩
theorem FW :pE Ph ext d8 475 nT:=eJ cQ rfl rfl ⟨rfl,⟨rfl,trivial⟩⟩
theorem sR :pE Ph ext d8 447 nH:=eJ cQ rfl rfl ⟨rfl,⟨rfl,⟨rfl,⟨rfl,FW,trivial⟩⟩⟩⟩
theorem FY :pE Ph ext d8 472 mM:=eJ cQ rfl rfl ⟨rfl,⟨rfl,sR,⟨rfl,trivial⟩⟩⟩
theorem Ab :pE Ph ext d8 473 gZ:=eJ cQ rfl rfl ⟨rfl,⟨rfl,trivial⟩⟩
theorem vE :pE Ph ext d8 449 ji:=eJ cQ rfl rfl ⟨rfl,⟨rfl,⟨rfl,⟨rfl,⟨rfl,⟨rfl,⟨rfl,trivial⟩⟩⟩⟩⟩⟩⟩
theorem Ea :pE Ph ext d8 441 iL:=eJ cQ rfl rfl ⟨rfl,⟨rfl,⟨rfl,⟨rfl,⟨rfl,⟨rfl,⟨rfl,FV,⟨rfl,⟨rfl,⟨rfl,FY,⟨rfl,Ab,⟨rfl,xV,⟨rfl,⟨rfl,⟨rfl,sR,⟨rfl,⟨rfl,⟨rfl,⟨rfl,⟨rfl,vE,⟨rfl,⟨rfl,⟨rfl,⟨rfl,trivial⟩⟩⟩⟩⟩⟩⟩⟩⟩⟩⟩⟩⟩⟩⟩⟩⟩⟩⟩⟩⟩⟩⟩⟩
theorem Ib :pE Ph ext d8 446 mL:=eJ cQ rfl rfl ⟨rfl,⟨rfl,⟨rfl,trivial⟩⟩⟩
theorem Ec :OA Ph ext d8 429 ki:=xW (ss:=[.l mL 446]) rfl rfl ⟨Ib,trivial⟩
theorem FX :pE Ph ext d8 443 nU:=eJ cQ rfl rfl ⟨rfl,⟨rfl,⟨rfl,⟨rfl,trivial⟩⟩⟩⟩
theorem AQ :pE Ph ext d8 444 kF:=eJ cQ rfl rfl ⟨rfl,trivial⟩
theorem Ed :pE Ph ext d8 442 nA:=eJ cQ rfl rfl ⟨rfl,⟨rfl,trivial⟩⟩
theorem Ia :pE Ph ext d8 445 mK:=eJ cQ rfl rfl ⟨rfl,⟨rfl,⟨rfl,⟨rfl,trivial⟩⟩⟩⟩
theorem Ac :OA Ph ext d8 428 hC:=xW (ss:=[.l mK 445]) rfl rfl ⟨Ia,trivial⟩
theorem Ic :pE Ph ext d8 427 nI:=eJ cQ rfl rfl ⟨rfl,⟨rfl,⟨rfl,⟨rfl,⟨rfl,Ed,⟨rfl,FX,⟨rfl,⟨rfl,AQ,⟨rfl,⟨rfl,⟨rfl,trivial⟩⟩⟩⟩⟩⟩⟩⟩⟩⟩⟩
theorem Ee :pE Ph ext d8 431 jn:=eJ cQ rfl rfl ⟨rfl,⟨rfl,sR,⟨rfl,⟨rfl,BW,⟨rfl,vE,trivial⟩⟩⟩⟩⟩
theorem Eg :pE Ph ext d8 421 kl:=eJ cQ rfl rfl ⟨rfl,trivial⟩
theorem Ie :pE Ph ext d8 430 nJ:=eJ cQ rfl rfl ⟨rfl,⟨rfl,⟨rfl,Eg,⟨rfl,trivial⟩⟩⟩⟩
theorem Ef :OA Ph ext d8 426 kj:=xW (ss:=[.l iL 441]) rfl rfl ⟨Ea,trivial⟩
theorem If :OA Ph ext d8 420 jd:=xW (ss:=[.k [.int .i64, .bool, .int .i64], .s kj 426, .l nI 427, .k [.int .i64], .s hC 428, .s ki 429, .l nJ 430, .l jn 431]) rfl rfl ⟨rfl,⟨Ef,⟨Ic,⟨rfl,⟨Ac,⟨Ec,⟨Ie,⟨Ee,trivial⟩⟩⟩⟩⟩⟩⟩⟩
theorem J9 :G5 Ph ext d8 465 kF:=Rg cQ rfl ⟨rfl,trivial⟩
end
end Gi
