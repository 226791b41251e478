/- Of this proof. -/
import Derived.Test.YtbeaonmepfkmmaaGreatGta
set_option linter.unusedSimpArgs false
set_option linter.unusedVariables false
namespace Gi
open Go Go.RowKit
attribute [local simp] start mr aG aK bA cI bZ cJ Opd.ev put V.cells plain bt gD isInt isStr isBool bin ee un asList L.view au V.view viewL done aT az dO b6 comp aN bU aw V.flat L.flat cZ cV br putAt thaw thawL freezeVs freezeLs freezeL V.mut L.mut aH aJ
theorem AI {f g:St→Option (Ex×St)}(h:g=f)(σ:St):aV f σ=(match g σ with
 |some (.normal,σ')=>aV f σ'
 |r=>r):=by rw[h];exact uQ f σ
theorem GN (p:PV)(ps:List PV):gM (p::ps)=sz p+gM ps:=by simp only[gM]
theorem eF (s:List UInt8):sz (.str s)=s.length:=by simp only[sz]
theorem bT :∀{l:List PV}{i:Nat}{p:PV},l[i]? =some p→sz p≤gM l
 |[],_,_,h=>by simp at h
 |q::l,0,p,h=>by simp at h;subst h;rw[GN];exact Nat.le_add_right _ _
 |q::l,i+1,p,h=>by rw[GN];exact Nat.le_trans (bT (l:=l) (i:=i) (by simpa using h)) (Nat.le_add_left _ _)
def PN (x:Option (Ex×St))(Q:Ex→St→Prop):Prop:=
 match x with
 |some (e,σ)=>Q e σ
 |none=>False
theorem PN.get {x:Option (Ex×St)}{Q:Ex→St→Prop}(h:PN x Q):∃e σ,x=some (e,σ)∧Q e σ:=by
 unfold PN at h
 split at h
 ·exact⟨_,_,rfl,h⟩
 ·exact h.elim
theorem Gg {e:Ex}{σ:St}{Q:Ex→St→Prop}:PN (some (e,σ)) Q=Q e σ:=rfl
section
variable {ext:Nat→List V→Option V}
theorem Mz {rows:List (List PV)}(hl:rows.length≤maxLen)(hr:∀r∈rows,∃s:List UInt8,r=[.str s]∧s.length≤maxLen):∀(m k:Nat)(i:Int),i=k→k+m=rows.length→∀(left:Int),0≤left→left≤1048576→∀(x2 x3 x4 x6 x7 x8 x9 x10 x11 x12 x13 x14 x15 x16 x17 x18 x19 x20 x21 x22 x23 x24 x25 x26 x27:V)(h:List AObj),
 PN (aV (aG (ag Ph ext) aV ed) ⟨(bi rows::ai .i64 left::x2::x3::x4::ai .i64 i::x6::x7::x8::x9::x10::x11::x12::x13::x14::x15::x16::x17::x18::x19::x20::x21::x22::x23::x24::x25::x26::x27::[]),h⟩) fun e σ'=>σ'.h=h∧σ'.t.length=28∧((e= .exit 0∧0≤less left (dW (rows.drop k))∧σ'.t[1]? =some (ai .i64 (less left (dW (rows.drop k)))))∨(e= .ret∧less left (dW (rows.drop k))= -1∧σ'.t[4]? =some (ai .i64 (-1)))):=by
 generalize hF:aG (ag Ph ext) aV ed=F
 intro m
 induction m with
 |zero=>
  intro k i hi hk left h0 h1 x2 x3 x4 x6 x7 x8 x9 x10 x11 x12 x13 x14 x15 x16 x17 x18 x19 x20 x21 x22 x23 x24 x25 x26 x27 h
  subst hi
  have hk':k=rows.length:=by omega
  subst hk'
  have hl0:less left (dW (rows.drop rows.length))=left:=by simp[dW,less];omega
  rw[hl0,AI hF]
  simp[ed,j3,h0,Gg]
 |succ m ih=>
  intro k i hi hk left h0 h1 x2 x3 x4 x6 x7 x8 x9 x10 x11 x12 x13 x14 x15 x16 x17 x18 x19 x20 x21 x22 x23 x24 x25 x26 x27 h
  subst hi
  have hlt:k<rows.length:=by omega
  have hw:=nZ (k:=k) (by unfold maxLen at hl;omega)
  obtain⟨s,hrk,hs⟩:=hr _ (List.getElem_mem hlt)
  unfold maxLen at hs
  have hw2:IntKind.i64.wrap (left-(s.length:Int))=left-(s.length:Int):=by rw[IntKind.wrap_i64];omega
  rw[Bw hlt,hrk]
  have hsz:gM [PV.str s]=s.length:=by simp[gM,sz]
  rw[hsz]
  by_cases hneg:left<(s.length:Int)
  ·have e1:less left (s.length+dW (rows.drop (k+1)))= -1:=by unfold less;rw[if_pos (by omega)]
   rw[e1,AI hF]
   have hn:left-(s.length:Int)<0:=by omega
   simp[ed,j3,hlt,hrk,hw,hw2,hn,Gg]
  ·have hn:¬left-(s.length:Int)<0:=by omega
   have key:=ih (k+1) ((k:Int)+1) (by omega) (by omega) (left-s.length) (by omega) (by omega)
   have e1:less (left-s.length) (dW (rows.drop (k+1)))=less left (s.length+dW (rows.drop (k+1))):=by
    have:left-(s.length:Int)=less left s.length:=by unfold less;rw[if_neg hneg]
    rw[this];exact sF (by rw[←this];omega)
   rw[e1]at key
   clear ih
   rw[AI hF]
   simp[ed,j3,hlt,hrk,hw,hw2,hn]
   exact key _ _ _ _ _ _ _ _ _ _ _ _ _ _ _ _ _ _ _ _ _ _ _ _ _ _
theorem IA {rows:List (List PV)}(hl:rows.length≤maxLen)(hr:∀r∈rows,∃s:List UInt8,r=[.str s]∧s.length≤maxLen){left:Int}(h0:0≤left)(h1:left≤1048576):ag Ph ext 200 [bi rows,ai .i64 left]=some (ai .i64 (less left (sz (.lst rows)))):=by
 refine gA (fn:=iW) rfl ?_
 have hw:IntKind.i64.wrap (left-rows.length)=left-rows.length:=by unfold maxLen at hl;rw[IntKind.wrap_i64];omega
 rw[pj]
 by_cases hn:left<rows.length
 ·have hn':left-(rows.length:Int)<0:=by omega
  have e:less left (rows.length+dW rows)= -1:=by unfold less;rw[if_pos (by omega)]
  rw[e]
  generalize hF:aG (ag Ph ext) aV ed=F
  simp[iW,j3,hF,hw,hn']
 ·have hn':¬left-(rows.length:Int)<0:=by omega
  have hle:left-(rows.length:Int)=less left rows.length:=by unfold less;rw[if_neg hn]
  obtain⟨e,⟨t',h'⟩,q1,q2,q5,q3⟩:=(Mz (ext:=ext) hl hr rows.length 0 0 rfl (by omega) (left-rows.length) (by omega) (by omega) (.tup []) (.tup []) (ai .i64 0) (ai .i64 left) (bi rows) (ai .i64 rows.length) (ai .i64 (left-rows.length)) (ai .i64 (left-rows.length)) (aD false) (.tup []) (.tup []) (.tup []) (.tup []) (.tup []) (.tup []) (.tup []) (.tup []) (.tup []) (.tup []) (.tup []) (.tup []) (.tup []) (.tup []) (.tup []) (.tup []) []).get
  simp only[List.drop_zero]at q3
  have hls:less (left-rows.length) (dW rows)=less left (rows.length+dW rows):=by rw[hle];exact sF (by rw[←hle];omega)
  rw[hls]at q3
  simp at q5
  rcases q3 with⟨rfl,_,q4⟩|⟨rfl,q6,q4⟩
  ·obtain⟨_,q7⟩:=List.getElem?_eq_some_iff.1 q4
   simp[iW,j3,hw,hn',q1,q5,q7]
  ·obtain⟨_,q7⟩:=List.getElem?_eq_some_iff.1 q4
   simp[iW,j3,hw,hn',q1,q5,q7,q6]
end
end Gi
namespace Gi
open Go Go.RowKit
set_option maxRecDepth 4000
abbrev U0 :PTy→Type
 | .int _=>Int
 | .bool=>Bool
 | .str=>List UInt8
 | .lst _=>List (List PV)
abbrev SN :(t:PTy)→U0 t→PV
 | .int k,n=> .int k n
 | .bool,b=> .bool b
 | .str,s=> .str s
 | .lst _,l=> .lst l
abbrev RH :List PTy→Type
 |[]=>Unit
 |t::ts=>U0 t×RH ts
abbrev Uo :(ts:List PTy)→RH ts→List PV
 |[],_=>[]
 |t::ts,(x,y)=>SN t x::Uo ts y
def TU :(ts:List PTy)→RH ts→Prop
 |[],_=>True
 |t::ts,(x,y)=>zB t (SN t x)∧TU ts y
theorem cz :∀{ts:List PTy}{r:List PV},cP ts r→∃x:RH ts,r=Uo ts x∧TU ts x
 |[],r,h=>⟨(),ju h,trivial⟩
 |t::ts,r,h=>by
  obtain⟨p,q,rfl,g,k⟩:=fk h
  obtain⟨y,rfl,l⟩:=cz k
  cases t with
  |int=>obtain⟨n,rfl⟩:=qU g;exact⟨(n,y),rfl,g,l⟩
  |bool=>obtain⟨n,rfl⟩:=p6 g;exact⟨(n,y),rfl,g,l⟩
  |str=>obtain⟨n,rfl⟩:=py g;exact⟨(n,y),rfl,g,l⟩
  |lst=>obtain⟨n,rfl⟩:=vy g;exact⟨(n,y),rfl,g,l⟩
section
variable {ext:Nat→List V→Option V}
theorem UY {rows:List (List PV)}(h:zB (.lst nY) (.lst rows)):∀r∈rows,∃s:List UInt8,r=[.str s]∧s.length≤maxLen:=by
 obtain⟨_,hr⟩:=bz h
 intro r m
 obtain⟨⟨c0,_⟩,rfl,g0,_⟩:=cz (hr r m)
 exact⟨c0,rfl,g0⟩
theorem ME :kE Ph ext 89 zp:=cX (ss:=vD) rfl (bL ⟨rfl,rfl,trivial⟩)
theorem Mr :la Ph ext 87 zp:=dh (ss:=vD) rfl (bL ⟨rfl,rfl,trivial⟩)
theorem Lz :kD Ph ext 91 zp:=cW (ss:=vD) rfl (bL ⟨rfl,rfl,trivial⟩)
theorem KZ :kU Ph ext 66 sV:=iP rfl rfl rfl rfl (by decide) (by decide) ME (fun _=>rfl)
theorem KG :kT Ph ext 64 sV:=jX rfl rfl Mr
theorem Jv :kS Ph ext 69 sV:=iL rfl rfl Lz
theorem K3 :kE Ph ext 34 GO:=cX (ss:=Gr) rfl (bL ⟨rfl,rfl,rfl,trivial⟩)
theorem KJ :la Ph ext 30 GO:=dh (ss:=Gr) rfl (bL ⟨rfl,rfl,rfl,trivial⟩)
theorem Jz :kD Ph ext 38 GO:=cW (ss:=Gr) rfl (bL ⟨rfl,rfl,rfl,trivial⟩)
theorem K6 :kE Ph ext 35 vo:=cX (ss:=sn) rfl (bL ⟨⟨KZ,rfl⟩,trivial⟩)
theorem KN :la Ph ext 31 vo:=dh (ss:=sn) rfl (bL ⟨KG,trivial⟩)
theorem JE :kD Ph ext 39 vo:=cW (ss:=sn) rfl (bL ⟨Jv,trivial⟩)
theorem Pu :kE Ph ext 7 ET:=cX (ss:=zI) rfl (bL ⟨⟨K3,fun _=>rfl⟩,⟨K6,nofun⟩,trivial⟩)
theorem Pm :la Ph ext 5 ET:=dh (ss:=zI) rfl (bL ⟨KJ,KN,trivial⟩)
theorem Oq :kD Ph ext 9 ET:=cW (ss:=zI) rfl (bL ⟨Jz,JE,trivial⟩)
theorem K4 :kE Ph ext 73 vm:=cX (ss:=sj) rfl (bL ⟨rfl,rfl,trivial⟩)
theorem KK :la Ph ext 70 vm:=dh (ss:=sj) rfl (bL ⟨rfl,rfl,trivial⟩)
theorem JA :kD Ph ext 76 vm:=cW (ss:=sj) rfl (bL ⟨rfl,rfl,trivial⟩)
theorem IK :kU Ph ext 42 sX:=iP rfl rfl rfl rfl (by decide) (by decide) K4 (fun _=>rfl)
theorem Iu :kT Ph ext 40 sX:=jX rfl rfl KK
theorem Ht :kS Ph ext 44 sX:=iL rfl rfl JA
theorem MF :kE Ph ext 93 zq:=cX (ss:=vE) rfl (bL ⟨rfl,rfl,rfl,rfl,trivial⟩)
theorem Ms :la Ph ext 92 zq:=dh (ss:=vE) rfl (bL ⟨rfl,rfl,rfl,rfl,trivial⟩)
theorem LA :kD Ph ext 94 zq:=cW (ss:=vE) rfl (bL ⟨rfl,rfl,rfl,rfl,trivial⟩)
theorem K2 :kU Ph ext 74 sW:=iP rfl rfl rfl rfl (by decide) (by decide) MF (fun _=>rfl)
theorem KH :kT Ph ext 71 sW:=jX rfl rfl Ms
theorem Jy :kS Ph ext 77 sW:=iL rfl rfl LA
theorem Pt :kU Ph ext 75 xL:=IJ rfl rfl rfl (by decide)
theorem Pl :kT Ph ext 72 xL:=CL rfl rfl
theorem Oo :kS Ph ext 78 xL:=Hs rfl rfl
theorem IL :kE Ph ext 43 sY:=cX (ss:=pP) rfl (bL ⟨⟨K2,rfl⟩,rfl,⟨Pt,rfl⟩,rfl,rfl,rfl,trivial⟩)
theorem Iv :la Ph ext 41 sY:=dh (ss:=pP) rfl (bL ⟨KH,rfl,Pl,rfl,rfl,rfl,trivial⟩)
theorem Hu :kD Ph ext 45 sY:=cW (ss:=pP) rfl (bL ⟨Jy,rfl,Oo,rfl,rfl,rfl,trivial⟩)
theorem Py :kE Ph ext 12 EV:=cX (ss:=zL) rfl (bL ⟨rfl,rfl,rfl,rfl,⟨IK,rfl⟩,⟨IL,nofun⟩,trivial⟩)
theorem Po :la Ph ext 10 EV:=dh (ss:=zL) rfl (bL ⟨rfl,rfl,rfl,rfl,Iu,Iv,trivial⟩)
theorem Ow :kD Ph ext 14 EV:=cW (ss:=zL) rfl (bL ⟨rfl,rfl,rfl,rfl,Ht,Hu,trivial⟩)
theorem MG :kU Ph ext 53 rt:=iP rfl rfl rfl rfl (by decide) (by decide) Pu nofun
theorem Mt :kT Ph ext 52 rt:=jX rfl rfl Pm
theorem LB :kS Ph ext 55 rt:=iL rfl rfl Oq
theorem IE :kE Ph ext 80 vU:=cX (ss:=vB) rfl (bL ⟨rfl,rfl,trivial⟩)
theorem Ho :kD Ph ext 82 vU:=cW (ss:=vB) rfl (bL ⟨rfl,rfl,trivial⟩)
theorem Ga :kU Ph ext 48 qG:=iP rfl rfl rfl rfl (by decide) (by decide) IE (fun _=>rfl)
theorem F4 :kT Ph ext 46 qG:=CL rfl rfl
theorem Fq :kS Ph ext 50 qG:=iL rfl rfl Ho
theorem ML :kE Ph ext 81 zw:=cX (ss:=vH) rfl (bL ⟨rfl,rfl,⟨K3,fun _=>rfl⟩,rfl,rfl,trivial⟩)
theorem MA :la Ph ext 79 zw:=dh (ss:=vH) rfl (bL ⟨rfl,rfl,KJ,rfl,rfl,trivial⟩)
theorem LK :kD Ph ext 83 zw:=cW (ss:=vH) rfl (bL ⟨rfl,rfl,Jz,rfl,rfl,trivial⟩)
theorem BA :kU Ph ext 49 lq:=iP rfl rfl rfl rfl (by decide) (by decide) ML (fun _=>rfl)
theorem By :kT Ph ext 47 lq:=jX rfl rfl MA
theorem Bb :kS Ph ext 51 lq:=iL rfl rfl LK
theorem xM :kE Ph ext 22 tX:=cX (ss:=vF) rfl (bL ⟨rfl,⟨MG,rfl⟩,rfl,trivial⟩)
theorem xK :la Ph ext 20 tX:=dh (ss:=vF) rfl (bL ⟨rfl,Mt,rfl,trivial⟩)
theorem wQ :kD Ph ext 24 tX:=cW (ss:=vF) rfl (bL ⟨rfl,LB,rfl,trivial⟩)
theorem K7 :kE Ph ext 17 vp:=cX (ss:=so) rfl (bL ⟨⟨xM,nofun⟩,⟨Ga,rfl⟩,⟨BA,rfl⟩,trivial⟩)
theorem KO :la Ph ext 15 vp:=dh (ss:=so) rfl (bL ⟨xK,F4,By,trivial⟩)
theorem JF :kD Ph ext 19 vp:=cW (ss:=so) rfl (bL ⟨wQ,Fq,Bb,trivial⟩)
theorem K8 :kU Ph ext 60 qL:=iP rfl rfl rfl rfl (by decide) (by decide) xM nofun
theorem KP :kT Ph ext 57 qL:=jX rfl rfl xK
theorem JG :kS Ph ext 63 qL:=iL rfl rfl wQ
theorem E5 :kU Ph ext 255 oe:=IJ rfl rfl rfl (by decide)
theorem EJ :kT Ph ext 251 oe:=CL rfl rfl
theorem Dh :kS Ph ext 259 oe:=Hs rfl rfl
theorem Gf :kE Ph ext 281 qK:=cX (ss:=nG) rfl (bL ⟨rfl,rfl,rfl,⟨E5,rfl⟩,rfl,trivial⟩)
theorem F9 :la Ph ext 280 qK:=dh (ss:=nG) rfl (bL ⟨rfl,rfl,rfl,EJ,rfl,trivial⟩)
theorem Fw :kD Ph ext 282 qK:=cW (ss:=nG) rfl (bL ⟨rfl,rfl,rfl,Dh,rfl,trivial⟩)
theorem KY :kE Ph ext 278 vl:=cX (ss:=si) rfl (bL ⟨rfl,rfl,⟨Gf,nofun⟩,trivial⟩)
theorem KE :la Ph ext 277 vl:=dh (ss:=si) rfl (bL ⟨rfl,rfl,F9,trivial⟩)
theorem Ju :kD Ph ext 279 vl:=cW (ss:=si) rfl (bL ⟨rfl,rfl,Fw,trivial⟩)
theorem IG :kU Ph ext 273 sU:=iP rfl rfl rfl rfl (by decide) (by decide) KY nofun
theorem Is :kT Ph ext 271 sU:=jX rfl rfl KE
theorem Hq :kS Ph ext 275 sU:=iL rfl rfl Ju
theorem MD :kE Ph ext 265 zo:=cX (ss:=vC) rfl (bL ⟨rfl,⟨IG,rfl⟩,trivial⟩)
theorem Mq :la Ph ext 262 zo:=dh (ss:=vC) rfl (bL ⟨rfl,Is,trivial⟩)
theorem Lv :kD Ph ext 268 zo:=cW (ss:=vC) rfl (bL ⟨rfl,Hq,trivial⟩)
theorem KX :kU Ph ext 253 sS:=iP rfl rfl rfl rfl (by decide) (by decide) MD nofun
theorem KD :kT Ph ext 249 sS:=jX rfl rfl Mq
theorem Jt :kS Ph ext 257 sS:=iL rfl rfl Lv
theorem Ge :kE Ph ext 274 qJ:=cX (ss:=nF) rfl (bL ⟨rfl,rfl,trivial⟩)
theorem F7 :la Ph ext 272 qJ:=dh (ss:=nF) rfl (bL ⟨rfl,rfl,trivial⟩)
theorem Fu :kD Ph ext 276 qJ:=cW (ss:=nF) rfl (bL ⟨rfl,rfl,trivial⟩)
theorem E6 :kU Ph ext 266 kA:=iP rfl rfl rfl rfl (by decide) (by decide) Ge (fun _=>rfl)
theorem EM :kT Ph ext 263 kA:=jX rfl rfl F7
theorem Di :kS Ph ext 269 kA:=iL rfl rfl Fu
theorem zz :kE Ph ext 231 kB:=cX (ss:=iU) rfl (bL ⟨rfl,rfl,rfl,rfl,trivial⟩)
theorem zk :la Ph ext 227 kB:=dh (ss:=iU) rfl (bL ⟨rfl,rfl,rfl,rfl,trivial⟩)
theorem xY :kD Ph ext 235 kB:=cW (ss:=iU) rfl (bL ⟨rfl,rfl,rfl,rfl,trivial⟩)
theorem Gb :kE Ph ext 232 qH:=cX (ss:=nD) rfl (bL ⟨⟨KX,rfl⟩,trivial⟩)
theorem F5 :la Ph ext 228 qH:=dh (ss:=nD) rfl (bL ⟨KD,trivial⟩)
theorem Fs :kD Ph ext 236 qH:=cW (ss:=nD) rfl (bL ⟨Jt,trivial⟩)
theorem Gd :kE Ph ext 254 qI:=cX (ss:=nE) rfl (bL ⟨rfl,rfl,⟨K8,rfl⟩,⟨E6,rfl⟩,trivial⟩)
theorem F6 :la Ph ext 250 qI:=dh (ss:=nE) rfl (bL ⟨rfl,rfl,KP,EM,trivial⟩)
theorem Ft :kD Ph ext 258 qI:=cW (ss:=nE) rfl (bL ⟨rfl,rfl,JG,Di,trivial⟩)
theorem Ps :kE Ph ext 233 ES:=cX (ss:=zH) rfl (bL ⟨⟨Gd,nofun⟩,⟨E5,rfl⟩,rfl,trivial⟩)
theorem Pk :la Ph ext 229 ES:=dh (ss:=zH) rfl (bL ⟨F6,EJ,rfl,trivial⟩)
theorem Om :kD Ph ext 237 ES:=cW (ss:=zH) rfl (bL ⟨Ft,Dh,rfl,trivial⟩)
theorem K5 :kE Ph ext 267 vn:=cX (ss:=sk) rfl (bL ⟨rfl,rfl,⟨BA,rfl⟩,trivial⟩)
theorem KL :la Ph ext 264 vn:=dh (ss:=sk) rfl (bL ⟨rfl,rfl,By,trivial⟩)
theorem JD :kD Ph ext 270 vn:=cW (ss:=sk) rfl (bL ⟨rfl,rfl,Bb,trivial⟩)
theorem PC :kE Ph ext 256 EX:=cX (ss:=zN) rfl (bL ⟨⟨K5,nofun⟩,rfl,rfl,trivial⟩)
theorem Pq :la Ph ext 252 EX:=dh (ss:=zN) rfl (bL ⟨KL,rfl,rfl,trivial⟩)
theorem Oy :kD Ph ext 260 EX:=cW (ss:=zN) rfl (bL ⟨JD,rfl,rfl,trivial⟩)
theorem IM :kE Ph ext 234 sZ:=cX (ss:=pQ) rfl (bL ⟨⟨xM,nofun⟩,rfl,⟨PC,nofun⟩,trivial⟩)
theorem Iw :la Ph ext 230 sZ:=dh (ss:=pQ) rfl (bL ⟨xK,rfl,Pq,trivial⟩)
theorem Hv :kD Ph ext 238 sZ:=cW (ss:=pQ) rfl (bL ⟨wQ,rfl,Oy,trivial⟩)
theorem KW :kE Ph ext 201 vk:=cX (ss:=sh) rfl (bL ⟨rfl,rfl,⟨zz,fun _=>rfl⟩,⟨Gb,nofun⟩,⟨Ps,nofun⟩,⟨IM,nofun⟩,rfl,rfl,trivial⟩)
theorem KC :la Ph ext 198 vk:=dh (ss:=sh) rfl (bL ⟨rfl,rfl,zk,F5,Pk,Iw,rfl,rfl,trivial⟩)
theorem Js :kD Ph ext 205 vk:=cW (ss:=sh) rfl (bL ⟨rfl,rfl,xY,Fs,Om,Hv,rfl,rfl,trivial⟩)
theorem IF :kU Ph ext 167 pV:=iP rfl rfl rfl rfl (by decide) (by decide) KW nofun
theorem Iq :kT Ph ext 163 pV:=jX rfl rfl KC
theorem Hp :kS Ph ext 171 pV:=iL rfl rfl Js
theorem MJ :kU Ph ext 134 zr:=iP rfl rfl rfl rfl (by decide) (by decide) Py nofun
theorem Mx :kT Ph ext 128 zr:=jX rfl rfl Po
theorem LG :kS Ph ext 140 zr:=iL rfl rfl Ow
theorem Pv :kE Ph ext 202 EU:=cX (ss:=zJ) rfl (bL ⟨rfl,rfl,rfl,rfl,trivial⟩)
theorem Pn :la Ph ext 199 EU:=dh (ss:=zJ) rfl (bL ⟨rfl,rfl,rfl,rfl,trivial⟩)
theorem Ot :kD Ph ext 206 EU:=cW (ss:=zJ) rfl (bL ⟨rfl,rfl,rfl,rfl,trivial⟩)
theorem MH :kU Ph ext 168 vV:=iP rfl rfl rfl rfl (by decide) (by decide) Pv (fun _=>rfl)
theorem Mv :kT Ph ext 164 vV:=jX rfl rfl Pn
theorem LC :kS Ph ext 172 vV:=iL rfl rfl Ot
theorem Pw :kE Ph ext 203 ID:=cX (ss:=Hh) rfl (bL ⟨rfl,rfl,rfl,trivial⟩)
theorem Ou :kD Ph ext 207 ID:=cW (ss:=Hh) rfl (bL ⟨rfl,rfl,rfl,trivial⟩)
theorem MI :kU Ph ext 169 vW:=iP rfl rfl rfl rfl (by decide) (by decide) Pw (fun _=>rfl)
theorem Mw :kT Ph ext 165 vW:=CL rfl rfl
theorem LD :kS Ph ext 173 vW:=iL rfl rfl Ou
theorem IQ :kU Ph ext 204 nY:=IJ rfl rfl rfl (by decide)
theorem IB :kT Ph ext 200 nY:=fun _ h _ a b=>IA (bz h).1 (UY h) a b
theorem Hy :kS Ph ext 208 nY:=Hs rfl rfl
theorem Pz :kE Ph ext 170 EW:=cX (ss:=zM) rfl (bL ⟨rfl,rfl,⟨IQ,rfl⟩,rfl,trivial⟩)
theorem Pp :la Ph ext 166 EW:=dh (ss:=zM) rfl (bL ⟨rfl,rfl,IB,rfl,trivial⟩)
theorem Ox :kD Ph ext 174 EW:=cW (ss:=zM) rfl (bL ⟨rfl,rfl,Hy,rfl,trivial⟩)
theorem MK :kU Ph ext 137 zt:=iP rfl rfl rfl rfl (by decide) (by decide) Pz nofun
theorem My :kT Ph ext 131 zt:=jX rfl rfl Pp
theorem LI :kS Ph ext 143 zt:=iL rfl rfl Ox
theorem IN :kU Ph ext 138 s7:=iP rfl rfl rfl rfl (by decide) (by decide) K7 nofun
theorem Iy :kT Ph ext 132 s7:=jX rfl rfl KO
theorem Hw :kS Ph ext 144 s7:=iL rfl rfl JF
theorem IP :kE Ph ext 133 pX:=cX (ss:=pR) rfl (bL ⟨⟨IF,rfl⟩,trivial⟩)
theorem Iz :la Ph ext 127 pX:=dh (ss:=pR) rfl (bL ⟨Iq,trivial⟩)
theorem Hx :kD Ph ext 139 pX:=cW (ss:=pR) rfl (bL ⟨Hp,trivial⟩)
theorem E7 :kE Ph ext 135 mB:=cX (ss:=mq) rfl (bL ⟨⟨MH,rfl⟩,trivial⟩)
theorem EP :la Ph ext 129 mB:=dh (ss:=mq) rfl (bL ⟨Mv,trivial⟩)
theorem Dj :kD Ph ext 141 mB:=cW (ss:=mq) rfl (bL ⟨LC,trivial⟩)
theorem IH :kE Ph ext 136 pW:=cX (ss:=pO) rfl (bL ⟨⟨MI,rfl⟩,trivial⟩)
theorem It :la Ph ext 130 pW:=dh (ss:=pO) rfl (bL ⟨Mw,trivial⟩)
theorem Hr :kD Ph ext 142 pW:=cW (ss:=pO) rfl (bL ⟨LD,trivial⟩)
theorem E8 :kE Ph ext 106 gr:=cX (ss:=vG) rfl (bL ⟨rfl,rfl,rfl,⟨IP,nofun⟩,⟨MJ,rfl⟩,rfl,⟨E7,nofun⟩,⟨IH,nofun⟩,⟨MK,rfl⟩,⟨IN,rfl⟩,trivial⟩)
theorem ER :la Ph ext 104 gr:=dh (ss:=vG) rfl (bL ⟨rfl,rfl,rfl,Iz,Mx,rfl,EP,It,My,Iy,trivial⟩)
theorem Dk :kD Ph ext 108 gr:=cW (ss:=vG) rfl (bL ⟨rfl,rfl,rfl,Hx,LG,rfl,Dj,Hr,LI,Hw,trivial⟩)
end
end Gi
