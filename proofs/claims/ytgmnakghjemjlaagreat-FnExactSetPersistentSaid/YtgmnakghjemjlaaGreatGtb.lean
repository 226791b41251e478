/- Of this proof. -/
import Derived.Test.YtgmnakghjemjlaaGreatGta
set_option linter.unusedSimpArgs false
set_option linter.unusedVariables false
namespace Gi
open Go Go.RowKit
attribute [local simp] bu fm aj ah az aI bg bX Opd.ev put V.cells plain bn f9 isInt isStr isBool bin bD un asList L.view ap V.view viewL done aS av bx bP comp aK bt ai V.flat L.flat dL du bA putAt thaw thawL freezeVs freezeLs freezeL V.mut L.mut aJ aU
theorem yu {f g:St→Option (Ex×St)}(h:g=f)(σ:St):ar f σ=(match g σ with
 |some (.normal,σ')=>ar f σ'
 |r=>r):=by rw[h];exact rI f σ
theorem NV :eO []=0:=by simp only[eO]
theorem sM (p:PV)(ps:List PV):eO (p::ps)=sz p+eO ps:=by simp only[eO]
theorem Qz (k:IntKind)(n:Int):sz (.int k n)=0:=by simp only[sz]
theorem Qn (b:Bool):sz (.bool b)=0:=by simp only[sz]
theorem dN (s:List UInt8):sz (.str s)=s.length:=by simp only[sz]
theorem Gq :∀(l m:List PV),eO (l++m)=eO l+eO m
 |[],m=>by rw[List.nil_append,NV,Nat.zero_add]
 |p::l,m=>by rw[List.cons_append,sM,sM,Gq l m,Nat.add_assoc]
theorem Qy (l:List PV)(o n:Nat):eO ((l.drop o).take n)≤eO l:=by
 have h1:=Gq (l.take o) (l.drop o)
 rw[List.take_append_drop]at h1
 have h2:=Gq ((l.drop o).take n) ((l.drop o).drop n)
 rw[List.take_append_drop]at h2
 rw[h1,h2]
 exact Nat.le_trans (Nat.le_add_right _ _) (Nat.le_add_left _ _)
theorem bd :∀{l:List PV}{i:Nat}{p:PV},l[i]? =some p→sz p≤eO l
 |[],_,_,h=>by simp at h
 |q::l,0,p,h=>by simp at h;subst h;rw[sM];exact Nat.le_add_right _ _
 |q::l,i+1,p,h=>by rw[sM];exact Nat.le_trans (bd (l:=l) (i:=i) (by simpa using h)) (Nat.le_add_left _ _)
def MO (x:Option (Ex×St))(Q:Ex→St→Prop):Prop:=
 match x with
 |some (e,σ)=>Q e σ
 |none=>False
theorem MO.get {x:Option (Ex×St)}{Q:Ex→St→Prop}(h:MO x Q):∃e σ,x=some (e,σ)∧Q e σ:=by
 unfold MO at h
 split at h
 ·exact⟨_,_,rfl,h⟩
 ·exact h.elim
theorem EA {e:Ex}{σ:St}{Q:Ex→St→Prop}:MO (some (e,σ)) Q=Q e σ:=rfl
section
variable {ext:Nat→List V→Option V}
theorem JU {rows:List (List PV)}(hl:rows.length≤maxLen)(hr:∀r∈rows,∃s:List UInt8,r=[.str s]∧s.length≤maxLen):∀(m k:Nat)(i:Int),i=k→k+m=rows.length→∀(left:Int),0≤left→left≤1048576→∀(x2 x3 x4 x6 x7 x8 x9 x10 x11 x12 x13 x14 x15 x16 x17 x18 x19 x20 x21 x22 x23 x24 x25 x26 x27:V)(h:List AObj),
 MO (ar (aj (ag Ph ext) ar dB) ⟨(bv rows::aa .i64 left::x2::x3::x4::aa .i64 i::x6::x7::x8::x9::x10::x11::x12::x13::x14::x15::x16::x17::x18::x19::x20::x21::x22::x23::x24::x25::x26::x27::[]),h⟩) fun e σ'=>σ'.h=h∧σ'.t.length=28∧((e= .exit 0∧0≤less left (cC (rows.drop k))∧σ'.t[1]? =some (aa .i64 (less left (cC (rows.drop k)))))∨(e= .ret∧less left (cC (rows.drop k))= -1∧σ'.t[4]? =some (aa .i64 (-1)))):=by
 generalize hF:aj (ag Ph ext) ar dB=F
 intro m
 induction m with
 |zero=>
  intro k i hi hk left h0 h1 x2 x3 x4 x6 x7 x8 x9 x10 x11 x12 x13 x14 x15 x16 x17 x18 x19 x20 x21 x22 x23 x24 x25 x26 x27 h
  subst hi
  have hk':k=rows.length:=by omega
  subst hk'
  have hl0:less left (cC (rows.drop rows.length))=left:=by simp[cC,less];omega
  rw[hl0,yu hF]
  simp[dB,io,h0,EA]
 |succ m ih=>
  intro k i hi hk left h0 h1 x2 x3 x4 x6 x7 x8 x9 x10 x11 x12 x13 x14 x15 x16 x17 x18 x19 x20 x21 x22 x23 x24 x25 x26 x27 h
  subst hi
  have hlt:k<rows.length:=by omega
  have hw:=jj (k:=k) (by unfold maxLen at hl;omega)
  obtain⟨s,hrk,hs⟩:=hr _ (List.getElem_mem hlt)
  unfold maxLen at hs
  have hw2:IntKind.i64.wrap (left-(s.length:Int))=left-(s.length:Int):=by rw[IntKind.wrap_i64];omega
  rw[zA hlt,hrk]
  have hsz:eO [PV.str s]=s.length:=by simp[eO,sz]
  rw[hsz]
  by_cases hneg:left<(s.length:Int)
  ·have e1:less left (s.length+cC (rows.drop (k+1)))= -1:=by unfold less;rw[if_pos (by omega)]
   rw[e1,yu hF]
   have hn:left-(s.length:Int)<0:=by omega
   simp[dB,io,hlt,hrk,hw,hw2,hn,EA]
  ·have hn:¬left-(s.length:Int)<0:=by omega
   have key:=ih (k+1) ((k:Int)+1) (by omega) (by omega) (left-s.length) (by omega) (by omega)
   have e1:less (left-s.length) (cC (rows.drop (k+1)))=less left (s.length+cC (rows.drop (k+1))):=by
    have:left-(s.length:Int)=less left s.length:=by unfold less;rw[if_neg hneg]
    rw[this];exact pU (by rw[←this];omega)
   rw[e1]at key
   clear ih
   rw[yu hF]
   simp[dB,io,hlt,hrk,hw,hw2,hn]
   exact key _ _ _ _ _ _ _ _ _ _ _ _ _ _ _ _ _ _ _ _ _ _ _ _ _ _
theorem Gx {rows:List (List PV)}(hl:rows.length≤maxLen)(hr:∀r∈rows,∃s:List UInt8,r=[.str s]∧s.length≤maxLen){left:Int}(h0:0≤left)(h1:left≤1048576):ag Ph ext 200 [bv rows,aa .i64 left]=some (aa .i64 (less left (sz (.lst rows)))):=by
 refine eW (fn:=gT) rfl ?_
 have hw:IntKind.i64.wrap (left-rows.length)=left-rows.length:=by unfold maxLen at hl;rw[IntKind.wrap_i64];omega
 rw[jJ]
 by_cases hn:left<rows.length
 ·have hn':left-(rows.length:Int)<0:=by omega
  have e:less left (rows.length+cC rows)= -1:=by unfold less;rw[if_pos (by omega)]
  rw[e]
  generalize hF:aj (ag Ph ext) ar dB=F
  simp[gT,io,hF,hw,hn']
 ·have hn':¬left-(rows.length:Int)<0:=by omega
  have hle:left-(rows.length:Int)=less left rows.length:=by unfold less;rw[if_neg hn]
  obtain⟨e,⟨t',h'⟩,q1,q2,q5,q3⟩:=(JU (ext:=ext) hl hr rows.length 0 0 rfl (by omega) (left-rows.length) (by omega) (by omega) (.tup []) (.tup []) (aa .i64 0) (aa .i64 left) (bv rows) (aa .i64 rows.length) (aa .i64 (left-rows.length)) (aa .i64 (left-rows.length)) (au false) (.tup []) (.tup []) (.tup []) (.tup []) (.tup []) (.tup []) (.tup []) (.tup []) (.tup []) (.tup []) (.tup []) (.tup []) (.tup []) (.tup []) (.tup []) (.tup []) []).get
  simp only[List.drop_zero]at q3
  have hls:less (left-rows.length) (cC rows)=less left (rows.length+cC rows):=by rw[hle];exact pU (by rw[←hle];omega)
  rw[hls]at q3
  simp at q5
  rcases q3 with⟨rfl,_,q4⟩|⟨rfl,q6,q4⟩
  ·obtain⟨_,q7⟩:=List.getElem?_eq_some_iff.1 q4
   simp[gT,io,hw,hn',q1,q5,q7]
  ·obtain⟨_,q7⟩:=List.getElem?_eq_some_iff.1 q4
   simp[gT,io,hw,hn',q1,q5,q7,q6]
end
end Gi
namespace Gi
open Go Go.RowKit
set_option maxRecDepth 4000
abbrev QZ :PTy→Type
 | .int _=>Int
 | .bool=>Bool
 | .str=>List UInt8
 | .lst _=>List (List PV)
abbrev Pa :(t:PTy)→QZ t→PV
 | .int k,n=> .int k n
 | .bool,b=> .bool b
 | .str,s=> .str s
 | .lst _,l=> .lst l
abbrev Oj :List PTy→Type
 |[]=>Unit
 |t::ts=>QZ t×Oj ts
abbrev Qp :(ts:List PTy)→Oj ts→List PV
 |[],_=>[]
 |t::ts,(x,y)=>Pa t x::Qp ts y
def PZ :(ts:List PTy)→Oj ts→Prop
 |[],_=>True
 |t::ts,(x,y)=>ni t (Pa t x)∧PZ ts y
theorem bB :∀{ts:List PTy}{r:List PV},ba ts r→∃x:Oj ts,r=Qp ts x∧PZ ts x
 |[],r,h=>⟨(),eU h,trivial⟩
 |t::ts,r,h=>by
  obtain⟨p,q,rfl,g,k⟩:=dw h
  obtain⟨y,rfl,l⟩:=bB k
  cases t with
  |int=>obtain⟨n,rfl⟩:=kM g;exact⟨(n,y),rfl,g,l⟩
  |bool=>obtain⟨n,rfl⟩:=jL g;exact⟨(n,y),rfl,g,l⟩
  |str=>obtain⟨n,rfl⟩:=jl g;exact⟨(n,y),rfl,g,l⟩
  |lst=>obtain⟨n,rfl⟩:=mA g;exact⟨(n,y),rfl,g,l⟩
section
variable {ext:Nat→List V→Option V}
theorem QX {rows:List (List PV)}(h:ni (.lst hJ) (.lst rows)):∀r∈rows,∃s:List UInt8,r=[.str s]∧s.length≤maxLen:=by
 obtain⟨_,hr⟩:=aL h
 intro r m
 obtain⟨⟨c0,_⟩,rfl,g0,_⟩:=bB (hr r m)
 exact⟨c0,rfl,g0⟩
theorem JZ :jm Ph ext 89 wQ:=bZ (ss:=sv) rfl (a9 ⟨rfl,rfl,trivial⟩)
theorem JN :jM Ph ext 87 wQ:=cu (ss:=sv) rfl (a9 ⟨rfl,rfl,trivial⟩)
theorem I9 :jk Ph ext 91 wQ:=bY (ss:=sv) rfl (a9 ⟨rfl,rfl,trivial⟩)
theorem IC :jz Ph ext 66 jR:=gM rfl rfl rfl rfl (by decide) (by decide) JZ (fun _=>rfl)
theorem Im :jy Ph ext 64 jR:=iW rfl rfl JN
theorem Hr :jx Ph ext 69 jR:=gI rfl rfl I9
theorem IE :jm Ph ext 34 E0:=bZ (ss:=EH) rfl (a9 ⟨rfl,rfl,rfl,trivial⟩)
theorem Io :jM Ph ext 30 E0:=cu (ss:=EH) rfl (a9 ⟨rfl,rfl,rfl,trivial⟩)
theorem Hv :jk Ph ext 38 E0:=bY (ss:=EH) rfl (a9 ⟨rfl,rfl,rfl,trivial⟩)
theorem IH :jm Ph ext 35 sh:=bZ (ss:=pO) rfl (a9 ⟨⟨IC,rfl⟩,trivial⟩)
theorem Ir :jM Ph ext 31 sh:=cu (ss:=pO) rfl (a9 ⟨Im,trivial⟩)
theorem HA :jk Ph ext 39 sh:=bY (ss:=pO) rfl (a9 ⟨Hr,trivial⟩)
theorem My :jm Ph ext 7 Dh:=bZ (ss:=xe) rfl (a9 ⟨⟨IE,fun _=>rfl⟩,⟨IH,nofun⟩,trivial⟩)
theorem Mp :jM Ph ext 5 Dh:=cu (ss:=xe) rfl (a9 ⟨Io,Ir,trivial⟩)
theorem LC :jk Ph ext 9 Dh:=bY (ss:=xe) rfl (a9 ⟨Hv,HA,trivial⟩)
theorem IF :jm Ph ext 73 se:=bZ (ss:=pM) rfl (a9 ⟨rfl,rfl,trivial⟩)
theorem Ip :jM Ph ext 70 se:=cu (ss:=pM) rfl (a9 ⟨rfl,rfl,trivial⟩)
theorem Hw :jk Ph ext 76 se:=bY (ss:=pM) rfl (a9 ⟨rfl,rfl,trivial⟩)
theorem GG :jz Ph ext 42 jv:=gM rfl rfl rfl rfl (by decide) (by decide) IF (fun _=>rfl)
theorem Gr :jy Ph ext 40 jv:=iW rfl rfl Ip
theorem Fy :jx Ph ext 44 jv:=gI rfl rfl Hw
theorem J0 :jm Ph ext 93 wR:=bZ (ss:=sw) rfl (a9 ⟨rfl,rfl,rfl,rfl,trivial⟩)
theorem JO :jM Ph ext 92 wR:=cu (ss:=sw) rfl (a9 ⟨rfl,rfl,rfl,rfl,trivial⟩)
theorem Ja :jk Ph ext 94 wR:=bY (ss:=sw) rfl (a9 ⟨rfl,rfl,rfl,rfl,trivial⟩)
theorem ID :jz Ph ext 74 jS:=gM rfl rfl rfl rfl (by decide) (by decide) J0 (fun _=>rfl)
theorem In :jy Ph ext 71 jS:=iW rfl rfl JO
theorem Hu :jx Ph ext 77 jS:=gI rfl rfl Ja
theorem Mx :jz Ph ext 75 oM:=GF rfl rfl rfl (by decide)
theorem Mo :jy Ph ext 72 oM:=A3 rfl rfl
theorem LB :jx Ph ext 78 oM:=Fx rfl rfl
theorem GH :jm Ph ext 43 p6:=bZ (ss:=nv) rfl (a9 ⟨⟨ID,rfl⟩,rfl,⟨Mx,rfl⟩,rfl,rfl,rfl,trivial⟩)
theorem Gs :jM Ph ext 41 p6:=cu (ss:=nv) rfl (a9 ⟨In,rfl,Mo,rfl,rfl,rfl,trivial⟩)
theorem Fz :jk Ph ext 45 p6:=bY (ss:=nv) rfl (a9 ⟨Hu,rfl,LB,rfl,rfl,rfl,trivial⟩)
theorem MD :jm Ph ext 12 Dj:=bZ (ss:=xg) rfl (a9 ⟨rfl,rfl,rfl,rfl,⟨GG,rfl⟩,⟨GH,nofun⟩,trivial⟩)
theorem Mr :jM Ph ext 10 Dj:=cu (ss:=xg) rfl (a9 ⟨rfl,rfl,rfl,rfl,Gr,Gs,trivial⟩)
theorem LH :jk Ph ext 14 Dj:=bY (ss:=xg) rfl (a9 ⟨rfl,rfl,rfl,rfl,Fy,Fz,trivial⟩)
theorem J1 :jz Ph ext 53 j8:=gM rfl rfl rfl rfl (by decide) (by decide) My nofun
theorem JP :jy Ph ext 52 j8:=iW rfl rfl Mp
theorem Jb :jx Ph ext 55 j8:=gI rfl rfl LC
theorem GA :jm Ph ext 80 sN:=bZ (ss:=sr) rfl (a9 ⟨rfl,rfl,trivial⟩)
theorem Ft :jk Ph ext 82 sN:=bY (ss:=sr) rfl (a9 ⟨rfl,rfl,trivial⟩)
theorem Er :jz Ph ext 48 iv:=gM rfl rfl rfl rfl (by decide) (by decide) GA (fun _=>rfl)
theorem Ek :jy Ph ext 46 iv:=A3 rfl rfl
theorem DF :jx Ph ext 50 iv:=gI rfl rfl Ft
theorem J7 :jm Ph ext 81 wS:=bZ (ss:=sA) rfl (a9 ⟨rfl,rfl,⟨IE,fun _=>rfl⟩,rfl,rfl,trivial⟩)
theorem JW :jM Ph ext 79 wS:=cu (ss:=sA) rfl (a9 ⟨rfl,rfl,Io,rfl,rfl,trivial⟩)
theorem Jg :jk Ph ext 83 wS:=bY (ss:=sA) rfl (a9 ⟨rfl,rfl,Hv,rfl,rfl,trivial⟩)
theorem zE :jz Ph ext 49 gx:=gM rfl rfl rfl rfl (by decide) (by decide) J7 (fun _=>rfl)
theorem zC :jy Ph ext 47 gx:=iW rfl rfl JW
theorem yZ :jx Ph ext 51 gx:=gI rfl rfl Jg
theorem uO :jm Ph ext 22 qD:=bZ (ss:=sx) rfl (a9 ⟨rfl,⟨J1,rfl⟩,rfl,trivial⟩)
theorem uN :jM Ph ext 20 qD:=cu (ss:=sx) rfl (a9 ⟨rfl,JP,rfl,trivial⟩)
theorem tP :jk Ph ext 24 qD:=bY (ss:=sx) rfl (a9 ⟨rfl,Jb,rfl,trivial⟩)
theorem II :jm Ph ext 17 si:=bZ (ss:=pP) rfl (a9 ⟨⟨uO,nofun⟩,⟨Er,rfl⟩,⟨zE,rfl⟩,trivial⟩)
theorem Is :jM Ph ext 15 si:=cu (ss:=pP) rfl (a9 ⟨uN,Ek,zC,trivial⟩)
theorem HB :jk Ph ext 19 si:=bY (ss:=pP) rfl (a9 ⟨tP,DF,yZ,trivial⟩)
theorem IJ :jz Ph ext 60 jh:=gM rfl rfl rfl rfl (by decide) (by decide) uO nofun
theorem It :jy Ph ext 57 jh:=iW rfl rfl uN
theorem HC :jx Ph ext 63 jh:=gI rfl rfl tP
theorem Dp :jz Ph ext 255 iX:=GF rfl rfl rfl (by decide)
theorem C8 :jy Ph ext 251 iX:=A3 rfl rfl
theorem Bu :jx Ph ext 259 iX:=Fx rfl rfl
theorem Ev :jm Ph ext 281 oN:=bZ (ss:=lR) rfl (a9 ⟨rfl,rfl,rfl,⟨Dp,rfl⟩,rfl,trivial⟩)
theorem Ep :jM Ph ext 280 oN:=cu (ss:=lR) rfl (a9 ⟨rfl,rfl,rfl,C8,rfl,trivial⟩)
theorem DJ :jk Ph ext 282 oN:=bY (ss:=lR) rfl (a9 ⟨rfl,rfl,rfl,Bu,rfl,trivial⟩)
theorem IB :jm Ph ext 278 sd:=bZ (ss:=pL) rfl (a9 ⟨rfl,rfl,⟨Ev,nofun⟩,trivial⟩)
theorem Il :jM Ph ext 277 sd:=cu (ss:=pL) rfl (a9 ⟨rfl,rfl,Ep,trivial⟩)
theorem Hq :jk Ph ext 279 sd:=bY (ss:=pL) rfl (a9 ⟨rfl,rfl,DJ,trivial⟩)
theorem GC :jz Ph ext 273 ju:=gM rfl rfl rfl rfl (by decide) (by decide) IB nofun
theorem Gn :jy Ph ext 271 ju:=iW rfl rfl Il
theorem Fv :jx Ph ext 275 ju:=gI rfl rfl Hq
theorem JY :jm Ph ext 265 wP:=bZ (ss:=su) rfl (a9 ⟨rfl,⟨GC,rfl⟩,trivial⟩)
theorem JM :jM Ph ext 262 wP:=cu (ss:=su) rfl (a9 ⟨rfl,Gn,trivial⟩)
theorem I8 :jk Ph ext 268 wP:=bY (ss:=su) rfl (a9 ⟨rfl,Fv,trivial⟩)
theorem IA :jz Ph ext 253 jQ:=gM rfl rfl rfl rfl (by decide) (by decide) JY nofun
theorem Ik :jy Ph ext 249 jQ:=iW rfl rfl JM
theorem Hp :jx Ph ext 257 jQ:=gI rfl rfl I8
theorem Eu :jm Ph ext 274 oL:=bZ (ss:=lQ) rfl (a9 ⟨rfl,rfl,trivial⟩)
theorem En :jM Ph ext 272 oL:=cu (ss:=lQ) rfl (a9 ⟨rfl,rfl,trivial⟩)
theorem DI :jk Ph ext 276 oL:=bY (ss:=lQ) rfl (a9 ⟨rfl,rfl,trivial⟩)
theorem Dq :jz Ph ext 266 fo:=gM rfl rfl rfl rfl (by decide) (by decide) Eu (fun _=>rfl)
theorem Da :jy Ph ext 263 fo:=iW rfl rfl En
theorem Bv :jx Ph ext 269 fo:=gI rfl rfl DI
theorem wV :jm Ph ext 231 jg:=bZ (ss:=gQ) rfl (a9 ⟨rfl,rfl,rfl,rfl,trivial⟩)
theorem wM :jM Ph ext 227 jg:=cu (ss:=gQ) rfl (a9 ⟨rfl,rfl,rfl,rfl,trivial⟩)
theorem vq :jk Ph ext 235 jg:=bY (ss:=gQ) rfl (a9 ⟨rfl,rfl,rfl,rfl,trivial⟩)
theorem Es :jm Ph ext 232 oJ:=bZ (ss:=lO) rfl (a9 ⟨⟨IA,rfl⟩,trivial⟩)
theorem El :jM Ph ext 228 oJ:=cu (ss:=lO) rfl (a9 ⟨Ik,trivial⟩)
theorem DG :jk Ph ext 236 oJ:=bY (ss:=lO) rfl (a9 ⟨Hp,trivial⟩)
theorem Et :jm Ph ext 254 oK:=bZ (ss:=lP) rfl (a9 ⟨rfl,rfl,⟨IJ,rfl⟩,⟨Dq,rfl⟩,trivial⟩)
theorem Em :jM Ph ext 250 oK:=cu (ss:=lP) rfl (a9 ⟨rfl,rfl,It,Da,trivial⟩)
theorem DH :jk Ph ext 258 oK:=bY (ss:=lP) rfl (a9 ⟨rfl,rfl,HC,Bv,trivial⟩)
theorem Mw :jm Ph ext 233 Dg:=bZ (ss:=xd) rfl (a9 ⟨⟨Et,nofun⟩,⟨Dp,rfl⟩,rfl,trivial⟩)
theorem Mn :jM Ph ext 229 Dg:=cu (ss:=xd) rfl (a9 ⟨Em,C8,rfl,trivial⟩)
theorem Lz :jk Ph ext 237 Dg:=bY (ss:=xd) rfl (a9 ⟨DH,Bu,rfl,trivial⟩)
theorem IG :jm Ph ext 267 sf:=bZ (ss:=pN) rfl (a9 ⟨rfl,rfl,⟨zE,rfl⟩,trivial⟩)
theorem Iq :jM Ph ext 264 sf:=cu (ss:=pN) rfl (a9 ⟨rfl,rfl,zC,trivial⟩)
theorem Hz :jk Ph ext 270 sf:=bY (ss:=pN) rfl (a9 ⟨rfl,rfl,yZ,trivial⟩)
theorem MF :jm Ph ext 256 Dl:=bZ (ss:=xi) rfl (a9 ⟨⟨IG,nofun⟩,rfl,rfl,trivial⟩)
theorem Mt :jM Ph ext 252 Dl:=cu (ss:=xi) rfl (a9 ⟨Iq,rfl,rfl,trivial⟩)
theorem LJ :jk Ph ext 260 Dl:=bY (ss:=xi) rfl (a9 ⟨Hz,rfl,rfl,trivial⟩)
theorem GI :jm Ph ext 234 p7:=bZ (ss:=nw) rfl (a9 ⟨⟨uO,nofun⟩,rfl,⟨MF,nofun⟩,trivial⟩)
theorem Gt :jM Ph ext 230 p7:=cu (ss:=nw) rfl (a9 ⟨uN,rfl,Mt,trivial⟩)
theorem FA :jk Ph ext 238 p7:=bY (ss:=nw) rfl (a9 ⟨tP,rfl,LJ,trivial⟩)
theorem Iz :jm Ph ext 201 sa:=bZ (ss:=pK) rfl (a9 ⟨rfl,rfl,⟨wV,fun _=>rfl⟩,⟨Es,nofun⟩,⟨Mw,nofun⟩,⟨GI,nofun⟩,rfl,rfl,trivial⟩)
theorem Ij :jM Ph ext 198 sa:=cu (ss:=pK) rfl (a9 ⟨rfl,rfl,wM,El,Mn,Gt,rfl,rfl,trivial⟩)
theorem Ho :jk Ph ext 205 sa:=bY (ss:=pK) rfl (a9 ⟨rfl,rfl,vq,DG,Lz,FA,rfl,rfl,trivial⟩)
theorem GB :jz Ph ext 167 dx:=gM rfl rfl rfl rfl (by decide) (by decide) Iz nofun
theorem Gk :jy Ph ext 163 dx:=iW rfl rfl Ij
theorem Fu :jx Ph ext 171 dx:=gI rfl rfl Ho
theorem J4 :jz Ph ext 134 iY:=gM rfl rfl rfl rfl (by decide) (by decide) MD nofun
theorem JS :jy Ph ext 128 iY:=iW rfl rfl Mr
theorem Je :jx Ph ext 140 iY:=gI rfl rfl LH
theorem Mz :jm Ph ext 202 Di:=bZ (ss:=xf) rfl (a9 ⟨rfl,rfl,rfl,rfl,trivial⟩)
theorem Mq :jM Ph ext 199 Di:=cu (ss:=xf) rfl (a9 ⟨rfl,rfl,rfl,rfl,trivial⟩)
theorem LD :jk Ph ext 206 Di:=bY (ss:=xf) rfl (a9 ⟨rfl,rfl,rfl,rfl,trivial⟩)
theorem J2 :jz Ph ext 168 iw:=gM rfl rfl rfl rfl (by decide) (by decide) Mz (fun _=>rfl)
theorem JQ :jy Ph ext 164 iw:=iW rfl rfl Mq
theorem Jc :jx Ph ext 172 iw:=gI rfl rfl LD
theorem MA :jm Ph ext 203 Gz:=bZ (ss:=Fq) rfl (a9 ⟨rfl,rfl,rfl,trivial⟩)
theorem LF :jk Ph ext 207 Gz:=bY (ss:=Fq) rfl (a9 ⟨rfl,rfl,rfl,trivial⟩)
theorem J3 :jz Ph ext 169 ix:=gM rfl rfl rfl rfl (by decide) (by decide) MA (fun _=>rfl)
theorem JR :jy Ph ext 165 ix:=A3 rfl rfl
theorem Jd :jx Ph ext 173 ix:=gI rfl rfl LF
theorem GL :jz Ph ext 204 hJ:=GF rfl rfl rfl (by decide)
theorem Gy :jy Ph ext 200 hJ:=fun _ h _ a b=>Gx (aL h).1 (QX h) a b
theorem FD :jx Ph ext 208 hJ:=Fx rfl rfl
theorem ME :jm Ph ext 170 Dk:=bZ (ss:=xh) rfl (a9 ⟨rfl,rfl,⟨GL,rfl⟩,rfl,trivial⟩)
theorem Ms :jM Ph ext 166 Dk:=cu (ss:=xh) rfl (a9 ⟨rfl,rfl,Gy,rfl,trivial⟩)
theorem LI :jk Ph ext 174 Dk:=bY (ss:=xh) rfl (a9 ⟨rfl,rfl,FD,rfl,trivial⟩)
theorem J5 :jz Ph ext 137 iZ:=gM rfl rfl rfl rfl (by decide) (by decide) ME nofun
theorem JT :jy Ph ext 131 iZ:=iW rfl rfl Ms
theorem Jf :jx Ph ext 143 iZ:=gI rfl rfl LI
theorem GJ :jz Ph ext 138 fA:=gM rfl rfl rfl rfl (by decide) (by decide) II nofun
theorem Gv :jy Ph ext 132 fA:=iW rfl rfl Is
theorem FB :jx Ph ext 144 fA:=gI rfl rfl HB
theorem GK :jm Ph ext 133 gm:=bZ (ss:=ny) rfl (a9 ⟨⟨GB,rfl⟩,trivial⟩)
theorem Gw :jM Ph ext 127 gm:=cu (ss:=ny) rfl (a9 ⟨Gk,trivial⟩)
theorem FC :jk Ph ext 139 gm:=bY (ss:=ny) rfl (a9 ⟨Fu,trivial⟩)
theorem Dr :jm Ph ext 135 eQ:=bZ (ss:=kI) rfl (a9 ⟨⟨J2,rfl⟩,trivial⟩)
theorem Dd :jM Ph ext 129 eQ:=cu (ss:=kI) rfl (a9 ⟨JQ,trivial⟩)
theorem Bw :jk Ph ext 141 eQ:=bY (ss:=kI) rfl (a9 ⟨Jc,trivial⟩)
theorem GD :jm Ph ext 136 gl:=bZ (ss:=nu) rfl (a9 ⟨⟨J3,rfl⟩,trivial⟩)
theorem Gp :jM Ph ext 130 gl:=cu (ss:=nu) rfl (a9 ⟨JR,trivial⟩)
theorem Fw :jk Ph ext 142 gl:=bY (ss:=nu) rfl (a9 ⟨Jd,trivial⟩)
theorem J6 :jm Ph ext 106 eT:=bZ (ss:=sy) rfl (a9 ⟨rfl,rfl,rfl,⟨GK,nofun⟩,⟨J4,rfl⟩,rfl,⟨Dr,nofun⟩,⟨GD,nofun⟩,⟨J5,rfl⟩,⟨GJ,rfl⟩,trivial⟩)
theorem JV :jM Ph ext 104 eT:=cu (ss:=sy) rfl (a9 ⟨rfl,rfl,rfl,Gw,JS,rfl,Dd,Gp,JT,Gv,trivial⟩)
theorem Bx :jk Ph ext 108 eT:=bY (ss:=sy) rfl (a9 ⟨rfl,rfl,rfl,FC,Je,rfl,Bw,Fw,Jf,FB,trivial⟩)
theorem aH :zF Ph ext am 432:=PK rfl
theorem Ax :nF Ph ext am 448 iv:=eH aH rfl rfl ⟨rfl,⟨rfl,trivial⟩⟩
theorem ww :nF Ph ext am 474 iX:=eH aH rfl rfl ⟨rfl,trivial⟩
theorem CD :nF Ph ext am 485 ju:=eH aH rfl rfl ⟨rfl,⟨rfl,⟨rfl,⟨rfl,⟨rfl,⟨rfl,ww,⟨rfl,trivial⟩⟩⟩⟩⟩⟩⟩
theorem Ed :nF Ph ext am 471 jQ:=eH aH rfl rfl ⟨rfl,⟨rfl,CD,trivial⟩⟩
theorem Ee :nF Ph ext am 475 jR:=eH aH rfl rfl ⟨rfl,⟨rfl,trivial⟩⟩
theorem qx :nF Ph ext am 447 j8:=eH aH rfl rfl ⟨rfl,⟨rfl,⟨rfl,⟨rfl,Ee,trivial⟩⟩⟩⟩
theorem Eg :nF Ph ext am 472 jh:=eH aH rfl rfl ⟨rfl,⟨rfl,qx,⟨rfl,trivial⟩⟩⟩
theorem yx :nF Ph ext am 473 fo:=eH aH rfl rfl ⟨rfl,⟨rfl,trivial⟩⟩
theorem tB :nF Ph ext am 449 gx:=eH aH rfl rfl ⟨rfl,⟨rfl,⟨rfl,⟨rfl,⟨rfl,⟨rfl,⟨rfl,trivial⟩⟩⟩⟩⟩⟩⟩
theorem rJ :nF Ph ext am 441 dx:=eH aH rfl rfl ⟨rfl,⟨rfl,⟨rfl,⟨rfl,⟨rfl,⟨rfl,⟨rfl,Ed,⟨rfl,⟨rfl,⟨rfl,Eg,⟨rfl,yx,⟨rfl,ww,⟨rfl,⟨rfl,⟨rfl,qx,⟨rfl,⟨rfl,⟨rfl,⟨rfl,⟨rfl,tB,⟨rfl,⟨rfl,⟨rfl,⟨rfl,trivial⟩⟩⟩⟩⟩⟩⟩⟩⟩⟩⟩⟩⟩⟩⟩⟩⟩⟩⟩⟩⟩⟩⟩⟩
theorem F4 :nF Ph ext am 446 ix:=eH aH rfl rfl ⟨rfl,⟨rfl,⟨rfl,trivial⟩⟩⟩
theorem rR :K5 Ph ext am 429 gl:=wx (ss:=[.l ix 446]) rfl rfl ⟨F4,trivial⟩
theorem Ef :nF Ph ext am 443 jS:=eH aH rfl rfl ⟨rfl,⟨rfl,⟨rfl,⟨rfl,trivial⟩⟩⟩⟩
theorem HS :nF Ph ext am 444 oM:=eH aH rfl rfl ⟨rfl,trivial⟩
theorem CE :nF Ph ext am 442 jv:=eH aH rfl rfl ⟨rfl,⟨rfl,trivial⟩⟩
theorem F3 :nF Ph ext am 445 iw:=eH aH rfl rfl ⟨rfl,⟨rfl,⟨rfl,⟨rfl,trivial⟩⟩⟩⟩
theorem pW :K5 Ph ext am 428 eQ:=wx (ss:=[.l iw 445]) rfl rfl ⟨F3,trivial⟩
theorem wy :nF Ph ext am 427 iY:=eH aH rfl rfl ⟨rfl,⟨rfl,⟨rfl,⟨rfl,⟨rfl,CE,⟨rfl,Ef,⟨rfl,⟨rfl,HS,⟨rfl,⟨rfl,⟨rfl,trivial⟩⟩⟩⟩⟩⟩⟩⟩⟩⟩⟩
theorem oA :nF Ph ext am 431 fA:=eH aH rfl rfl ⟨rfl,⟨rfl,qx,⟨rfl,⟨rfl,Ax,⟨rfl,tB,trivial⟩⟩⟩⟩⟩
theorem CF :nF Ph ext am 421 hJ:=eH aH rfl rfl ⟨rfl,trivial⟩
theorem qy :nF Ph ext am 430 iZ:=eH aH rfl rfl ⟨rfl,⟨rfl,⟨rfl,CF,⟨rfl,trivial⟩⟩⟩⟩
theorem rS :K5 Ph ext am 426 gm:=wx (ss:=[.l dx 441]) rfl rfl ⟨rJ,trivial⟩
theorem F5 :K5 Ph ext am 420 eT:=wx (ss:=[.k [.int .i64, .bool, .int .i64], .s gm 426, .l iY 427, .k [.int .i64], .s eQ 428, .s gl 429, .l iZ 430, .l fA 431]) rfl rfl ⟨rfl,⟨rS,⟨wy,⟨rfl,⟨pW,⟨rR,⟨qy,⟨oA,trivial⟩⟩⟩⟩⟩⟩⟩⟩
theorem As :fS Ph ext am 469 iv:=eG aH rfl ⟨rfl,⟨rfl,trivial⟩⟩
theorem vY :fS Ph ext am 483 iX:=eG aH rfl ⟨rfl,trivial⟩
theorem Cn :fS Ph ext am 494 ju:=eG aH rfl ⟨rfl,⟨rfl,⟨rfl,⟨rfl,⟨rfl,⟨rfl,vY,⟨rfl,trivial⟩⟩⟩⟩⟩⟩⟩
theorem D9 :fS Ph ext am 480 jQ:=eG aH rfl ⟨rfl,⟨rfl,Cn,trivial⟩⟩
theorem Ea :fS Ph ext am 484 jR:=eG aH rfl ⟨rfl,⟨rfl,trivial⟩⟩
theorem qq :fS Ph ext am 468 j8:=eG aH rfl ⟨rfl,⟨rfl,⟨rfl,⟨rfl,Ea,trivial⟩⟩⟩⟩
theorem Ec :fS Ph ext am 481 jh:=eG aH rfl ⟨rfl,⟨rfl,qq,⟨rfl,trivial⟩⟩⟩
theorem yg :fS Ph ext am 482 fo:=eG aH rfl ⟨rfl,⟨rfl,trivial⟩⟩
theorem tx :fS Ph ext am 470 gx:=eG aH rfl ⟨rfl,⟨rfl,⟨rfl,⟨rfl,⟨rfl,⟨rfl,⟨rfl,trivial⟩⟩⟩⟩⟩⟩⟩
theorem Cm :fS Ph ext am 462 dx:=eG aH rfl ⟨rfl,⟨rfl,⟨rfl,⟨rfl,⟨rfl,⟨rfl,⟨rfl,D9,⟨rfl,⟨rfl,⟨rfl,Ec,⟨rfl,yg,⟨rfl,vY,⟨rfl,⟨rfl,⟨rfl,qq,⟨rfl,⟨rfl,⟨rfl,⟨rfl,⟨rfl,tx,⟨rfl,⟨rfl,⟨rfl,⟨rfl,trivial⟩⟩⟩⟩⟩⟩⟩⟩⟩⟩⟩⟩⟩⟩⟩⟩⟩⟩⟩⟩⟩⟩⟩⟩
theorem FQ :fS Ph ext am 467 ix:=eG aH rfl ⟨rfl,⟨rfl,⟨rfl,trivial⟩⟩⟩
theorem Co :K3 Ph ext am 438 gl:=v5 (ss:=[.l ix 467]) rfl ⟨FQ,trivial⟩
theorem Eb :fS Ph ext am 464 jS:=eG aH rfl ⟨rfl,⟨rfl,⟨rfl,⟨rfl,trivial⟩⟩⟩⟩
theorem HI :fS Ph ext am 465 oM:=eG aH rfl ⟨rfl,trivial⟩
theorem Cp :fS Ph ext am 463 jv:=eG aH rfl ⟨rfl,⟨rfl,trivial⟩⟩
theorem FP :fS Ph ext am 466 iw:=eG aH rfl ⟨rfl,⟨rfl,⟨rfl,⟨rfl,trivial⟩⟩⟩⟩
theorem yh :K3 Ph ext am 437 eQ:=v5 (ss:=[.l iw 466]) rfl ⟨FP,trivial⟩
theorem FS :fS Ph ext am 436 iY:=eG aH rfl ⟨rfl,⟨rfl,⟨rfl,⟨rfl,⟨rfl,Cp,⟨rfl,Eb,⟨rfl,⟨rfl,HI,⟨rfl,⟨rfl,⟨rfl,trivial⟩⟩⟩⟩⟩⟩⟩⟩⟩⟩⟩
theorem Cq :fS Ph ext am 440 fA:=eG aH rfl ⟨rfl,⟨rfl,qq,⟨rfl,⟨rfl,As,⟨rfl,tx,trivial⟩⟩⟩⟩⟩
theorem Cs :fS Ph ext am 422 hJ:=eG aH rfl ⟨rfl,trivial⟩
theorem FT :fS Ph ext am 439 iZ:=eG aH rfl ⟨rfl,⟨rfl,⟨rfl,Cs,⟨rfl,trivial⟩⟩⟩⟩
theorem Cr :K3 Ph ext am 435 gm:=v5 (ss:=[.l dx 462]) rfl ⟨Cm,trivial⟩
theorem FU :K3 Ph ext am 425 eT:=v5 (ss:=[.k [.int .i64, .bool, .int .i64], .s gm 435, .l iY 436, .k [.int .i64], .s eQ 437, .s gl 438, .l iZ 439, .l fA 440]) rfl ⟨rfl,⟨Cr,⟨FS,⟨rfl,⟨yh,⟨Co,⟨FT,⟨Cq,trivial⟩⟩⟩⟩⟩⟩⟩⟩
end
end Gi
