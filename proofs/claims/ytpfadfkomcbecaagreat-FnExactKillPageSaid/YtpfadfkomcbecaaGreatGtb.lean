/- Of this proof. -/
import Derived.Test.YtpfadfkomcbecaaGreatGta
set_option linter.unusedSimpArgs false
set_option linter.unusedVariables false
namespace Gi
open Go Go.RowKit
attribute [local simp] start ft aj ah az aH bf bU Opd.ev put V.cells plain bm gu isInt isStr isBool bin bM un asList L.view ap V.view viewL done aV au bE bN comp aK bq ai V.flat L.flat dG dk bt putAt thaw thawL freezeVs freezeLs freezeL V.mut L.mut aJ aT
theorem zL {f g:St→Option (Ex×St)}(h:g=f)(σ:St):av f σ=(match g σ with
 |some (.normal,σ')=>av f σ'
 |r=>r):=by rw[h];exact sM f σ
theorem Qd :eK []=0:=by simp only[eK]
theorem tN (p:PV)(ps:List PV):eK (p::ps)=sz p+eK ps:=by simp only[eK]
theorem S4 (k:IntKind)(n:Int):sz (.int k n)=0:=by simp only[sz]
theorem SQ (b:Bool):sz (.bool b)=0:=by simp only[sz]
theorem dM (s:List UInt8):sz (.str s)=s.length:=by simp only[sz]
theorem H3 :∀(l m:List PV),eK (l++m)=eK l+eK m
 |[],m=>by rw[List.nil_append,Qd,Nat.zero_add]
 |p::l,m=>by rw[List.cons_append,tN,tN,H3 l m,Nat.add_assoc]
theorem S3 (l:List PV)(o n:Nat):eK ((l.drop o).take n)≤eK l:=by
 have h1:=H3 (l.take o) (l.drop o)
 rw[List.take_append_drop]at h1
 have h2:=H3 ((l.drop o).take n) ((l.drop o).drop n)
 rw[List.take_append_drop]at h2
 rw[h1,h2]
 exact Nat.le_trans (Nat.le_add_right _ _) (Nat.le_add_left _ _)
theorem bh :∀{l:List PV}{i:Nat}{p:PV},l[i]? =some p→sz p≤eK l
 |[],_,_,h=>by simp at h
 |q::l,0,p,h=>by simp at h;subst h;rw[tN];exact Nat.le_add_right _ _
 |q::l,i+1,p,h=>by rw[tN];exact Nat.le_trans (bh (l:=l) (i:=i) (by simpa using h)) (Nat.le_add_left _ _)
def O0 (x:Option (Ex×St))(Q:Ex→St→Prop):Prop:=
 match x with
 |some (e,σ)=>Q e σ
 |none=>False
theorem O0.get {x:Option (Ex×St)}{Q:Ex→St→Prop}(h:O0 x Q):∃e σ,x=some (e,σ)∧Q e σ:=by
 unfold O0 at h
 split at h
 ·exact⟨_,_,rfl,h⟩
 ·exact h.elim
theorem F7 {e:Ex}{σ:St}{Q:Ex→St→Prop}:O0 (some (e,σ)) Q=Q e σ:=rfl
section
variable {ext:Nat→List V→Option V}
theorem LS {rows:List (List PV)}(hl:rows.length≤maxLen)(hr:∀r∈rows,∃s:List UInt8,r=[.str s]∧s.length≤maxLen):∀(m k:Nat)(i:Int),i=k→k+m=rows.length→∀(left:Int),0≤left→left≤1048576→∀(x2 x3 x4 x6 x7 x8 x9 x10 x11 x12 x13 x14 x15 x16 x17 x18 x19 x20 x21 x22 x23 x24 x25 x26 x27:V)(h:List AObj),
 O0 (av (aj (ag Ph ext) av dC) ⟨(bu rows::aa .i64 left::x2::x3::x4::aa .i64 i::x6::x7::x8::x9::x10::x11::x12::x13::x14::x15::x16::x17::x18::x19::x20::x21::x22::x23::x24::x25::x26::x27::[]),h⟩) fun e σ'=>σ'.h=h∧σ'.t.length=28∧((e= .exit 0∧0≤less left (bP (rows.drop k))∧σ'.t[1]? =some (aa .i64 (less left (bP (rows.drop k)))))∨(e= .ret∧less left (bP (rows.drop k))= -1∧σ'.t[4]? =some (aa .i64 (-1)))):=by
 generalize hF:aj (ag Ph ext) av dC=F
 intro m
 induction m with
 |zero=>
  intro k i hi hk left h0 h1 x2 x3 x4 x6 x7 x8 x9 x10 x11 x12 x13 x14 x15 x16 x17 x18 x19 x20 x21 x22 x23 x24 x25 x26 x27 h
  subst hi
  have hk':k=rows.length:=by omega
  subst hk'
  have hl0:less left (bP (rows.drop rows.length))=left:=by simp[bP,less];omega
  rw[hl0,zL hF]
  simp[dC,iF,h0,F7]
 |succ m ih=>
  intro k i hi hk left h0 h1 x2 x3 x4 x6 x7 x8 x9 x10 x11 x12 x13 x14 x15 x16 x17 x18 x19 x20 x21 x22 x23 x24 x25 x26 x27 h
  subst hi
  have hlt:k<rows.length:=by omega
  have hw:=jC (k:=k) (by unfold maxLen at hl;omega)
  obtain⟨s,hrk,hs⟩:=hr _ (List.getElem_mem hlt)
  unfold maxLen at hs
  have hw2:IntKind.i64.wrap (left-(s.length:Int))=left-(s.length:Int):=by rw[IntKind.wrap_i64];omega
  rw[AQ hlt,hrk]
  have hsz:eK [PV.str s]=s.length:=by simp[eK,sz]
  rw[hsz]
  by_cases hneg:left<(s.length:Int)
  ·have e1:less left (s.length+bP (rows.drop (k+1)))= -1:=by unfold less;rw[if_pos (by omega)]
   rw[e1,zL hF]
   have hn:left-(s.length:Int)<0:=by omega
   simp[dC,iF,hlt,hrk,hw,hw2,hn,F7]
  ·have hn:¬left-(s.length:Int)<0:=by omega
   have key:=ih (k+1) ((k:Int)+1) (by omega) (by omega) (left-s.length) (by omega) (by omega)
   have e1:less (left-s.length) (bP (rows.drop (k+1)))=less left (s.length+bP (rows.drop (k+1))):=by
    have:left-(s.length:Int)=less left s.length:=by unfold less;rw[if_neg hneg]
    rw[this];exact qF (by rw[←this];omega)
   rw[e1]at key
   clear ih
   rw[zL hF]
   simp[dC,iF,hlt,hrk,hw,hw2,hn]
   exact key _ _ _ _ _ _ _ _ _ _ _ _ _ _ _ _ _ _ _ _ _ _ _ _ _ _
theorem Ia {rows:List (List PV)}(hl:rows.length≤maxLen)(hr:∀r∈rows,∃s:List UInt8,r=[.str s]∧s.length≤maxLen){left:Int}(h0:0≤left)(h1:left≤1048576):ag Ph ext 200 [bu rows,aa .i64 left]=some (aa .i64 (less left (sz (.lst rows)))):=by
 refine fQ (fn:=ic) rfl ?_
 have hw:IntKind.i64.wrap (left-rows.length)=left-rows.length:=by unfold maxLen at hl;rw[IntKind.wrap_i64];omega
 rw[jc]
 by_cases hn:left<rows.length
 ·have hn':left-(rows.length:Int)<0:=by omega
  have e:less left (rows.length+bP rows)= -1:=by unfold less;rw[if_pos (by omega)]
  rw[e]
  generalize hF:aj (ag Ph ext) av dC=F
  simp[ic,iF,hF,hw,hn']
 ·have hn':¬left-(rows.length:Int)<0:=by omega
  have hle:left-(rows.length:Int)=less left rows.length:=by unfold less;rw[if_neg hn]
  obtain⟨e,⟨t',h'⟩,q1,q2,q5,q3⟩:=(LS (ext:=ext) hl hr rows.length 0 0 rfl (by omega) (left-rows.length) (by omega) (by omega) (.tup []) (.tup []) (aa .i64 0) (aa .i64 left) (bu rows) (aa .i64 rows.length) (aa .i64 (left-rows.length)) (aa .i64 (left-rows.length)) (ar false) (.tup []) (.tup []) (.tup []) (.tup []) (.tup []) (.tup []) (.tup []) (.tup []) (.tup []) (.tup []) (.tup []) (.tup []) (.tup []) (.tup []) (.tup []) (.tup []) []).get
  simp only[List.drop_zero]at q3
  have hls:less (left-rows.length) (bP rows)=less left (rows.length+bP rows):=by rw[hle];exact qF (by rw[←hle];omega)
  rw[hls]at q3
  simp at q5
  rcases q3 with⟨rfl,_,q4⟩|⟨rfl,q6,q4⟩
  ·obtain⟨_,q7⟩:=List.getElem?_eq_some_iff.1 q4
   simp[ic,iF,hw,hn',q1,q5,q7]
  ·obtain⟨_,q7⟩:=List.getElem?_eq_some_iff.1 q4
   simp[ic,iF,hw,hn',q1,q5,q7,q6]
end
end Gi
namespace Gi
open Go Go.RowKit
set_option maxRecDepth 4000
abbrev Tw :PTy→Type
 | .int _=>Int
 | .bool=>Bool
 | .str=>List UInt8
 | .lst _=>List (List PV)
abbrev Rq :(t:PTy)→Tw t→PV
 | .int k,n=> .int k n
 | .bool,b=> .bool b
 | .str,s=> .str s
 | .lst _,l=> .lst l
abbrev Qz :List PTy→Type
 |[]=>Unit
 |t::ts=>Tw t×Qz ts
abbrev SS :(ts:List PTy)→Qz ts→List PV
 |[],_=>[]
 |t::ts,(x,y)=>Rq t x::SS ts y
def Sm :(ts:List PTy)→Qz ts→Prop
 |[],_=>True
 |t::ts,(x,y)=>nv t (Rq t x)∧Sm ts y
theorem bL :∀{ts:List PTy}{r:List PV},aZ ts r→∃x:Qz ts,r=SS ts x∧Sm ts x
 |[],r,h=>⟨(),fm h,trivial⟩
 |t::ts,r,h=>by
  obtain⟨p,q,rfl,g,k⟩:=dI h
  obtain⟨y,rfl,l⟩:=bL k
  cases t with
  |int=>obtain⟨n,rfl⟩:=km g;exact⟨(n,y),rfl,g,l⟩
  |bool=>obtain⟨n,rfl⟩:=j9 g;exact⟨(n,y),rfl,g,l⟩
  |str=>obtain⟨n,rfl⟩:=lu g;exact⟨(n,y),rfl,g,l⟩
  |lst=>obtain⟨n,rfl⟩:=ng g;exact⟨(n,y),rfl,g,l⟩
section
variable {ext:Nat→List V→Option V}
theorem Tu {rows:List (List PV)}(h:nv (.lst ir) (.lst rows)):∀r∈rows,∃s:List UInt8,r=[.str s]∧s.length≤maxLen:=by
 obtain⟨_,hr⟩:=aL h
 intro r m
 obtain⟨⟨c0,_⟩,rfl,g0,_⟩:=bL (hr r m)
 exact⟨c0,rfl,g0⟩
theorem LY :jE Ph ext 89 xX:=ce (ss:=tw) rfl (bc ⟨rfl,rfl,trivial⟩)
theorem LK :kd Ph ext 87 xX:=cB (ss:=tw) rfl (bc ⟨rfl,rfl,trivial⟩)
theorem KY :jD Ph ext 91 xX:=cd (ss:=tw) rfl (bc ⟨rfl,rfl,trivial⟩)
theorem Ko :jU Ph ext 66 ki:=hC rfl rfl rfl rfl (by decide) (by decide) LY (fun _=>rfl)
theorem J7 :jT Ph ext 64 ki:=jm rfl rfl LK
theorem I8 :jS Ph ext 69 ki:=gW rfl rfl KY
theorem Kq :jE Ph ext 34 GC:=ce (ss:=Gg) rfl (bc ⟨rfl,rfl,rfl,trivial⟩)
theorem J9 :kd Ph ext 30 GC:=cB (ss:=Gg) rfl (bc ⟨rfl,rfl,rfl,trivial⟩)
theorem Jc :jD Ph ext 38 GC:=cd (ss:=Gg) rfl (bc ⟨rfl,rfl,rfl,trivial⟩)
theorem Ku :jE Ph ext 35 tj:=ce (ss:=qy) rfl (bc ⟨⟨Ko,rfl⟩,trivial⟩)
theorem Kc :kd Ph ext 31 tj:=cB (ss:=qy) rfl (bc ⟨J7,trivial⟩)
theorem Jh :jD Ph ext 39 tj:=cd (ss:=qy) rfl (bc ⟨I8,trivial⟩)
theorem OI :jE Ph ext 7 EC:=ce (ss:=yk) rfl (bc ⟨⟨Kq,fun _=>rfl⟩,⟨Ku,nofun⟩,trivial⟩)
theorem OA :kd Ph ext 5 EC:=cB (ss:=yk) rfl (bc ⟨J9,Kc,trivial⟩)
theorem NG :jD Ph ext 9 EC:=cd (ss:=yk) rfl (bc ⟨Jc,Jh,trivial⟩)
theorem Kr :jE Ph ext 73 td:=ce (ss:=qw) rfl (bc ⟨rfl,rfl,trivial⟩)
theorem Ka :kd Ph ext 70 td:=cB (ss:=qw) rfl (bc ⟨rfl,rfl,trivial⟩)
theorem Jd :jD Ph ext 76 td:=cd (ss:=qw) rfl (bc ⟨rfl,rfl,trivial⟩)
theorem Ik :jU Ph ext 42 jR:=hC rfl rfl rfl rfl (by decide) (by decide) Kr (fun _=>rfl)
theorem H4 :jT Ph ext 40 jR:=jm rfl rfl Ka
theorem Hb :jS Ph ext 44 jR:=gW rfl rfl Jd
theorem LZ :jE Ph ext 93 xY:=ce (ss:=tx) rfl (bc ⟨rfl,rfl,rfl,rfl,trivial⟩)
theorem LL :kd Ph ext 92 xY:=cB (ss:=tx) rfl (bc ⟨rfl,rfl,rfl,rfl,trivial⟩)
theorem KZ :jD Ph ext 94 xY:=cd (ss:=tx) rfl (bc ⟨rfl,rfl,rfl,rfl,trivial⟩)
theorem Kp :jU Ph ext 74 kj:=hC rfl rfl rfl rfl (by decide) (by decide) LZ (fun _=>rfl)
theorem J8 :jT Ph ext 71 kj:=jm rfl rfl LL
theorem Jb :jS Ph ext 77 kj:=gW rfl rfl KZ
theorem OH :jU Ph ext 75 pz:=Ij rfl rfl rfl (by decide)
theorem Oz :jT Ph ext 72 pz:=Cc rfl rfl
theorem NF :jS Ph ext 78 pz:=Ha rfl rfl
theorem Il :jE Ph ext 43 qO:=ce (ss:=oh) rfl (bc ⟨⟨Kp,rfl⟩,rfl,⟨OH,rfl⟩,rfl,rfl,rfl,trivial⟩)
theorem H5 :kd Ph ext 41 qO:=cB (ss:=oh) rfl (bc ⟨J8,rfl,Oz,rfl,rfl,rfl,trivial⟩)
theorem Hc :jD Ph ext 45 qO:=cd (ss:=oh) rfl (bc ⟨Jb,rfl,NF,rfl,rfl,rfl,trivial⟩)
theorem OM :jE Ph ext 12 tg:=ce (ss:=ym) rfl (bc ⟨rfl,rfl,rfl,rfl,⟨Ik,rfl⟩,⟨Il,nofun⟩,trivial⟩)
theorem OC :kd Ph ext 10 tg:=cB (ss:=ym) rfl (bc ⟨rfl,rfl,rfl,rfl,H4,H5,trivial⟩)
theorem NK :jD Ph ext 14 tg:=cd (ss:=ym) rfl (bc ⟨rfl,rfl,rfl,rfl,Hb,Hc,trivial⟩)
theorem L0 :jU Ph ext 53 kI:=hC rfl rfl rfl rfl (by decide) (by decide) OI nofun
theorem LM :jT Ph ext 52 kI:=jm rfl rfl OA
theorem K2 :jS Ph ext 55 kI:=gW rfl rfl NG
theorem Ie :jE Ph ext 80 tO:=ce (ss:=tu) rfl (bc ⟨rfl,rfl,trivial⟩)
theorem G6 :jD Ph ext 82 tO:=cd (ss:=tu) rfl (bc ⟨rfl,rfl,trivial⟩)
theorem FX :jU Ph ext 48 iK:=hC rfl rfl rfl rfl (by decide) (by decide) Ie (fun _=>rfl)
theorem FQ :jT Ph ext 46 iK:=Cc rfl rfl
theorem E4 :jS Ph ext 50 iK:=gW rfl rfl G6
theorem L6 :jE Ph ext 81 xZ:=ce (ss:=tB) rfl (bc ⟨rfl,rfl,⟨Kq,fun _=>rfl⟩,rfl,rfl,trivial⟩)
theorem LV :kd Ph ext 79 xZ:=cB (ss:=tB) rfl (bc ⟨rfl,rfl,J9,rfl,rfl,trivial⟩)
theorem K7 :jD Ph ext 83 xZ:=cd (ss:=tB) rfl (bc ⟨rfl,rfl,Jc,rfl,rfl,trivial⟩)
theorem AV :jU Ph ext 49 gM:=hC rfl rfl rfl rfl (by decide) (by decide) L6 (fun _=>rfl)
theorem AT :jT Ph ext 47 gM:=jm rfl rfl LV
theorem At :jS Ph ext 51 gM:=gW rfl rfl K7
theorem wl :jE Ph ext 22 rS:=ce (ss:=tz) rfl (bc ⟨rfl,⟨L0,rfl⟩,rfl,trivial⟩)
theorem wi :kd Ph ext 20 rS:=cB (ss:=tz) rfl (bc ⟨rfl,LM,rfl,trivial⟩)
theorem vh :jD Ph ext 24 rS:=cd (ss:=tz) rfl (bc ⟨rfl,K2,rfl,trivial⟩)
theorem Kv :jE Ph ext 17 tk:=ce (ss:=qz) rfl (bc ⟨⟨wl,nofun⟩,⟨FX,rfl⟩,⟨AV,rfl⟩,trivial⟩)
theorem Kd :kd Ph ext 15 tk:=cB (ss:=qz) rfl (bc ⟨wi,FQ,AT,trivial⟩)
theorem Ji :jD Ph ext 19 tk:=cd (ss:=qz) rfl (bc ⟨vh,E4,At,trivial⟩)
theorem Kw :jU Ph ext 60 jA:=hC rfl rfl rfl rfl (by decide) (by decide) wl nofun
theorem Ke :jT Ph ext 57 jA:=jm rfl rfl wi
theorem Jj :jS Ph ext 63 jA:=gW rfl rfl vh
theorem EI :jU Ph ext 255 jn:=Ij rfl rfl rfl (by decide)
theorem Es :jT Ph ext 251 jn:=Cc rfl rfl
theorem CJ :jS Ph ext 259 jn:=Ha rfl rfl
theorem F3 :jE Ph ext 281 pA:=ce (ss:=mL) rfl (bc ⟨rfl,rfl,rfl,⟨EI,rfl⟩,rfl,trivial⟩)
theorem FW :kd Ph ext 280 pA:=cB (ss:=mL) rfl (bc ⟨rfl,rfl,rfl,Es,rfl,trivial⟩)
theorem E8 :jD Ph ext 282 pA:=cd (ss:=mL) rfl (bc ⟨rfl,rfl,rfl,CJ,rfl,trivial⟩)
theorem Km :jE Ph ext 278 tc:=ce (ss:=qv) rfl (bc ⟨rfl,rfl,⟨F3,nofun⟩,trivial⟩)
theorem J6 :kd Ph ext 277 tc:=cB (ss:=qv) rfl (bc ⟨rfl,rfl,FW,trivial⟩)
theorem I7 :jD Ph ext 279 tc:=cd (ss:=qv) rfl (bc ⟨rfl,rfl,E8,trivial⟩)
theorem Ig :jU Ph ext 273 jQ:=hC rfl rfl rfl rfl (by decide) (by decide) Km nofun
theorem H0 :jT Ph ext 271 jQ:=jm rfl rfl J6
theorem G8 :jS Ph ext 275 jQ:=gW rfl rfl I7
theorem LX :jE Ph ext 265 xW:=ce (ss:=tv) rfl (bc ⟨rfl,⟨Ig,rfl⟩,trivial⟩)
theorem LJ :kd Ph ext 262 xW:=cB (ss:=tv) rfl (bc ⟨rfl,H0,trivial⟩)
theorem KX :jD Ph ext 268 xW:=cd (ss:=tv) rfl (bc ⟨rfl,G8,trivial⟩)
theorem Kl :jU Ph ext 253 kh:=hC rfl rfl rfl rfl (by decide) (by decide) LX nofun
theorem J5 :jT Ph ext 249 kh:=jm rfl rfl LJ
theorem I6 :jS Ph ext 257 kh:=gW rfl rfl KX
theorem F2 :jE Ph ext 274 py:=ce (ss:=mK) rfl (bc ⟨rfl,rfl,trivial⟩)
theorem FU :kd Ph ext 272 py:=cB (ss:=mK) rfl (bc ⟨rfl,rfl,trivial⟩)
theorem E7 :jD Ph ext 276 py:=cd (ss:=mK) rfl (bc ⟨rfl,rfl,trivial⟩)
theorem EJ :jU Ph ext 266 fu:=hC rfl rfl rfl rfl (by decide) (by decide) F2 (fun _=>rfl)
theorem Eu :jT Ph ext 263 fu:=jm rfl rfl FU
theorem CL :jS Ph ext 269 fu:=gW rfl rfl E7
theorem yb :jE Ph ext 231 jz:=ce (ss:=hY) rfl (bc ⟨rfl,rfl,rfl,rfl,trivial⟩)
theorem xV :kd Ph ext 227 jz:=cB (ss:=hY) rfl (bc ⟨rfl,rfl,rfl,rfl,trivial⟩)
theorem wx :jD Ph ext 235 jz:=cd (ss:=hY) rfl (bc ⟨rfl,rfl,rfl,rfl,trivial⟩)
theorem FY :jE Ph ext 232 pw:=ce (ss:=mI) rfl (bc ⟨⟨Kl,rfl⟩,trivial⟩)
theorem FS :kd Ph ext 228 pw:=cB (ss:=mI) rfl (bc ⟨J5,trivial⟩)
theorem E5 :jD Ph ext 236 pw:=cd (ss:=mI) rfl (bc ⟨I6,trivial⟩)
theorem FZ :jE Ph ext 254 px:=ce (ss:=mJ) rfl (bc ⟨rfl,rfl,⟨Kw,rfl⟩,⟨EJ,rfl⟩,trivial⟩)
theorem FT :kd Ph ext 250 px:=cB (ss:=mJ) rfl (bc ⟨rfl,rfl,Ke,Eu,trivial⟩)
theorem E6 :jD Ph ext 258 px:=cd (ss:=mJ) rfl (bc ⟨rfl,rfl,Jj,CL,trivial⟩)
theorem OG :jE Ph ext 233 EB:=ce (ss:=yj) rfl (bc ⟨⟨FZ,nofun⟩,⟨EI,rfl⟩,rfl,trivial⟩)
theorem Oy :kd Ph ext 229 EB:=cB (ss:=yj) rfl (bc ⟨FT,Es,rfl,trivial⟩)
theorem ND :jD Ph ext 237 EB:=cd (ss:=yj) rfl (bc ⟨E6,CJ,rfl,trivial⟩)
theorem Kt :jE Ph ext 267 tf:=ce (ss:=qx) rfl (bc ⟨rfl,rfl,⟨AV,rfl⟩,trivial⟩)
theorem Kb :kd Ph ext 264 tf:=cB (ss:=qx) rfl (bc ⟨rfl,rfl,AT,trivial⟩)
theorem Jg :jD Ph ext 270 tf:=cd (ss:=qx) rfl (bc ⟨rfl,rfl,At,trivial⟩)
theorem OO :jE Ph ext 256 EE:=ce (ss:=yp) rfl (bc ⟨⟨Kt,nofun⟩,rfl,rfl,trivial⟩)
theorem OE :kd Ph ext 252 EE:=cB (ss:=yp) rfl (bc ⟨Kb,rfl,rfl,trivial⟩)
theorem NM :jD Ph ext 260 EE:=cd (ss:=yp) rfl (bc ⟨Jg,rfl,rfl,trivial⟩)
theorem Im :jE Ph ext 234 qP:=ce (ss:=ol) rfl (bc ⟨⟨wl,nofun⟩,rfl,⟨OO,nofun⟩,trivial⟩)
theorem H6 :kd Ph ext 230 qP:=cB (ss:=ol) rfl (bc ⟨wi,rfl,OE,trivial⟩)
theorem Hd :jD Ph ext 238 qP:=cd (ss:=ol) rfl (bc ⟨vh,rfl,NM,trivial⟩)
theorem Kk :jE Ph ext 201 tb:=ce (ss:=qu) rfl (bc ⟨rfl,rfl,⟨yb,fun _=>rfl⟩,⟨FY,nofun⟩,⟨OG,nofun⟩,⟨Im,nofun⟩,rfl,rfl,trivial⟩)
theorem J4 :kd Ph ext 198 tb:=cB (ss:=qu) rfl (bc ⟨rfl,rfl,xV,FS,Oy,H6,rfl,rfl,trivial⟩)
theorem I5 :jD Ph ext 205 tb:=cd (ss:=qu) rfl (bc ⟨rfl,rfl,wx,E5,ND,Hd,rfl,rfl,trivial⟩)
theorem If :jU Ph ext 167 ff:=hC rfl rfl rfl rfl (by decide) (by decide) Kk nofun
theorem HY :jT Ph ext 163 ff:=jm rfl rfl J4
theorem G7 :jS Ph ext 171 ff:=gW rfl rfl I5
theorem L3 :jU Ph ext 134 gZ:=hC rfl rfl rfl rfl (by decide) (by decide) OM nofun
theorem LP :jT Ph ext 128 gZ:=jm rfl rfl OC
theorem K5 :jS Ph ext 140 gZ:=gW rfl rfl NK
theorem OJ :jE Ph ext 202 te:=ce (ss:=yl) rfl (bc ⟨rfl,rfl,rfl,rfl,trivial⟩)
theorem OB :kd Ph ext 199 te:=cB (ss:=yl) rfl (bc ⟨rfl,rfl,rfl,rfl,trivial⟩)
theorem NH :jD Ph ext 206 te:=cd (ss:=yl) rfl (bc ⟨rfl,rfl,rfl,rfl,trivial⟩)
theorem L1 :jU Ph ext 168 gL:=hC rfl rfl rfl rfl (by decide) (by decide) OJ (fun _=>rfl)
theorem LN :jT Ph ext 164 gL:=jm rfl rfl OB
theorem K3 :jS Ph ext 172 gL:=gW rfl rfl NH
theorem OK :jE Ph ext 203 Ic:=ce (ss:=G3) rfl (bc ⟨rfl,rfl,rfl,trivial⟩)
theorem NI :jD Ph ext 207 Ic:=cd (ss:=G3) rfl (bc ⟨rfl,rfl,rfl,trivial⟩)
theorem L2 :jU Ph ext 169 iL:=hC rfl rfl rfl rfl (by decide) (by decide) OK (fun _=>rfl)
theorem LO :jT Ph ext 165 iL:=Cc rfl rfl
theorem K4 :jS Ph ext 173 iL:=gW rfl rfl NI
theorem Iq :jU Ph ext 204 ir:=Ij rfl rfl rfl (by decide)
theorem Ib :jT Ph ext 200 ir:=fun _ h _ a b=>Ia (aL h).1 (Tu h) a b
theorem Hg :jS Ph ext 208 ir:=Ha rfl rfl
theorem ON :jE Ph ext 170 ED:=ce (ss:=yn) rfl (bc ⟨rfl,rfl,⟨Iq,rfl⟩,rfl,trivial⟩)
theorem OD :kd Ph ext 166 ED:=cB (ss:=yn) rfl (bc ⟨rfl,rfl,Ib,rfl,trivial⟩)
theorem NL :jD Ph ext 174 ED:=cd (ss:=yn) rfl (bc ⟨rfl,rfl,Hg,rfl,trivial⟩)
theorem L4 :jU Ph ext 137 jo:=hC rfl rfl rfl rfl (by decide) (by decide) ON nofun
theorem LQ :jT Ph ext 131 jo:=jm rfl rfl OD
theorem K6 :jS Ph ext 143 jo:=gW rfl rfl NL
theorem Io :jU Ph ext 138 fD:=hC rfl rfl rfl rfl (by decide) (by decide) Kv nofun
theorem H8 :jT Ph ext 132 fD:=jm rfl rfl Kd
theorem He :jS Ph ext 144 fD:=gW rfl rfl Ji
theorem Ip :jE Ph ext 133 gE:=ce (ss:=om) rfl (bc ⟨⟨If,rfl⟩,trivial⟩)
theorem H9 :kd Ph ext 127 gE:=cB (ss:=om) rfl (bc ⟨HY,trivial⟩)
theorem Hf :jD Ph ext 139 gE:=cd (ss:=om) rfl (bc ⟨G7,trivial⟩)
theorem EL :jE Ph ext 135 eU:=ce (ss:=lh) rfl (bc ⟨⟨L1,rfl⟩,trivial⟩)
theorem Ey :kd Ph ext 129 eU:=cB (ss:=lh) rfl (bc ⟨LN,trivial⟩)
theorem CM :jD Ph ext 141 eU:=cd (ss:=lh) rfl (bc ⟨K3,trivial⟩)
theorem Ih :jE Ph ext 136 gD:=ce (ss:=og) rfl (bc ⟨⟨L2,rfl⟩,trivial⟩)
theorem H2 :kd Ph ext 130 gD:=cB (ss:=og) rfl (bc ⟨LO,trivial⟩)
theorem G9 :jD Ph ext 142 gD:=cd (ss:=og) rfl (bc ⟨K4,trivial⟩)
theorem L5 :jE Ph ext 106 ew:=ce (ss:=tA) rfl (bc ⟨rfl,rfl,rfl,⟨Ip,nofun⟩,⟨L3,rfl⟩,rfl,⟨EL,nofun⟩,⟨Ih,nofun⟩,⟨L4,rfl⟩,⟨Io,rfl⟩,trivial⟩)
theorem LU :kd Ph ext 104 ew:=cB (ss:=tA) rfl (bc ⟨rfl,rfl,rfl,H9,LP,rfl,Ey,H2,LQ,H8,trivial⟩)
theorem CN :jD Ph ext 108 ew:=cd (ss:=tA) rfl (bc ⟨rfl,rfl,rfl,Hf,K5,rfl,CM,G9,K6,He,trivial⟩)
theorem aI :AW Ph ext am 432:=R7 rfl
theorem BE :oB Ph ext am 448 iK:=eG aI rfl rfl ⟨rfl,⟨rfl,trivial⟩⟩
theorem xE :oB Ph ext am 474 jn:=eG aI rfl rfl ⟨rfl,trivial⟩
theorem DW :oB Ph ext am 485 jQ:=eG aI rfl rfl ⟨rfl,⟨rfl,⟨rfl,⟨rfl,⟨rfl,⟨rfl,xE,⟨rfl,trivial⟩⟩⟩⟩⟩⟩⟩
theorem FH :oB Ph ext am 471 kh:=eG aI rfl rfl ⟨rfl,⟨rfl,DW,trivial⟩⟩
theorem FI :oB Ph ext am 475 ki:=eG aI rfl rfl ⟨rfl,⟨rfl,trivial⟩⟩
theorem rB :oB Ph ext am 447 kI:=eG aI rfl rfl ⟨rfl,⟨rfl,⟨rfl,⟨rfl,FI,trivial⟩⟩⟩⟩
theorem FK :oB Ph ext am 472 jA:=eG aI rfl rfl ⟨rfl,⟨rfl,rB,⟨rfl,trivial⟩⟩⟩
theorem zO :oB Ph ext am 473 fu:=eG aI rfl rfl ⟨rfl,⟨rfl,trivial⟩⟩
theorem uA :oB Ph ext am 449 gM:=eG aI rfl rfl ⟨rfl,⟨rfl,⟨rfl,⟨rfl,⟨rfl,⟨rfl,⟨rfl,trivial⟩⟩⟩⟩⟩⟩⟩
theorem sN :oB Ph ext am 441 ff:=eG aI rfl rfl ⟨rfl,⟨rfl,⟨rfl,⟨rfl,⟨rfl,⟨rfl,⟨rfl,FH,⟨rfl,⟨rfl,⟨rfl,FK,⟨rfl,zO,⟨rfl,xE,⟨rfl,⟨rfl,⟨rfl,rB,⟨rfl,⟨rfl,⟨rfl,⟨rfl,⟨rfl,uA,⟨rfl,⟨rfl,⟨rfl,⟨rfl,trivial⟩⟩⟩⟩⟩⟩⟩⟩⟩⟩⟩⟩⟩⟩⟩⟩⟩⟩⟩⟩⟩⟩⟩⟩
theorem HF :oB Ph ext am 446 iL:=eG aI rfl rfl ⟨rfl,⟨rfl,⟨rfl,trivial⟩⟩⟩
theorem sO :M7 Ph ext am 429 gD:=xF (ss:=[.l iL 446]) rfl rfl ⟨HF,trivial⟩
theorem FJ :oB Ph ext am 443 kj:=eG aI rfl rfl ⟨rfl,⟨rfl,⟨rfl,⟨rfl,trivial⟩⟩⟩⟩
theorem JB :oB Ph ext am 444 pz:=eG aI rfl rfl ⟨rfl,trivial⟩
theorem DX :oB Ph ext am 442 jR:=eG aI rfl rfl ⟨rfl,⟨rfl,trivial⟩⟩
theorem HE :oB Ph ext am 445 gL:=eG aI rfl rfl ⟨rfl,⟨rfl,⟨rfl,⟨rfl,trivial⟩⟩⟩⟩
theorem qI :M7 Ph ext am 428 eU:=xF (ss:=[.l gL 445]) rfl rfl ⟨HE,trivial⟩
theorem xG :oB Ph ext am 427 gZ:=eG aI rfl rfl ⟨rfl,⟨rfl,⟨rfl,⟨rfl,⟨rfl,DX,⟨rfl,FJ,⟨rfl,⟨rfl,JB,⟨rfl,⟨rfl,⟨rfl,trivial⟩⟩⟩⟩⟩⟩⟩⟩⟩⟩⟩
theorem pj :oB Ph ext am 431 fD:=eG aI rfl rfl ⟨rfl,⟨rfl,rB,⟨rfl,⟨rfl,BE,⟨rfl,uA,trivial⟩⟩⟩⟩⟩
theorem DY :oB Ph ext am 421 ir:=eG aI rfl rfl ⟨rfl,trivial⟩
theorem rE :oB Ph ext am 430 jo:=eG aI rfl rfl ⟨rfl,⟨rfl,⟨rfl,DY,⟨rfl,trivial⟩⟩⟩⟩
theorem sP :M7 Ph ext am 426 gE:=xF (ss:=[.l ff 441]) rfl rfl ⟨sN,trivial⟩
theorem HG :M7 Ph ext am 420 ew:=xF (ss:=[.k [.int .i64, .bool, .int .i64], .s gE 426, .l gZ 427, .k [.int .i64], .s eU 428, .s gD 429, .l jo 430, .l fD 431]) rfl rfl ⟨rfl,⟨sP,⟨xG,⟨rfl,⟨qI,⟨sO,⟨rE,⟨pj,trivial⟩⟩⟩⟩⟩⟩⟩⟩
theorem By :gj Ph ext am 469 iK:=eE aI rfl ⟨rfl,⟨rfl,trivial⟩⟩
theorem xf :gj Ph ext am 483 jn:=eE aI rfl ⟨rfl,trivial⟩
theorem DE :gj Ph ext am 494 jQ:=eE aI rfl ⟨rfl,⟨rfl,⟨rfl,⟨rfl,⟨rfl,⟨rfl,xf,⟨rfl,trivial⟩⟩⟩⟩⟩⟩⟩
theorem FD :gj Ph ext am 480 kh:=eE aI rfl ⟨rfl,⟨rfl,DE,trivial⟩⟩
theorem FE :gj Ph ext am 484 ki:=eE aI rfl ⟨rfl,⟨rfl,trivial⟩⟩
theorem ro :gj Ph ext am 468 kI:=eE aI rfl ⟨rfl,⟨rfl,⟨rfl,⟨rfl,FE,trivial⟩⟩⟩⟩
theorem FG :gj Ph ext am 481 jA:=eE aI rfl ⟨rfl,⟨rfl,ro,⟨rfl,trivial⟩⟩⟩
theorem zt :gj Ph ext am 482 fu:=eE aI rfl ⟨rfl,⟨rfl,trivial⟩⟩
theorem uw :gj Ph ext am 470 gM:=eE aI rfl ⟨rfl,⟨rfl,⟨rfl,⟨rfl,⟨rfl,⟨rfl,⟨rfl,trivial⟩⟩⟩⟩⟩⟩⟩
theorem DD :gj Ph ext am 462 ff:=eE aI rfl ⟨rfl,⟨rfl,⟨rfl,⟨rfl,⟨rfl,⟨rfl,⟨rfl,FD,⟨rfl,⟨rfl,⟨rfl,FG,⟨rfl,zt,⟨rfl,xf,⟨rfl,⟨rfl,⟨rfl,ro,⟨rfl,⟨rfl,⟨rfl,⟨rfl,⟨rfl,uw,⟨rfl,⟨rfl,⟨rfl,⟨rfl,trivial⟩⟩⟩⟩⟩⟩⟩⟩⟩⟩⟩⟩⟩⟩⟩⟩⟩⟩⟩⟩⟩⟩⟩⟩
theorem Ht :gj Ph ext am 467 iL:=eE aI rfl ⟨rfl,⟨rfl,⟨rfl,trivial⟩⟩⟩
theorem DF :M5 Ph ext am 438 gD:=xh (ss:=[.l iL 467]) rfl ⟨Ht,trivial⟩
theorem FF :gj Ph ext am 464 kj:=eE aI rfl ⟨rfl,⟨rfl,⟨rfl,⟨rfl,trivial⟩⟩⟩⟩
theorem Jq :gj Ph ext am 465 pz:=eE aI rfl ⟨rfl,trivial⟩
theorem DG :gj Ph ext am 463 jR:=eE aI rfl ⟨rfl,⟨rfl,trivial⟩⟩
theorem Hs :gj Ph ext am 466 gL:=eE aI rfl ⟨rfl,⟨rfl,⟨rfl,⟨rfl,trivial⟩⟩⟩⟩
theorem zw :M5 Ph ext am 437 eU:=xh (ss:=[.l gL 466]) rfl ⟨Hs,trivial⟩
theorem Hu :gj Ph ext am 436 gZ:=eE aI rfl ⟨rfl,⟨rfl,⟨rfl,⟨rfl,⟨rfl,DG,⟨rfl,FF,⟨rfl,⟨rfl,Jq,⟨rfl,⟨rfl,⟨rfl,trivial⟩⟩⟩⟩⟩⟩⟩⟩⟩⟩⟩
theorem DH :gj Ph ext am 440 fD:=eE aI rfl ⟨rfl,⟨rfl,ro,⟨rfl,⟨rfl,By,⟨rfl,uw,trivial⟩⟩⟩⟩⟩
theorem DJ :gj Ph ext am 422 ir:=eE aI rfl ⟨rfl,trivial⟩
theorem Hv :gj Ph ext am 439 jo:=eE aI rfl ⟨rfl,⟨rfl,⟨rfl,DJ,⟨rfl,trivial⟩⟩⟩⟩
theorem DI :M5 Ph ext am 435 gE:=xh (ss:=[.l ff 462]) rfl ⟨DD,trivial⟩
theorem Hw :M5 Ph ext am 425 ew:=xh (ss:=[.k [.int .i64, .bool, .int .i64], .s gE 435, .l gZ 436, .k [.int .i64], .s eU 437, .s gD 438, .l jo 439, .l fD 440]) rfl ⟨rfl,⟨DI,⟨Hu,⟨rfl,⟨zw,⟨DF,⟨Hv,⟨DH,trivial⟩⟩⟩⟩⟩⟩⟩⟩
end
end Gi
