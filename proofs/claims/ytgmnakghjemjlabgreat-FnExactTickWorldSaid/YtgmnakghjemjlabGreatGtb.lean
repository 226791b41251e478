/- Of this proof. -/
import Derived.Test.YtgmnakghjemjlabGreatGta
set_option linter.unusedSimpArgs false
set_option linter.unusedVariables false
namespace Gi
open Go Go.RowKit
attribute [local simp] bw fm aj ah aw aH bg bY Opd.ev put V.cells plain bo gr isInt isStr isBool bin bN un asList L.view ap V.view viewL done aU ar bz bP comp aK bu ai V.flat L.flat dJ dk bt putAt thaw thawL freezeVs freezeLs freezeL V.mut L.mut aJ aV
theorem zb {f g:St→Option (Ex×St)}(h:g=f)(σ:St):av f σ=(match g σ with
 |some (.normal,σ')=>av f σ'
 |r=>r):=by rw[h];exact sx f σ
theorem OJ :eV []=0:=by simp only[eV]
theorem tu (p:PV)(ps:List PV):eV (p::ps)=sz p+eV ps:=by simp only[eV]
theorem Rh (k:IntKind)(n:Int):sz (.int k n)=0:=by simp only[sz]
theorem Q5 (b:Bool):sz (.bool b)=0:=by simp only[sz]
theorem dP (s:List UInt8):sz (.str s)=s.length:=by simp only[sz]
theorem GY :∀(l m:List PV),eV (l++m)=eV l+eV m
 |[],m=>by rw[List.nil_append,OJ,Nat.zero_add]
 |p::l,m=>by rw[List.cons_append,tu,tu,GY l m,Nat.add_assoc]
theorem Rg (l:List PV)(o n:Nat):eV ((l.drop o).take n)≤eV l:=by
 have h1:=GY (l.take o) (l.drop o)
 rw[List.take_append_drop]at h1
 have h2:=GY ((l.drop o).take n) ((l.drop o).drop n)
 rw[List.take_append_drop]at h2
 rw[h1,h2]
 exact Nat.le_trans (Nat.le_add_right _ _) (Nat.le_add_left _ _)
theorem bj :∀{l:List PV}{i:Nat}{p:PV},l[i]? =some p→sz p≤eV l
 |[],_,_,h=>by simp at h
 |q::l,0,p,h=>by simp at h;subst h;rw[tu];exact Nat.le_add_right _ _
 |q::l,i+1,p,h=>by rw[tu];exact Nat.le_trans (bj (l:=l) (i:=i) (by simpa using h)) (Nat.le_add_left _ _)
def Nz (x:Option (Ex×St))(Q:Ex→St→Prop):Prop:=
 match x with
 |some (e,σ)=>Q e σ
 |none=>False
theorem Nz.get {x:Option (Ex×St)}{Q:Ex→St→Prop}(h:Nz x Q):∃e σ,x=some (e,σ)∧Q e σ:=by
 unfold Nz at h
 split at h
 ·exact⟨_,_,rfl,h⟩
 ·exact h.elim
theorem Fb {e:Ex}{σ:St}{Q:Ex→St→Prop}:Nz (some (e,σ)) Q=Q e σ:=rfl
section
variable {ext:Nat→List V→Option V}
theorem Ky {rows:List (List PV)}(hl:rows.length≤maxLen)(hr:∀r∈rows,∃s:List UInt8,r=[.str s]∧s.length≤maxLen):∀(m k:Nat)(i:Int),i=k→k+m=rows.length→∀(left:Int),0≤left→left≤1048576→∀(x2 x3 x4 x6 x7 x8 x9 x10 x11 x12 x13 x14 x15 x16 x17 x18 x19 x20 x21 x22 x23 x24 x25 x26 x27:V)(h:List AObj),
 Nz (av (aj (ag Ph ext) av dE) ⟨(bm rows::aa .i64 left::x2::x3::x4::aa .i64 i::x6::x7::x8::x9::x10::x11::x12::x13::x14::x15::x16::x17::x18::x19::x20::x21::x22::x23::x24::x25::x26::x27::[]),h⟩) fun e σ'=>σ'.h=h∧σ'.t.length=28∧((e= .exit 0∧0≤less left (cu (rows.drop k))∧σ'.t[1]? =some (aa .i64 (less left (cu (rows.drop k)))))∨(e= .ret∧less left (cu (rows.drop k))= -1∧σ'.t[4]? =some (aa .i64 (-1)))):=by
 generalize hF:aj (ag Ph ext) av dE=F
 intro m
 induction m with
 |zero=>
  intro k i hi hk left h0 h1 x2 x3 x4 x6 x7 x8 x9 x10 x11 x12 x13 x14 x15 x16 x17 x18 x19 x20 x21 x22 x23 x24 x25 x26 x27 h
  subst hi
  have hk':k=rows.length:=by omega
  subst hk'
  have hl0:less left (cu (rows.drop rows.length))=left:=by simp[cu,less];omega
  rw[hl0,zb hF]
  simp[dE,iB,h0,Fb]
 |succ m ih=>
  intro k i hi hk left h0 h1 x2 x3 x4 x6 x7 x8 x9 x10 x11 x12 x13 x14 x15 x16 x17 x18 x19 x20 x21 x22 x23 x24 x25 x26 x27 h
  subst hi
  have hlt:k<rows.length:=by omega
  have hw:=jA (k:=k) (by unfold maxLen at hl;omega)
  obtain⟨s,hrk,hs⟩:=hr _ (List.getElem_mem hlt)
  unfold maxLen at hs
  have hw2:IntKind.i64.wrap (left-(s.length:Int))=left-(s.length:Int):=by rw[IntKind.wrap_i64];omega
  rw[Aj hlt,hrk]
  have hsz:eV [PV.str s]=s.length:=by simp[eV,sz]
  rw[hsz]
  by_cases hneg:left<(s.length:Int)
  ·have e1:less left (s.length+cu (rows.drop (k+1)))= -1:=by unfold less;rw[if_pos (by omega)]
   rw[e1,zb hF]
   have hn:left-(s.length:Int)<0:=by omega
   simp[dE,iB,hlt,hrk,hw,hw2,hn,Fb]
  ·have hn:¬left-(s.length:Int)<0:=by omega
   have key:=ih (k+1) ((k:Int)+1) (by omega) (by omega) (left-s.length) (by omega) (by omega)
   have e1:less (left-s.length) (cu (rows.drop (k+1)))=less left (s.length+cu (rows.drop (k+1))):=by
    have:left-(s.length:Int)=less left s.length:=by unfold less;rw[if_neg hneg]
    rw[this];exact qm (by rw[←this];omega)
   rw[e1]at key
   clear ih
   rw[zb hF]
   simp[dE,iB,hlt,hrk,hw,hw2,hn]
   exact key _ _ _ _ _ _ _ _ _ _ _ _ _ _ _ _ _ _ _ _ _ _ _ _ _ _
theorem G5 {rows:List (List PV)}(hl:rows.length≤maxLen)(hr:∀r∈rows,∃s:List UInt8,r=[.str s]∧s.length≤maxLen){left:Int}(h0:0≤left)(h1:left≤1048576):ag Ph ext 200 [bm rows,aa .i64 left]=some (aa .i64 (less left (sz (.lst rows)))):=by
 refine fS (fn:=hX) rfl ?_
 have hw:IntKind.i64.wrap (left-rows.length)=left-rows.length:=by unfold maxLen at hl;rw[IntKind.wrap_i64];omega
 rw[jZ]
 by_cases hn:left<rows.length
 ·have hn':left-(rows.length:Int)<0:=by omega
  have e:less left (rows.length+cu rows)= -1:=by unfold less;rw[if_pos (by omega)]
  rw[e]
  generalize hF:aj (ag Ph ext) av dE=F
  simp[hX,iB,hF,hw,hn']
 ·have hn':¬left-(rows.length:Int)<0:=by omega
  have hle:left-(rows.length:Int)=less left rows.length:=by unfold less;rw[if_neg hn]
  obtain⟨e,⟨t',h'⟩,q1,q2,q5,q3⟩:=(Ky (ext:=ext) hl hr rows.length 0 0 rfl (by omega) (left-rows.length) (by omega) (by omega) (.tup []) (.tup []) (aa .i64 0) (aa .i64 left) (bm rows) (aa .i64 rows.length) (aa .i64 (left-rows.length)) (aa .i64 (left-rows.length)) (au false) (.tup []) (.tup []) (.tup []) (.tup []) (.tup []) (.tup []) (.tup []) (.tup []) (.tup []) (.tup []) (.tup []) (.tup []) (.tup []) (.tup []) (.tup []) (.tup []) []).get
  simp only[List.drop_zero]at q3
  have hls:less (left-rows.length) (cu rows)=less left (rows.length+cu rows):=by rw[hle];exact qm (by rw[←hle];omega)
  rw[hls]at q3
  simp at q5
  rcases q3 with⟨rfl,_,q4⟩|⟨rfl,q6,q4⟩
  ·obtain⟨_,q7⟩:=List.getElem?_eq_some_iff.1 q4
   simp[hX,iB,hw,hn',q1,q5,q7]
  ·obtain⟨_,q7⟩:=List.getElem?_eq_some_iff.1 q4
   simp[hX,iB,hw,hn',q1,q5,q7,q6]
end
end Gi
namespace Gi
open Go Go.RowKit
set_option maxRecDepth 4000
abbrev RK :PTy→Type
 | .int _=>Int
 | .bool=>Bool
 | .str=>List UInt8
 | .lst _=>List (List PV)
abbrev PP :(t:PTy)→RK t→PV
 | .int k,n=> .int k n
 | .bool,b=> .bool b
 | .str,s=> .str s
 | .lst _,l=> .lst l
abbrev O6 :List PTy→Type
 |[]=>Unit
 |t::ts=>RK t×O6 ts
abbrev Q6 :(ts:List PTy)→O6 ts→List PV
 |[],_=>[]
 |t::ts,(x,y)=>PP t x::Q6 ts y
def QD :(ts:List PTy)→O6 ts→Prop
 |[],_=>True
 |t::ts,(x,y)=>nE t (PP t x)∧QD ts y
theorem bO :∀{ts:List PTy}{r:List PV},bf ts r→∃x:O6 ts,r=Q6 ts x∧QD ts x
 |[],r,h=>⟨(),fu h,trivial⟩
 |t::ts,r,h=>by
  obtain⟨p,q,rfl,g,k⟩:=dM h
  obtain⟨y,rfl,l⟩:=bO k
  cases t with
  |int=>obtain⟨n,rfl⟩:=kd g;exact⟨(n,y),rfl,g,l⟩
  |bool=>obtain⟨n,rfl⟩:=j3 g;exact⟨(n,y),rfl,g,l⟩
  |str=>obtain⟨n,rfl⟩:=la g;exact⟨(n,y),rfl,g,l⟩
  |lst=>obtain⟨n,rfl⟩:=mV g;exact⟨(n,y),rfl,g,l⟩
section
variable {ext:Nat→List V→Option V}
theorem RI {rows:List (List PV)}(h:nE (.lst eW) (.lst rows)):∀r∈rows,∃s:List UInt8,r=[.str s]∧s.length≤maxLen:=by
 obtain⟨_,hr⟩:=aL h
 intro r m
 obtain⟨⟨c0,_⟩,rfl,g0,_⟩:=bO (hr r m)
 exact⟨c0,rfl,g0⟩
theorem KD :jC Ph ext 89 xw:=cj (ss:=sZ) rfl (bd ⟨rfl,rfl,trivial⟩)
theorem Kq :j4 Ph ext 87 xw:=cB (ss:=sZ) rfl (bd ⟨rfl,rfl,trivial⟩)
theorem JK :jB Ph ext 91 xw:=cf (ss:=sZ) rfl (bd ⟨rfl,rfl,trivial⟩)
theorem Jc :jP Ph ext 66 j7:=gX rfl rfl rfl rfl (by decide) (by decide) KD (fun _=>rfl)
theorem IW :jO Ph ext 64 j7:=jh rfl rfl Kq
theorem H1 :jN Ph ext 69 j7:=gU rfl rfl JK
theorem Je :jC Ph ext 34 FD:=cj (ss:=Fj) rfl (bd ⟨rfl,rfl,rfl,trivial⟩)
theorem IY :j4 Ph ext 30 FD:=cB (ss:=Fj) rfl (bd ⟨rfl,rfl,rfl,trivial⟩)
theorem H5 :jB Ph ext 38 FD:=cf (ss:=Fj) rfl (bd ⟨rfl,rfl,rfl,trivial⟩)
theorem Jh :jC Ph ext 35 sQ:=cj (ss:=qf) rfl (bd ⟨⟨Jc,rfl⟩,trivial⟩)
theorem I1 :j4 Ph ext 31 sQ:=cB (ss:=qf) rfl (bd ⟨IW,trivial⟩)
theorem Ia :jB Ph ext 39 sQ:=cf (ss:=qf) rfl (bd ⟨H1,trivial⟩)
theorem Nk :jC Ph ext 7 DQ:=cj (ss:=xM) rfl (bd ⟨⟨Je,fun _=>rfl⟩,⟨Jh,nofun⟩,trivial⟩)
theorem Nb :j4 Ph ext 5 DQ:=cB (ss:=xM) rfl (bd ⟨IY,I1,trivial⟩)
theorem Mm :jB Ph ext 9 DQ:=cf (ss:=xM) rfl (bd ⟨H5,Ia,trivial⟩)
theorem Jf :jC Ph ext 73 sO:=cj (ss:=qd) rfl (bd ⟨rfl,rfl,trivial⟩)
theorem IZ :j4 Ph ext 70 sO:=cB (ss:=qd) rfl (bd ⟨rfl,rfl,trivial⟩)
theorem H6 :jB Ph ext 76 sO:=cf (ss:=qd) rfl (bd ⟨rfl,rfl,trivial⟩)
theorem Hf :jP Ph ext 42 jM:=gX rfl rfl rfl rfl (by decide) (by decide) Jf (fun _=>rfl)
theorem GZ :jO Ph ext 40 jM:=jh rfl rfl IZ
theorem Gf :jN Ph ext 44 jM:=gU rfl rfl H6
theorem KE :jC Ph ext 93 xx:=cj (ss:=ta) rfl (bd ⟨rfl,rfl,rfl,rfl,trivial⟩)
theorem Kr :j4 Ph ext 92 xx:=cB (ss:=ta) rfl (bd ⟨rfl,rfl,rfl,rfl,trivial⟩)
theorem JL :jB Ph ext 94 xx:=cf (ss:=ta) rfl (bd ⟨rfl,rfl,rfl,rfl,trivial⟩)
theorem Jd :jP Ph ext 74 j8:=gX rfl rfl rfl rfl (by decide) (by decide) KE (fun _=>rfl)
theorem IX :jO Ph ext 71 j8:=jh rfl rfl Kr
theorem H4 :jN Ph ext 77 j8:=gU rfl rfl JL
theorem Nj :jP Ph ext 75 pg:=He rfl rfl rfl (by decide)
theorem Na :jO Ph ext 72 pg:=BC rfl rfl
theorem Ml :jN Ph ext 78 pg:=Ge rfl rfl
theorem Hg :jC Ph ext 43 qy:=cj (ss:=nT) rfl (bd ⟨⟨Jd,rfl⟩,rfl,⟨Nj,rfl⟩,rfl,rfl,rfl,trivial⟩)
theorem G0 :j4 Ph ext 41 qy:=cB (ss:=nT) rfl (bd ⟨IX,rfl,Na,rfl,rfl,rfl,trivial⟩)
theorem Gg :jB Ph ext 45 qy:=cf (ss:=nT) rfl (bd ⟨H4,rfl,Ml,rfl,rfl,rfl,trivial⟩)
theorem No :jC Ph ext 12 DS:=cj (ss:=xO) rfl (bd ⟨rfl,rfl,rfl,rfl,⟨Hf,rfl⟩,⟨Hg,nofun⟩,trivial⟩)
theorem Nd :j4 Ph ext 10 DS:=cB (ss:=xO) rfl (bd ⟨rfl,rfl,rfl,rfl,GZ,G0,trivial⟩)
theorem Mq :jB Ph ext 14 DS:=cf (ss:=xO) rfl (bd ⟨rfl,rfl,rfl,rfl,Gf,Gg,trivial⟩)
theorem KG :jP Ph ext 53 kC:=gX rfl rfl rfl rfl (by decide) (by decide) Nk nofun
theorem Kt :jO Ph ext 52 kC:=jh rfl rfl Nb
theorem JM :jN Ph ext 55 kC:=gU rfl rfl Mm
theorem G9 :jC Ph ext 80 tv:=cj (ss:=sX) rfl (bd ⟨rfl,rfl,trivial⟩)
theorem F9 :jB Ph ext 82 tv:=cf (ss:=sX) rfl (bd ⟨rfl,rfl,trivial⟩)
theorem E3 :jP Ph ext 48 iF:=gX rfl rfl rfl rfl (by decide) (by decide) G9 (fun _=>rfl)
theorem EX :jO Ph ext 46 iF:=BC rfl rfl
theorem Ef :jN Ph ext 50 iF:=gU rfl rfl F9
theorem KN :jC Ph ext 81 xy:=cj (ss:=td) rfl (bd ⟨rfl,rfl,⟨Je,fun _=>rfl⟩,rfl,rfl,trivial⟩)
theorem KA :j4 Ph ext 79 xy:=cB (ss:=td) rfl (bd ⟨rfl,rfl,IY,rfl,rfl,trivial⟩)
theorem JR :jB Ph ext 83 xy:=cf (ss:=td) rfl (bd ⟨rfl,rfl,H5,rfl,rfl,trivial⟩)
theorem Ao :jP Ph ext 49 gJ:=gX rfl rfl rfl rfl (by decide) (by decide) KN (fun _=>rfl)
theorem Am :jO Ph ext 47 gJ:=jh rfl rfl KA
theorem zO :jN Ph ext 51 gJ:=gU rfl rfl JR
theorem vQ :jC Ph ext 22 rl:=cj (ss:=tb) rfl (bd ⟨rfl,⟨KG,rfl⟩,rfl,trivial⟩)
theorem vP :j4 Ph ext 20 rl:=cB (ss:=tb) rfl (bd ⟨rfl,Kt,rfl,trivial⟩)
theorem uQ :jB Ph ext 24 rl:=cf (ss:=tb) rfl (bd ⟨rfl,JM,rfl,trivial⟩)
theorem Ji :jC Ph ext 17 sR:=cj (ss:=qg) rfl (bd ⟨⟨vQ,nofun⟩,⟨E3,rfl⟩,⟨Ao,rfl⟩,trivial⟩)
theorem I2 :j4 Ph ext 15 sR:=cB (ss:=qg) rfl (bd ⟨vP,EX,Am,trivial⟩)
theorem Ib :jB Ph ext 19 sR:=cf (ss:=qg) rfl (bd ⟨uQ,Ef,zO,trivial⟩)
theorem Jj :jP Ph ext 60 jy:=gX rfl rfl rfl rfl (by decide) (by decide) vQ nofun
theorem I3 :jO Ph ext 57 jy:=jh rfl rfl vP
theorem Ic :jN Ph ext 63 jy:=gU rfl rfl uQ
theorem DZ :jP Ph ext 255 ji:=He rfl rfl rfl (by decide)
theorem DI :jO Ph ext 251 ji:=BC rfl rfl
theorem B4 :jN Ph ext 259 ji:=Ge rfl rfl
theorem E7 :jC Ph ext 281 ph:=cj (ss:=mr) rfl (bd ⟨rfl,rfl,rfl,⟨DZ,rfl⟩,rfl,trivial⟩)
theorem E2 :j4 Ph ext 280 ph:=cB (ss:=mr) rfl (bd ⟨rfl,rfl,rfl,DI,rfl,trivial⟩)
theorem Ej :jB Ph ext 282 ph:=cf (ss:=mr) rfl (bd ⟨rfl,rfl,rfl,B4,rfl,trivial⟩)
theorem Jb :jC Ph ext 278 sN:=cj (ss:=qc) rfl (bd ⟨rfl,rfl,⟨E7,nofun⟩,trivial⟩)
theorem IV :j4 Ph ext 277 sN:=cB (ss:=qc) rfl (bd ⟨rfl,rfl,E2,trivial⟩)
theorem H0 :jB Ph ext 279 sN:=cf (ss:=qc) rfl (bd ⟨rfl,rfl,Ej,trivial⟩)
theorem Hb :jP Ph ext 273 jL:=gX rfl rfl rfl rfl (by decide) (by decide) Jb nofun
theorem GW :jO Ph ext 271 jL:=jh rfl rfl IV
theorem Gb :jN Ph ext 275 jL:=gU rfl rfl H0
theorem KC :jC Ph ext 265 xv:=cj (ss:=sY) rfl (bd ⟨rfl,⟨Hb,rfl⟩,trivial⟩)
theorem Kp :j4 Ph ext 262 xv:=cB (ss:=sY) rfl (bd ⟨rfl,GW,trivial⟩)
theorem JJ :jB Ph ext 268 xv:=cf (ss:=sY) rfl (bd ⟨rfl,Gb,trivial⟩)
theorem Ja :jP Ph ext 253 j6:=gX rfl rfl rfl rfl (by decide) (by decide) KC nofun
theorem IU :jO Ph ext 249 j6:=jh rfl rfl Kp
theorem HZ :jN Ph ext 257 j6:=gU rfl rfl JJ
theorem E6 :jC Ph ext 274 pf:=cj (ss:=mq) rfl (bd ⟨rfl,rfl,trivial⟩)
theorem E0 :j4 Ph ext 272 pf:=cB (ss:=mq) rfl (bd ⟨rfl,rfl,trivial⟩)
theorem Ei :jB Ph ext 276 pf:=cf (ss:=mq) rfl (bd ⟨rfl,rfl,trivial⟩)
theorem D0 :jP Ph ext 266 fy:=gX rfl rfl rfl rfl (by decide) (by decide) E6 (fun _=>rfl)
theorem DK :jO Ph ext 263 fy:=jh rfl rfl E0
theorem B5 :jN Ph ext 269 fy:=gU rfl rfl Ei
theorem xC :jC Ph ext 231 jx:=cj (ss:=hC) rfl (bd ⟨rfl,rfl,rfl,rfl,trivial⟩)
theorem xu :j4 Ph ext 227 jx:=cB (ss:=hC) rfl (bd ⟨rfl,rfl,rfl,rfl,trivial⟩)
theorem vX :jB Ph ext 235 jx:=cf (ss:=hC) rfl (bd ⟨rfl,rfl,rfl,rfl,trivial⟩)
theorem E4 :jC Ph ext 232 pd:=cj (ss:=mn) rfl (bd ⟨⟨Ja,rfl⟩,trivial⟩)
theorem EY :j4 Ph ext 228 pd:=cB (ss:=mn) rfl (bd ⟨IU,trivial⟩)
theorem Eg :jB Ph ext 236 pd:=cf (ss:=mn) rfl (bd ⟨HZ,trivial⟩)
theorem E5 :jC Ph ext 254 pe:=cj (ss:=mo) rfl (bd ⟨rfl,rfl,⟨Jj,rfl⟩,⟨D0,rfl⟩,trivial⟩)
theorem EZ :j4 Ph ext 250 pe:=cB (ss:=mo) rfl (bd ⟨rfl,rfl,I3,DK,trivial⟩)
theorem Eh :jB Ph ext 258 pe:=cf (ss:=mo) rfl (bd ⟨rfl,rfl,Ic,B5,trivial⟩)
theorem Ni :jC Ph ext 233 DP:=cj (ss:=xL) rfl (bd ⟨⟨E5,nofun⟩,⟨DZ,rfl⟩,rfl,trivial⟩)
theorem M9 :j4 Ph ext 229 DP:=cB (ss:=xL) rfl (bd ⟨EZ,DI,rfl,trivial⟩)
theorem Mi :jB Ph ext 237 DP:=cf (ss:=xL) rfl (bd ⟨Eh,B4,rfl,trivial⟩)
theorem Jg :jC Ph ext 267 sP:=cj (ss:=qe) rfl (bd ⟨rfl,rfl,⟨Ao,rfl⟩,trivial⟩)
theorem I0 :j4 Ph ext 264 sP:=cB (ss:=qe) rfl (bd ⟨rfl,rfl,Am,trivial⟩)
theorem H9 :jB Ph ext 270 sP:=cf (ss:=qe) rfl (bd ⟨rfl,rfl,zO,trivial⟩)
theorem Nq :jC Ph ext 256 DU:=cj (ss:=xQ) rfl (bd ⟨⟨Jg,nofun⟩,rfl,rfl,trivial⟩)
theorem Ng :j4 Ph ext 252 DU:=cB (ss:=xQ) rfl (bd ⟨I0,rfl,rfl,trivial⟩)
theorem Ms :jB Ph ext 260 DU:=cf (ss:=xQ) rfl (bd ⟨H9,rfl,rfl,trivial⟩)
theorem Hh :jC Ph ext 234 qz:=cj (ss:=nU) rfl (bd ⟨⟨vQ,nofun⟩,rfl,⟨Nq,nofun⟩,trivial⟩)
theorem G1 :j4 Ph ext 230 qz:=cB (ss:=nU) rfl (bd ⟨vP,rfl,Ng,trivial⟩)
theorem Gh :jB Ph ext 238 qz:=cf (ss:=nU) rfl (bd ⟨uQ,rfl,Ms,trivial⟩)
theorem I9 :jC Ph ext 201 sM:=cj (ss:=qb) rfl (bd ⟨rfl,rfl,⟨xC,fun _=>rfl⟩,⟨E4,nofun⟩,⟨Ni,nofun⟩,⟨Hh,nofun⟩,rfl,rfl,trivial⟩)
theorem IT :j4 Ph ext 198 sM:=cB (ss:=qb) rfl (bd ⟨rfl,rfl,xu,EY,M9,G1,rfl,rfl,trivial⟩)
theorem HY :jB Ph ext 205 sM:=cf (ss:=qb) rfl (bd ⟨rfl,rfl,vX,Eg,Mi,Gh,rfl,rfl,trivial⟩)
theorem Ha :jP Ph ext 167 fk:=gX rfl rfl rfl rfl (by decide) (by decide) I9 nofun
theorem GU :jO Ph ext 163 fk:=jh rfl rfl IT
theorem Ga :jN Ph ext 171 fk:=gU rfl rfl HY
theorem KK :jP Ph ext 134 jj:=gX rfl rfl rfl rfl (by decide) (by decide) No nofun
theorem Kw :jO Ph ext 128 jj:=jh rfl rfl Nd
theorem JP :jN Ph ext 140 jj:=gU rfl rfl Mq
theorem Nl :jC Ph ext 202 DR:=cj (ss:=xN) rfl (bd ⟨rfl,rfl,rfl,rfl,trivial⟩)
theorem Nc :j4 Ph ext 199 DR:=cB (ss:=xN) rfl (bd ⟨rfl,rfl,rfl,rfl,trivial⟩)
theorem Mn :jB Ph ext 206 DR:=cf (ss:=xN) rfl (bd ⟨rfl,rfl,rfl,rfl,trivial⟩)
theorem KH :jP Ph ext 168 iG:=gX rfl rfl rfl rfl (by decide) (by decide) Nl (fun _=>rfl)
theorem Ku :jO Ph ext 164 iG:=jh rfl rfl Nc
theorem JN :jN Ph ext 172 iG:=gU rfl rfl Mn
theorem Nm :jC Ph ext 203 G7:=cj (ss:=F6) rfl (bd ⟨rfl,rfl,rfl,trivial⟩)
theorem Mo :jB Ph ext 207 G7:=cf (ss:=F6) rfl (bd ⟨rfl,rfl,rfl,trivial⟩)
theorem KJ :jP Ph ext 169 iH:=gX rfl rfl rfl rfl (by decide) (by decide) Nm (fun _=>rfl)
theorem Kv :jO Ph ext 165 iH:=BC rfl rfl
theorem JO :jN Ph ext 173 iH:=gU rfl rfl Mo
theorem Hk :jP Ph ext 204 eW:=He rfl rfl rfl (by decide)
theorem G6 :jO Ph ext 200 eW:=fun _ h _ a b=>G5 (aL h).1 (RI h) a b
theorem vY :jN Ph ext 208 eW:=Ge rfl rfl
theorem Np :jC Ph ext 170 DT:=cj (ss:=xP) rfl (bd ⟨rfl,rfl,⟨Hk,rfl⟩,rfl,trivial⟩)
theorem Nf :j4 Ph ext 166 DT:=cB (ss:=xP) rfl (bd ⟨rfl,rfl,G6,rfl,trivial⟩)
theorem Mr :jB Ph ext 174 DT:=cf (ss:=xP) rfl (bd ⟨rfl,rfl,vY,rfl,trivial⟩)
theorem KL :jP Ph ext 137 jk:=gX rfl rfl rfl rfl (by decide) (by decide) Np nofun
theorem Kx :jO Ph ext 131 jk:=jh rfl rfl Nf
theorem JQ :jN Ph ext 143 jk:=gU rfl rfl Mr
theorem Hi :jP Ph ext 138 fI:=gX rfl rfl rfl rfl (by decide) (by decide) Ji nofun
theorem G3 :jO Ph ext 132 fI:=jh rfl rfl I2
theorem Gj :jN Ph ext 144 fI:=gU rfl rfl Ib
theorem Hj :jC Ph ext 133 gC:=cj (ss:=nV) rfl (bd ⟨⟨Ha,rfl⟩,trivial⟩)
theorem G4 :j4 Ph ext 127 gC:=cB (ss:=nV) rfl (bd ⟨GU,trivial⟩)
theorem Gk :jB Ph ext 139 gC:=cf (ss:=nV) rfl (bd ⟨Ga,trivial⟩)
theorem D1 :jC Ph ext 135 eZ:=cj (ss:=k6) rfl (bd ⟨⟨KH,rfl⟩,trivial⟩)
theorem DN :j4 Ph ext 129 eZ:=cB (ss:=k6) rfl (bd ⟨Ku,trivial⟩)
theorem B6 :jB Ph ext 141 eZ:=cf (ss:=k6) rfl (bd ⟨JN,trivial⟩)
theorem Hc :jC Ph ext 136 gB:=cj (ss:=nS) rfl (bd ⟨⟨KJ,rfl⟩,trivial⟩)
theorem GX :j4 Ph ext 130 gB:=cB (ss:=nS) rfl (bd ⟨Kv,trivial⟩)
theorem Gd :jB Ph ext 142 gB:=cf (ss:=nS) rfl (bd ⟨JO,trivial⟩)
theorem KM :jC Ph ext 106 eE:=cj (ss:=tc) rfl (bd ⟨rfl,rfl,rfl,⟨Hj,nofun⟩,⟨KK,rfl⟩,rfl,⟨D1,nofun⟩,⟨Hc,nofun⟩,⟨KL,rfl⟩,⟨Hi,rfl⟩,trivial⟩)
theorem Kz :j4 Ph ext 104 eE:=cB (ss:=tc) rfl (bd ⟨rfl,rfl,rfl,G4,Kw,rfl,DN,GX,Kx,G3,trivial⟩)
theorem B7 :jB Ph ext 108 eE:=cf (ss:=tc) rfl (bd ⟨rfl,rfl,rfl,Gk,JP,rfl,B6,Gd,JQ,Gj,trivial⟩)
theorem aI :Ap Ph ext ak 432:=Qq rfl
theorem A6 :n6 Ph ext ak 448 iF:=eO aI rfl rfl ⟨rfl,⟨rfl,trivial⟩⟩
theorem xb :n6 Ph ext ak 474 ji:=eO aI rfl rfl ⟨rfl,trivial⟩
theorem Dg :n6 Ph ext ak 485 jL:=eO aI rfl rfl ⟨rfl,⟨rfl,⟨rfl,⟨rfl,⟨rfl,⟨rfl,xb,⟨rfl,trivial⟩⟩⟩⟩⟩⟩⟩
theorem ER :n6 Ph ext ak 471 j6:=eO aI rfl rfl ⟨rfl,⟨rfl,Dg,trivial⟩⟩
theorem ES :n6 Ph ext ak 475 j7:=eO aI rfl rfl ⟨rfl,⟨rfl,trivial⟩⟩
theorem qX :n6 Ph ext ak 447 kC:=eO aI rfl rfl ⟨rfl,⟨rfl,⟨rfl,⟨rfl,ES,trivial⟩⟩⟩⟩
theorem EU :n6 Ph ext ak 472 jy:=eO aI rfl rfl ⟨rfl,⟨rfl,qX,⟨rfl,trivial⟩⟩⟩
theorem ze :n6 Ph ext ak 473 fy:=eO aI rfl rfl ⟨rfl,⟨rfl,trivial⟩⟩
theorem ue :n6 Ph ext ak 449 gJ:=eO aI rfl rfl ⟨rfl,⟨rfl,⟨rfl,⟨rfl,⟨rfl,⟨rfl,⟨rfl,trivial⟩⟩⟩⟩⟩⟩⟩
theorem sy :n6 Ph ext ak 441 fk:=eO aI rfl rfl ⟨rfl,⟨rfl,⟨rfl,⟨rfl,⟨rfl,⟨rfl,⟨rfl,ER,⟨rfl,⟨rfl,⟨rfl,EU,⟨rfl,ze,⟨rfl,xb,⟨rfl,⟨rfl,⟨rfl,qX,⟨rfl,⟨rfl,⟨rfl,⟨rfl,⟨rfl,ue,⟨rfl,⟨rfl,⟨rfl,⟨rfl,trivial⟩⟩⟩⟩⟩⟩⟩⟩⟩⟩⟩⟩⟩⟩⟩⟩⟩⟩⟩⟩⟩⟩⟩⟩
theorem GH :n6 Ph ext ak 446 iH:=eO aI rfl rfl ⟨rfl,⟨rfl,⟨rfl,trivial⟩⟩⟩
theorem sA :LM Ph ext ak 429 gB:=xc (ss:=[.l iH 446]) rfl rfl ⟨GH,trivial⟩
theorem ET :n6 Ph ext ak 443 j8:=eO aI rfl rfl ⟨rfl,⟨rfl,⟨rfl,⟨rfl,trivial⟩⟩⟩⟩
theorem Is :n6 Ph ext ak 444 pg:=eO aI rfl rfl ⟨rfl,trivial⟩
theorem Dh :n6 Ph ext ak 442 jM:=eO aI rfl rfl ⟨rfl,⟨rfl,trivial⟩⟩
theorem GG :n6 Ph ext ak 445 iG:=eO aI rfl rfl ⟨rfl,⟨rfl,⟨rfl,⟨rfl,trivial⟩⟩⟩⟩
theorem qq :LM Ph ext ak 428 eZ:=xc (ss:=[.l iG 445]) rfl rfl ⟨GG,trivial⟩
theorem xd :n6 Ph ext ak 427 jj:=eO aI rfl rfl ⟨rfl,⟨rfl,⟨rfl,⟨rfl,⟨rfl,Dh,⟨rfl,ET,⟨rfl,⟨rfl,Is,⟨rfl,⟨rfl,⟨rfl,trivial⟩⟩⟩⟩⟩⟩⟩⟩⟩⟩⟩
theorem oY :n6 Ph ext ak 431 fI:=eO aI rfl rfl ⟨rfl,⟨rfl,qX,⟨rfl,⟨rfl,A6,⟨rfl,ue,trivial⟩⟩⟩⟩⟩
theorem sC :n6 Ph ext ak 421 eW:=eO aI rfl rfl ⟨rfl,trivial⟩
theorem qY :n6 Ph ext ak 430 jk:=eO aI rfl rfl ⟨rfl,⟨rfl,⟨rfl,sC,⟨rfl,trivial⟩⟩⟩⟩
theorem sB :LM Ph ext ak 426 gC:=xc (ss:=[.l fk 441]) rfl rfl ⟨sy,trivial⟩
theorem GI :LM Ph ext ak 420 eE:=xc (ss:=[.k [.int .i64, .bool, .int .i64], .s gC 426, .l jj 427, .k [.int .i64], .s eZ 428, .s gB 429, .l jk 430, .l fI 431]) rfl rfl ⟨rfl,⟨sB,⟨xd,⟨rfl,⟨qq,⟨sA,⟨qY,⟨oY,trivial⟩⟩⟩⟩⟩⟩⟩⟩
theorem A1 :gi Ph ext ak 469 iF:=eN aI rfl ⟨rfl,⟨rfl,trivial⟩⟩
theorem wH :gi Ph ext ak 483 ji:=eN aI rfl ⟨rfl,trivial⟩
theorem CV :gi Ph ext ak 494 jL:=eN aI rfl ⟨rfl,⟨rfl,⟨rfl,⟨rfl,⟨rfl,⟨rfl,wH,⟨rfl,trivial⟩⟩⟩⟩⟩⟩⟩
theorem EM :gi Ph ext ak 480 j6:=eN aI rfl ⟨rfl,⟨rfl,CV,trivial⟩⟩
theorem EN :gi Ph ext ak 484 j7:=eN aI rfl ⟨rfl,⟨rfl,trivial⟩⟩
theorem qR :gi Ph ext ak 468 kC:=eN aI rfl ⟨rfl,⟨rfl,⟨rfl,⟨rfl,EN,trivial⟩⟩⟩⟩
theorem EP :gi Ph ext ak 481 jy:=eN aI rfl ⟨rfl,⟨rfl,qR,⟨rfl,trivial⟩⟩⟩
theorem yO :gi Ph ext ak 482 fy:=eN aI rfl ⟨rfl,⟨rfl,trivial⟩⟩
theorem t9 :gi Ph ext ak 470 gJ:=eN aI rfl ⟨rfl,⟨rfl,⟨rfl,⟨rfl,⟨rfl,⟨rfl,⟨rfl,trivial⟩⟩⟩⟩⟩⟩⟩
theorem CU :gi Ph ext ak 462 fk:=eN aI rfl ⟨rfl,⟨rfl,⟨rfl,⟨rfl,⟨rfl,⟨rfl,⟨rfl,EM,⟨rfl,⟨rfl,⟨rfl,EP,⟨rfl,yO,⟨rfl,wH,⟨rfl,⟨rfl,⟨rfl,qR,⟨rfl,⟨rfl,⟨rfl,⟨rfl,⟨rfl,t9,⟨rfl,⟨rfl,⟨rfl,⟨rfl,trivial⟩⟩⟩⟩⟩⟩⟩⟩⟩⟩⟩⟩⟩⟩⟩⟩⟩⟩⟩⟩⟩⟩⟩⟩
theorem Gz :gi Ph ext ak 467 iH:=eN aI rfl ⟨rfl,⟨rfl,⟨rfl,trivial⟩⟩⟩
theorem CW :LK Ph ext ak 438 gB:=wJ (ss:=[.l iH 467]) rfl ⟨Gz,trivial⟩
theorem EO :gi Ph ext ak 464 j8:=eN aI rfl ⟨rfl,⟨rfl,⟨rfl,⟨rfl,trivial⟩⟩⟩⟩
theorem Ij :gi Ph ext ak 465 pg:=eN aI rfl ⟨rfl,trivial⟩
theorem CX :gi Ph ext ak 463 jM:=eN aI rfl ⟨rfl,⟨rfl,trivial⟩⟩
theorem Gy :gi Ph ext ak 466 iG:=eN aI rfl ⟨rfl,⟨rfl,⟨rfl,⟨rfl,trivial⟩⟩⟩⟩
theorem yP :LK Ph ext ak 437 eZ:=wJ (ss:=[.l iG 466]) rfl ⟨Gy,trivial⟩
theorem GA :gi Ph ext ak 436 jj:=eN aI rfl ⟨rfl,⟨rfl,⟨rfl,⟨rfl,⟨rfl,CX,⟨rfl,EO,⟨rfl,⟨rfl,Ij,⟨rfl,⟨rfl,⟨rfl,trivial⟩⟩⟩⟩⟩⟩⟩⟩⟩⟩⟩
theorem CY :gi Ph ext ak 440 fI:=eN aI rfl ⟨rfl,⟨rfl,qR,⟨rfl,⟨rfl,A1,⟨rfl,t9,trivial⟩⟩⟩⟩⟩
theorem si :gi Ph ext ak 422 eW:=eN aI rfl ⟨rfl,trivial⟩
theorem GB :gi Ph ext ak 439 jk:=eN aI rfl ⟨rfl,⟨rfl,⟨rfl,si,⟨rfl,trivial⟩⟩⟩⟩
theorem CZ :LK Ph ext ak 435 gC:=wJ (ss:=[.l fk 462]) rfl ⟨CU,trivial⟩
theorem GC :LK Ph ext ak 425 eE:=wJ (ss:=[.k [.int .i64, .bool, .int .i64], .s gC 435, .l jj 436, .k [.int .i64], .s eZ 437, .s gB 438, .l jk 439, .l fI 440]) rfl ⟨rfl,⟨CZ,⟨GA,⟨rfl,⟨yP,⟨CW,⟨GB,⟨CY,trivial⟩⟩⟩⟩⟩⟩⟩⟩
end
end Gi
