/- Of this proof. -/
import Derived.Test.YtgmnakghjemjlabGreatGke
import Derived.Test.YtgmnakghjemjlabGreatGxt
set_option linter.unusedSimpArgs false
set_option linter.unusedVariables false
namespace Gi
open Go Go.RowKit
set_option maxHeartbeats 8000000
set_option maxRecDepth 4000
attribute [local simp] bw rW bg bY dS fY dR fX f7 f6 um uB uo uC uq uD ur uE ut uF uu uG uw uH uy uI uz uJ V.cells plain bo gr isInt isStr isBool bin cT jF cU jG fZ un asList L.view ap V.view viewL aU ar cX bZ bP comp aK bu dz cr bD bB bC bx bc bU aO bH aS aX bJ bV bI bG bK V.flat L.flat dJ dk bt putAt thaw thawL thawT V.ow f5 dW dX cV f4 cW dV freezeVs freezeLs freezeL V.mut L.mut aJ cG iK aN be aG dv bM bi bS L.ren aV dL ce dO bQ bF wp_seq wp_block bA ed cY ca cZ wp_skip wp_exit wp_ret cK cI cS cL df dg de cq aW L.notArr aR aP aQ dZ bp storeD a9 fT br cE bh nK L.mov L.closed V.closed PV.bare PV.flat
theorem OV {call:Nat→List V→Option V}{Q:Ex→St→Prop}{ks:List Fr}(hc:k9 call)(hQ:Cl Q){c:ACode}{t:List V}{h:List AObj}{α:Type}(m:List Mk)(U:α→List (Nat×V))(H:α→List AObj)(next:α→Option α)(μ:α→Nat)(I:α→Prop)(a0:α)(i0:I a0)(hz:(c.zOk&&kz ks)=true)(kn:Kn ⟨fC (da m t) (U a0),H a0⟩ ⟨t,h⟩)
 (st:∀a b,I a→next a=some b→μ b<μ a∧I b∧wp call (fun e τ=>e= .normal∧Kn ⟨fC (da m t) (U b),H b⟩ τ) [] (aj call av c ⟨fC (da m t) (U a),H a⟩))
 (en:∀a,I a→next a=none→wp call Q (.sq mb::ks) (aj call av c ⟨fC (da m t) (U a),H a⟩)):wp call Q ks (aj call av (.loop c) ⟨t,h⟩):=by
 have key:∀n a,μ a≤n→I a→wp call Q ks (aj call av (.loop c) ⟨fC (da m t) (U a),H a⟩):=by
  intro n
  induction n with
  |zero=>
   intro a hn ia
   cases q:next a with
   |none=>exact qp (en a ia q)
   |some b=>have:=(st a b ia q).1;omega
  |succ n ih=>
   intro a hn ia
   cases q:next a with
   |none=>exact qp (en a ia q)
   |some b=>
    obtain⟨h1,h2,h3⟩:=st a b ia q
    exact zd hc hQ hz h3 (ih b (by omega) h2)
 have hz':kz (.sq (.loop c)::ks)=true:=by simpa only[kz,ACode.zOk]using hz
 exact Ho hc hQ ⟨fC (da m t) (U a0),H a0⟩ hz' kn (key _ a0 (Nat.le_refl _) i0)
theorem Hm {n:Nat}(h:n<256):IntKind.u8.wrap (n:Int)=(n:Int)∧(UInt8.ofNat n).toNat=n:=by
 refine⟨?_,by simp;omega⟩
 simp[IntKind.wrap,IntKind.signed,IntKind.bits]
 omega
theorem P1 {n:Nat}(h:n<4611686018427387904):IntKind.i64.wrap ((BitVec.ofInt IntKind.i64.bits (n:Int)&&&BitVec.ofInt IntKind.i64.bits 127).toNat:Int)=((n%128:Nat):Int):=by
 have e1:(BitVec.ofInt IntKind.i64.bits (n:Int)).toNat=n:=by
  show(BitVec.ofInt 64 (n:Int)).toNat=n
  simp[BitVec.toNat_ofInt];omega
 have e2:(BitVec.ofInt IntKind.i64.bits 127).toNat=127:=by decide
 rw[BitVec.toNat_and,e1,e2,show(127:Nat)=2^7-1 from rfl,Nat.and_two_pow_sub_one_eq_mod]
 rw[IntKind.wrap_i64];omega
theorem Q3 {n:Nat}(h:n<128):IntKind.i64.wrap ((BitVec.ofInt IntKind.i64.bits (n:Int)|||BitVec.ofInt IntKind.i64.bits 128).toNat:Int)=((n+128:Nat):Int):=by
 have e1:(BitVec.ofInt IntKind.i64.bits (n:Int)).toNat=n:=by
  show(BitVec.ofInt 64 (n:Int)).toNat=n
  simp[BitVec.toNat_ofInt];omega
 have e2:(BitVec.ofInt IntKind.i64.bits 128).toNat=128:=by decide
 have e3:=Nat.two_pow_add_eq_or_of_lt (i:=7) (b:=n) (by omega) 1
 rw[BitVec.toNat_or,e1,e2,Nat.or_comm,show(128:Nat)=2^7*1 from rfl,←e3]
 rw[IntKind.wrap_i64];omega
theorem jK (s:List UInt8)(x:UInt8):am (s++[x])=am s++[[.int .u8 x.toNat]]:=by simp[am]
def zD (a:Nat×Nat×List UInt8):Option (Nat×Nat×List UInt8):=if a.2.1<128 then none else match a.1 with
 |0=>none
 |f+1=>some (f,a.2.1/128,a.2.2++[UInt8.ofNat (a.2.1%128+128)])
def Q8 (b T:List UInt8)(a:Nat×Nat×List UInt8):Prop:=a.2.1<128^(a.1+1)∧a.2.2++Nr (a.1+1) a.2.1=T∧a.2.2.length+a.1≤b.length+5∧a.2.1≤1000000000000
theorem Jn {b T:List UInt8}{f m:Nat}{o:List UInt8}{a':Nat×Nat×List UInt8}(ia:Q8 b T (f,m,o))(h:zD (f,m,o)=some a'):128≤m∧Q8 b T a'∧(a':Nat×Nat×List UInt8)=(f-1,m/128,o++[UInt8.ofNat (m%128+128)]):=by
 obtain⟨h1,h2,h3,h4⟩:=ia
 unfold zD at h
 simp only at h h1 h2 h3 h4
 split at h
 ·cases h
 ·rename_i hm
  cases f with
  |zero=>cases h
  |succ f=>
   cases h
   refine⟨by omega,⟨?_,?_,by simp;omega,by simp only;omega⟩,rfl⟩
   ·show m/128<128^(f+1)
    rw[Nat.div_lt_iff_lt_mul (by decide),←Nat.pow_succ];exact h1
   ·rw[←h2]
    show(o++[UInt8.ofNat (m%128+128)])++Nr (f+1) (m/128)=o++Nr (f+1+1) m
    rw[show Nr (f+1+1) m=UInt8.ofNat (m%128+128)::Nr (f+1) (m/128) by rw[Nr,if_neg hm]]
    simp
theorem LF {b T:List UInt8}{f m:Nat}{o:List UInt8}(ia:Q8 b T (f,m,o))(h:zD (f,m,o)=none):m<128∧o++[UInt8.ofNat m]=T:=by
 obtain⟨h1,h2,_⟩:=ia
 unfold zD at h
 simp only at h h1 h2
 split at h
 ·rename_i hm
  exact⟨hm,by rw[←h2,Nr,if_pos hm]⟩
 ·rename_i hm
  cases f with
  |zero=>simp at h1;omega
  |succ f=>cases h
theorem iW {b:List UInt8}(hb:b.length≤1048000){n:Nat}(hn:n≤1000000000000):ag Ph aE 247 [bm (am b),aa .i64 (n:Int)]=some (.one (.own 1 (am (b++qF n)))):=by
 have e1:rg (n:Int) 0 1000000000000=true:=Dr.2 ⟨by omega,by omega⟩
 have e2:=aZ (n:Int) 0 1000000000000
 rw[e1]at e2
 have e3:=lS (R:=am b) ⟨oR b,iP b,by rw[bv];omega⟩
 refine ae (fn:=jo) rfl ?_
 simp(maxSteps:=9999999) [jo,e2,e3]
 refine OV aT Cl.fin [.f,.t,.f,.f,.f,.t,.f,.f,.f,.f,.f,.f,.f,.f,.f,.f,.f,.f,.f,.f,.f,.f,.f,.f,.f,.f,.f,.f] (fun a=>[(1,aa .i64 (a.2.1:Nat)),(5, .one (.arr 0))]) (fun a=>[.arr 1 (am a.2.2)]) zD (fun a=>a.2.1) (Q8 b (b++qF n)) (5,n,b) ⟨by show n<128^6;omega,rfl,by simp,hn⟩ rfl (by simp) (fun a a' ia ha=> ?_) (fun a ia ha=> ?_)
 ·obtain⟨f,m,o⟩:=a
  obtain⟨hm,hi,rfl⟩:=Jn ia ha
  obtain⟨_,_,hl,hmx⟩:=ia
  simp only at hl hmx
  have hlt:dA (m:Int) 128=false:=ud (by omega)
  have hlt2:dA 127 (m:Int)=true:=lY (by omega)
  have q:=Hm (n:=m%128+128) (by omega)
  have m1:o.length≤140737488355327∧o.length≤9223372036854775806:=by omega
  have m2:=eF (m:=o.length+1) (z:=1) (by omega) (by omega)
  have r1:(m:Int).tmod 128=(m:Int)%128:=Int.tmod_eq_emod_of_nonneg (by omega)
  have r2:(m:Int).tdiv 128=(m:Int)/128:=Int.tdiv_eq_ediv_of_nonneg (by omega)
  have r3:IntKind.i64.wrap ((m:Int)%128+128)=(m:Int)%128+128:=by rw[IntKind.wrap_i64];omega
  have r4:IntKind.i64.wrap ((m:Int)/128)=(m:Int)/128:=by rw[IntKind.wrap_i64];omega
  have r5:IntKind.u8.wrap ((m:Int)%128+128)=(m:Int)%128+128:=by have:=q.1;simpa using this
  have r6:((m:Int)%128+128)%256=(m:Int)%128+128:=by omega
  refine⟨by show m/128<m;omega,hi,?_⟩
  simp(maxSteps:=9999999) [fU,hlt,hlt2,r1,r2,r3,r4,r5,m1,m2,jK,bv,-cG]
  exact Kn.of [2] (by decide) (by simp[jK,r5,r6]) (by simp[r4])
 ·obtain⟨f,m,o⟩:=a
  obtain⟨hm,hi⟩:=LF ia ha
  obtain⟨_,_,hl,hmx⟩:=ia
  simp only at hl hmx
  have hlt:dA (m:Int) 128=true:=lY (by omega)
  have hlt2:dA 127 (m:Int)=false:=ud (by omega)
  have q:=Hm (n:=m) (by omega)
  have m1:o.length≤140737488355327∧o.length≤9223372036854775806:=by omega
  have m2:=eF (m:=o.length+1) (z:=1) (by omega) (by omega)
  rw[←hi]
  simp(maxSteps:=9999999) [fU,hlt,hlt2,q,m1,m2,jK,bv]
theorem RH (m:Nat):lc .shr .i64 (m:Int) 7=some (aa .i64 ((m:Int)/128)):=by
 have e:(min (Int.toNat 7) IntKind.i64.bits)=7:=by decide
 simp only[lc]
 rw[if_neg (by omega)]
 simp only[e]
 rw[show((2:Int)^7)=128 by decide,Int.fdiv_eq_ediv_of_nonneg _ (by omega)]
theorem iY {b:List UInt8}(hb:b.length≤1048000){n:Nat}(hn:n≤1000000000000):ag Ph aE 244 [bm (am b),aa .i64 (n:Int)]=some (.one (.own 1 (am (b++qF n)))):=by
 have e1:rg (n:Int) 0 1000000000000=true:=Dr.2 ⟨by omega,by omega⟩
 have e2:=bq (n:Int) 0 1000000000000
 rw[e1]at e2
 have w1:=iP b
 have m0:b.length≤140737488355328∧b.length≤9223372036854775807:=by omega
 refine ae (fn:=js) rfl ?_
 simp(maxSteps:=9999999) [js,e2,w1,m0,bv]
 refine OV aT Cl.fin [.f,.t,.f,.f,.f,.t,.f,.f,.f,.f,.f,.f,.f,.f,.f,.f,.f,.f,.f,.f,.f,.f,.f,.f,.f,.f,.f,.f,.f] (fun a=>[(1,aa .i64 (a.2.1:Nat)),(5, .one (.arr 0))]) (fun a=>[.arr 1 (am a.2.2)]) zD (fun a=>a.2.1) (Q8 b (b++qF n)) (5,n,b) ⟨by show n<128^6;omega,rfl,by simp,hn⟩ rfl (Kn.of [1] (by decide) (by simp) (by simp)) (fun a a' ia ha=> ?_) (fun a ia ha=> ?_)
 ·obtain⟨f,m,o⟩:=a
  obtain⟨hm,hi,rfl⟩:=Jn ia ha
  obtain⟨_,_,hl,hmx⟩:=ia
  simp only at hl hmx
  have hlt:dA (m:Int) 128=false:=ud (by omega)
  have hlt2:dA 127 (m:Int)=true:=lY (by omega)
  have q:=Hm (n:=m%128+128) (by omega)
  have m1:o.length≤140737488355327∧o.length≤9223372036854775806:=by omega
  have m2:=eF (m:=o.length+1) (z:=1) (by omega) (by omega)
  have r1:=P1 (n:=m) (by omega)
  have r2:=RH m
  have r3:=Q3 (n:=m%128) (by omega)
  have e:((m%128:Nat):Int)=(m:Int)%128:=by omega
  have e':((m%128+128:Nat):Int)=(m:Int)%128+128:=by omega
  rw[e]at r1 r3
  rw[e']at r3
  have r4:IntKind.i64.wrap ((m:Int)/128)=(m:Int)/128:=by rw[IntKind.wrap_i64];omega
  have r5:IntKind.u8.wrap ((m:Int)%128+128)=(m:Int)%128+128:=by have:=q.1;simpa using this
  have r6:((m:Int)%128+128)%256=(m:Int)%128+128:=by omega
  refine⟨by show m/128<m;omega,hi,?_⟩
  simp(maxSteps:=9999999) [fV,hlt,hlt2, ↓r1,r2, ↓r3,r4,r5,m1,m2,jK,bv,-cG]
  exact Kn.of [2] (by decide) (by simp[jK,r5,r6]) (by simp[r4])
 ·obtain⟨f,m,o⟩:=a
  obtain⟨hm,hi⟩:=LF ia ha
  obtain⟨_,_,hl,hmx⟩:=ia
  simp only at hl hmx
  have hlt:dA (m:Int) 128=true:=lY (by omega)
  have hlt2:dA 127 (m:Int)=false:=ud (by omega)
  have q:=Hm (n:=m) (by omega)
  have m1:o.length≤140737488355327∧o.length≤9223372036854775806:=by omega
  have m2:=eF (m:=o.length+1) (z:=1) (by omega) (by omega)
  rw[←hi]
  simp(maxSteps:=9999999) [fV,hlt,hlt2,q,m1,m2,jK,bv]
theorem zX (s u:List UInt8):am (s++u)=am s++am u:=by simp[am]
theorem tD {b s:List UInt8}(hb:b.length≤1048000)(hs:s.length≤1048576):ag Ph aE 248 [bm (am b),bm (am s)]=some (.one (.own 1 (am (b++Hs s)))):=by
 have e1:=iW hb (n:=s.length) (by omega)
 have w1:=iP s
 have hl:=rn s.length
 have m1:b.length+(qF s.length).length+s.length≤140737488355328∧b.length+(qF s.length).length+s.length≤9223372036854775807:=by omega
 rw[show b++Hs s=(b++qF s.length)++s by simp[Hs]]
 have e:am ((b++qF s.length)++s)=am (b++qF s.length)++am s:=zX _ _
 rw[e]
 refine ae (fn:=kF) rfl ?_
 simp(maxSteps:=9999999) [kF,e1,w1,m1,bv]
theorem tP {b s:List UInt8}(hb:b.length≤1048000)(hs:s.length≤1048576):ag Ph aE 245 [bm (am b),bm (am s)]=some (.one (.own 1 (am (b++Hs s)))):=by
 have e1:=iY hb (n:=s.length) (by omega)
 have w1:=iP s
 have hl:=rn s.length
 have m1:b.length+(qF s.length).length+s.length≤140737488355328∧b.length+(qF s.length).length+s.length≤9223372036854775807:=by omega
 rw[show b++Hs s=(b++qF s.length)++s by simp[Hs]]
 have e:am ((b++qF s.length)++s)=am (b++qF s.length)++am s:=zX _ _
 rw[e]
 refine ae (fn:=kR) rfl ?_
 simp(maxSteps:=9999999) [kR,e1,w1,m1,bv]
def zN (r:XRecord):V:=cond (nH r.fs) (bm (am (rI r))) (.one (.own 1 []))
theorem Dv (r:XRecord):dJ (zN r)=bm (am (rI r)):=by
 unfold zN
 cases c:nH r.fs
 ·simp[rI,c,dJ,dk,am]
 ·rfl
theorem sj {r:XRecord}(h:r.Ok maxLen):ag Ph aE 226 [r.v]=some (zN r):=by
 have e1:=qi h
 unfold zN
 refine ae (fn:=gV) rfl ?_
 cases c1:nH r.fs<;>rw[c1]at e1
 ·simp(maxSteps:=9999999) [gV,e1]
 obtain⟨hf,ho⟩:=zj (r:=r) c1
 have e2:=iW (b:=[]) (by simp) (n:=r.fs.length) (by omega)
 rw[List.nil_append,show am []=[]from rfl]at e2
 simp(maxSteps:=9999999) [gV,e1,e2]
 refine aC aT Cl.fin [.f,.f,.f,.t,.f,.f,.f,.f,.f,.f,.f,.f,.f,.f,.f,.t,.t,.t,.f,.f,.f,.f,.f,.f,.f,.f,.f,.f,.f,.f,.f] (fun k=>[(3,bm (am (qF r.fs.length++iq (r.fs.take k)))),(17,aa .i64 k)]) r.fs.length (fun _=>false) rfl (by simp[iq]) (fun k hk _=> ?_) (fun _ _=> ?_)
 ·have hx:=XField.e.eq_1 r.fs[k]
  have hq:=ho _ (List.getElem_mem hk)
  have l1:=rn r.fs.length
  have l2:=te (r.fs.take k) (fun f hf=>ho f (List.mem_of_mem_take hf))
  have l3:(r.fs.take k).length≤6:=by rw[List.length_take];omega
  have l4:=rn r.fs[k].name.length
  have e3:=tD (b:=qF r.fs.length++iq (r.fs.take k)) (s:=r.fs[k].name) (by rw[List.length_append];omega) (by have:=hq.1;omega)
  have e4:=iW (b:=qF r.fs.length++iq (r.fs.take k)++Hs r.fs[k].name) (by simp only[List.length_append,Hs];have:=hq.1;omega) (n:=r.fs[k].n.toNat) (by have:=hq.2.2;omega)
  rw[show((r.fs[k].n.toNat:Nat):Int)=r.fs[k].n by have:=hq.2.1;omega]at e4
  have ht:iq (r.fs.take (k+1))=iq (r.fs.take k)++(Hs r.fs[k].name++qF r.fs[k].n.toNat):=by
   unfold iq;rw[List.take_succ_eq_append_getElem hk,List.flatMap_append];simp[Pc]
  have ha:qF r.fs.length++iq (r.fs.take (k+1))=qF r.fs.length++iq (r.fs.take k)++Hs r.fs[k].name++qF r.fs[k].n.toNat:=by rw[ht];simp
  rw[ha]
  generalize qF r.fs.length++iq (r.fs.take k)=W at e3 e4⊢
  generalize W++Hs r.fs[k].name=W2 at e3 e4⊢
  generalize W2++qF r.fs[k].n.toNat=W3 at e4⊢
  simp(maxSteps:=9999999) [gk,hk,hx,e3,e4,aF h.1 hk,aY hk]
 ·have he:rI r=qF r.fs.length++iq r.fs:=by simp[rI,c1]
  rw[he]
  simp(maxSteps:=9999999) [gk]
theorem sJ {r:XRecord}(h:r.Ok maxLen):ag Ph aE 222 [r.v]=some (zN r):=by
 have e1:=qv h
 unfold zN
 refine ae (fn:=gW) rfl ?_
 cases c1:nH r.fs<;>rw[c1]at e1
 ·simp(maxSteps:=9999999) [gW,e1]
 obtain⟨hf,ho⟩:=zj (r:=r) c1
 have e2:=iY (b:=[]) (by simp) (n:=r.fs.length) (by omega)
 rw[List.nil_append,show am []=[]from rfl]at e2
 simp(maxSteps:=9999999) [gW,e1,e2]
 refine aC aT Cl.fin [.f,.t,.f,.t,.t,.f,.f,.f,.f,.f,.f,.f,.f,.f,.f,.f,.f,.f,.f,.f,.f,.f,.f,.f,.f,.f,.f,.f,.f,.f,.f,.f,.f,.f,.f,.f,.f,.f] (fun k=>[(3,bm (am (qF r.fs.length++iq (r.fs.take k)))),(4,aa .i64 k)]) r.fs.length (fun _=>false) rfl (by simp[iq]) (fun k hk _=> ?_) (fun _ _=> ?_)
 ·have hx:=XField.e.eq_1 r.fs[k]
  have hq:=ho _ (List.getElem_mem hk)
  have l1:=rn r.fs.length
  have l2:=te (r.fs.take k) (fun f hf=>ho f (List.mem_of_mem_take hf))
  have l3:(r.fs.take k).length≤6:=by rw[List.length_take];omega
  have l4:=rn r.fs[k].name.length
  have e3:=tP (b:=qF r.fs.length++iq (r.fs.take k)) (s:=r.fs[k].name) (by rw[List.length_append];omega) (by have:=hq.1;omega)
  have e4:=iY (b:=qF r.fs.length++iq (r.fs.take k)++Hs r.fs[k].name) (by simp only[List.length_append,Hs];have:=hq.1;omega) (n:=r.fs[k].n.toNat) (by have:=hq.2.2;omega)
  rw[show((r.fs[k].n.toNat:Nat):Int)=r.fs[k].n by have:=hq.2.1;omega]at e4
  have ht:iq (r.fs.take (k+1))=iq (r.fs.take k)++(Hs r.fs[k].name++qF r.fs[k].n.toNat):=by
   unfold iq;rw[List.take_succ_eq_append_getElem hk,List.flatMap_append];simp[Pc]
  have ha:qF r.fs.length++iq (r.fs.take (k+1))=qF r.fs.length++iq (r.fs.take k)++Hs r.fs[k].name++qF r.fs[k].n.toNat:=by rw[ht];simp
  rw[ha]
  generalize qF r.fs.length++iq (r.fs.take k)=W at e3 e4⊢
  generalize W++Hs r.fs[k].name=W2 at e3 e4⊢
  generalize W2++qF r.fs[k].n.toNat=W3 at e4⊢
  simp(maxSteps:=9999999) [gn,hk,hx,e3,e4,aF h.1 hk,aY hk]
 ·have he:rI r=qF r.fs.length++iq r.fs:=by simp[rI,c1]
  rw[he]
  simp(maxSteps:=9999999) [gn]
theorem LJ {n:Int}(h1: -9223372036854775808≤n)(h2:n≤9223372036854775807):IntKind.i64.wrap n=n:=by rw[IntKind.wrap_i64];omega
theorem wrap_u8 (n:Int):IntKind.u8.wrap n=n%256:=by simp[IntKind.wrap,IntKind.signed,IntKind.bits]
theorem A9 {x:Nat}{b:Int}{k:Nat}(hk:k≤63)(h:b=(k:Int)):lc .shr .i64 (x:Int) b=some (aa .i64 ((x/2^k:Nat):Int)):=by
 subst h
 simp only[lc]
 rw[if_neg (by omega),show min (Int.toNat (k:Int)) IntKind.i64.bits=k by rw[Int.toNat_natCast];exact Nat.min_eq_left (Nat.le_succ_of_le hk)]
 rw[Int.fdiv_eq_ediv_of_nonneg _ (Int.le_of_lt (Int.pow_pos (by decide)))]
 norm_cast
theorem wP {k:XKey}(h:k.Ok maxLen):ag Ph aE 225 [k.v]=some (.one (.own 1 (am (lm k)))):=by
 have e1:=mW h
 refine ae (fn:=hI) rfl ?_
 cases c1:ql k<;>rw[c1]at e1
 ·rw[show lm k=[] by simp[lm,c1]]
  simp(maxSteps:=9999999) [hI,e1,show am []=[]from rfl]
 obtain⟨h1,h2,h3,h4,h5,h6⟩:=za c1
 have m1:1+k.text.length≤140737488355328∧1+k.text.length≤9223372036854775807∧7+k.text.length≤140737488355328∧7+k.text.length≤9223372036854775807∧k.text.length+7≤140737488355328∧k.text.length+7≤9223372036854775807:=by omega
 have hk:k.kind%256=k.kind:=by omega
 obtain⟨x,hx⟩:∃x:Nat,k.n+1000000000000=(x:Int):=⟨(k.n+1000000000000).toNat,by omega⟩
 have hw:IntKind.i64.wrap (k.n+1000000000000)=(x:Int):=by rw[hx,IntKind.wrap_i64];omega
 have s0:=A9 (x:=x) (b:=0) (k:=0) (by decide) rfl
 have s1:=A9 (x:=x) (b:=8) (k:=8) (by decide) rfl
 have s2:=A9 (x:=x) (b:=16) (k:=16) (by decide) rfl
 have s3:=A9 (x:=x) (b:=24) (k:=24) (by decide) rfl
 have s4:=A9 (x:=x) (b:=32) (k:=32) (by decide) rfl
 have s5:=A9 (x:=x) (b:=40) (k:=40) (by decide) rfl
 have lt:dA 5 0=false∧dA 4 0=false∧dA 3 0=false∧dA 2 0=false∧dA 1 0=false∧dA 0 0=false∧dA (-1) 0=true:=by decide
 have hkb:(UInt8.ofNat k.kind.toNat).toNat=k.kind.toNat:=by simp;omega
 have hkt:((k.kind.toNat:Nat):Int)=k.kind:=by omega
 have w1:=iP k.text
 by_cases hq:k.kind=2
 ·have he:am (lm k)=[.int .u8 k.kind]::am k.text:=by
   rw[show lm k=UInt8.ofNat k.kind.toNat::k.text by simp[lm,c1,hq]]
   simp only[am,List.map_cons,hkb,hkt]
  rw[he]
  have hb:(k.kind==2)=true:=by simp[hq]
  simp(maxSteps:=9999999) [hI,e1,hb,hk,wrap_u8,m1,w1,bv,xE,iv,lt]
 ·have he:am (lm k)=[.int .u8 k.kind]::([.int .u8 ((x/2^40:Nat)%256:Int)]::[.int .u8 ((x/2^32:Nat)%256:Int)]::[.int .u8 ((x/2^24:Nat)%256:Int)]::[.int .u8 ((x/2^16:Nat)%256:Int)]::[.int .u8 ((x/2^8:Nat)%256:Int)]::[.int .u8 ((x/2^0:Nat)%256:Int)]::am k.text):=by
   rw[show lm k=UInt8.ofNat k.kind.toNat::(Qt x++k.text) by simp[lm,c1,hq,hx]]
   simp[am,Qt,hkb,hkt]
  rw[he]
  have hb:(k.kind==2)=false:=by simp[hq]
  simp(maxSteps:=9999999) [hI,e1,hb,hk,hw,wrap_u8,LJ,s0,s1,s2,s3,s4,s5,m1,w1,bv,lt,xE,iv]
theorem P2 {n:Nat}:IntKind.i64.wrap ((BitVec.ofInt IntKind.i64.bits (n:Int)&&&BitVec.ofInt IntKind.i64.bits 255).toNat:Int)=(n:Int)%256:=by
 have e1:(BitVec.ofInt IntKind.i64.bits (n:Int)).toNat=n%2^64:=by
  show(BitVec.ofInt 64 (n:Int)).toNat=n%2^64
  simp[BitVec.toNat_ofInt]
 have e2:(BitVec.ofInt IntKind.i64.bits 255).toNat=255:=by decide
 rw[BitVec.toNat_and,e1,e2,show(255:Nat)=2^8-1 from rfl,Nat.and_two_pow_sub_one_eq_mod]
 rw[IntKind.wrap_i64];omega
theorem sW (y:Nat):IntKind.i64.wrap (((((y:Int)%2^IntKind.i64.bits).toNat&&&255%2^IntKind.i64.bits:Nat)):Int)%256=(y:Int)%256:=by
 have h:=P2 (n:=y)
 rw[BitVec.toNat_and,BitVec.toNat_ofInt,BitVec.toNat_ofInt]at h
 have e:(255%((2^IntKind.i64.bits:Nat):Int)).toNat=255%2^IntKind.i64.bits:=by decide
 rw[e]at h
 have e3:((2^IntKind.i64.bits:Nat):Int)=(2:Int)^IntKind.i64.bits:=by decide
 rw[e3]at h
 rw[h];omega
theorem xm {k:XKey}(h:k.Ok maxLen):ag Ph aE 221 [k.v]=some (.one (.own 1 (am (lm k)))):=by
 have e1:=mX h
 refine ae (fn:=hY) rfl ?_
 cases c1:ql k<;>rw[c1]at e1
 ·rw[show lm k=[] by simp[lm,c1]]
  simp(maxSteps:=9999999) [hY,e1,show am []=[]from rfl]
 obtain⟨h1,h2,h3,h4,h5,h6⟩:=za c1
 have m1:1+k.text.length≤140737488355328∧1+k.text.length≤9223372036854775807∧7+k.text.length≤140737488355328∧7+k.text.length≤9223372036854775807∧k.text.length+7≤140737488355328∧k.text.length+7≤9223372036854775807:=by omega
 have hk:k.kind%256=k.kind:=by omega
 obtain⟨x,hx⟩:∃x:Nat,k.n+1000000000000=(x:Int):=⟨(k.n+1000000000000).toNat,by omega⟩
 have hw:IntKind.i64.wrap (k.n+1000000000000)=(x:Int):=by rw[hx,IntKind.wrap_i64];omega
 have s0:=A9 (x:=x) (b:=0) (k:=0) (by decide) rfl
 have s1:=A9 (x:=x) (b:=8) (k:=8) (by decide) rfl
 have s2:=A9 (x:=x) (b:=16) (k:=16) (by decide) rfl
 have s3:=A9 (x:=x) (b:=24) (k:=24) (by decide) rfl
 have s4:=A9 (x:=x) (b:=32) (k:=32) (by decide) rfl
 have s5:=A9 (x:=x) (b:=40) (k:=40) (by decide) rfl
 have lt:dA 5 0=false∧dA 4 0=false∧dA 3 0=false∧dA 2 0=false∧dA 1 0=false∧dA 0 0=false∧dA (-1) 0=true:=by decide
 have hkb:(UInt8.ofNat k.kind.toNat).toNat=k.kind.toNat:=by simp;omega
 have hkt:((k.kind.toNat:Nat):Int)=k.kind:=by omega
 have w1:=iP k.text
 by_cases hq:k.kind=2
 ·have he:am (lm k)=[.int .u8 k.kind]::am k.text:=by
   rw[show lm k=UInt8.ofNat k.kind.toNat::k.text by simp[lm,c1,hq]]
   simp only[am,List.map_cons,hkb,hkt]
  rw[he]
  have hb:(k.kind==2)=true:=by simp[hq]
  simp(maxSteps:=9999999) [hY,e1,hb,hk,wrap_u8,m1,w1,bv,xE,iy,lt]
 ·have he:am (lm k)=[.int .u8 k.kind]::([.int .u8 ((x/2^40:Nat)%256:Int)]::[.int .u8 ((x/2^32:Nat)%256:Int)]::[.int .u8 ((x/2^24:Nat)%256:Int)]::[.int .u8 ((x/2^16:Nat)%256:Int)]::[.int .u8 ((x/2^8:Nat)%256:Int)]::[.int .u8 ((x/2^0:Nat)%256:Int)]::am k.text):=by
   rw[show lm k=UInt8.ofNat k.kind.toNat::(Qt x++k.text) by simp[lm,c1,hq,hx]]
   simp[am,Qt,hkb,hkt]
  rw[he]
  have hb:(k.kind==2)=false:=by simp[hq]
  simp(maxSteps:=9999999) [hY,e1,hb,hk,hw,wrap_u8,LJ,s0,s1,s2,s3,s4,s5,m1,w1,bv,lt,xE,iy]
  have k5:=sW (x/1099511627776)
  have k4:=sW (x/4294967296)
  have k3:=sW (x/16777216)
  have k2:=sW (x/65536)
  have k1:=sW (x/256)
  simp only[Int.natCast_ediv,Int.cast_ofNat_Int]at k5 k4 k3 k2 k1
  have k0:=sW x
  rw[show(x:Int)%2^IntKind.i64.bits=((x%2^IntKind.i64.bits:Nat):Int) by norm_cast,Int.toNat_natCast]at k0
  exact⟨k5,k4,k3,k2,k1,k0⟩
end Gi
namespace Gi
open Go Go.RowKit
theorem XKey.Ok.mono {A B:Nat}(hAB:A≤B){x:XKey}(h:x.Ok A):x.Ok B:=by
 obtain⟨h0,h1,h2⟩:=h
 exact⟨h0,h1,Nat.le_trans h2 hAB⟩
theorem XField.Ok.mono {A B:Nat}(hAB:A≤B){x:XField}(h:x.Ok A):x.Ok B:=by
 obtain⟨h0,h1⟩:=h
 exact⟨Nat.le_trans h0 hAB,h1⟩
theorem XRecord.Ok.mono {A B:Nat}(hAB:A≤B){x:XRecord}(h:x.Ok A):x.Ok B:=by
 have h0:=h
 exact⟨Nat.le_trans h0.1 hAB,fun y m=>XField.Ok.mono hAB (h0.2 y m)⟩
theorem XItem.Ok.mono {A B:Nat}(hAB:A≤B){x:XItem}(h:x.Ok A):x.Ok B:=by
 obtain⟨h0,h1⟩:=h
 exact⟨XKey.Ok.mono hAB h0,XRecord.Ok.mono hAB h1⟩
theorem XStore.Ok.mono {A B:Nat}(hAB:A≤B){x:XStore}(h:x.Ok A):x.Ok B:=by
 obtain⟨h0,h1,h2⟩:=h
 exact⟨Nat.le_trans h0 hAB,⟨Nat.le_trans h1.1 hAB,fun y m=>XItem.Ok.mono hAB (h1.2 y m)⟩,h2⟩
theorem XWrite.Ok.mono {A B:Nat}(hAB:A≤B){x:XWrite}(h:x.Ok A):x.Ok B:=by
 obtain⟨h0,h1,h2,h3,h4⟩:=h
 exact⟨h0,h1,XKey.Ok.mono hAB h2,Nat.le_trans h3 hAB,h4⟩
theorem XApplied.Ok.mono {A B:Nat}(hAB:A≤B){x:XApplied}(h:x.Ok A):x.Ok B:=by
 obtain⟨h0,h1⟩:=h
 exact⟨h0,h1⟩
theorem XServer.Ok.mono {A B:Nat}(hAB:A≤B){x:XServer}(h:x.Ok A):x.Ok B:=by
 obtain⟨h0,h1,h2⟩:=h
 exact⟨XStore.Ok.mono hAB h0,⟨Nat.le_trans h1.1 hAB,fun y m=>XApplied.Ok.mono hAB (h1.2 y m)⟩,⟨Nat.le_trans h2.1 hAB,fun y m=>XWrite.Ok.mono hAB (h2.2 y m)⟩⟩
theorem XOutbox.Ok.mono {A B:Nat}(hAB:A≤B){x:XOutbox}(h:x.Ok A):x.Ok B:=by
 obtain⟨h0,h1,h2⟩:=h
 exact⟨h0,h1,⟨Nat.le_trans h2.1 hAB,fun y m=>XWrite.Ok.mono hAB (h2.2 y m)⟩⟩
theorem XSync.Ok.mono {A B:Nat}(hAB:A≤B){x:XSync}(h:x.Ok A):x.Ok B:=by
 obtain⟨h0,h1,h2⟩:=h
 exact⟨XOutbox.Ok.mono hAB h0,h1,h2⟩
theorem XReplica.Ok.mono {A B:Nat}(hAB:A≤B){x:XReplica}(h:x.Ok A):x.Ok B:=by
 obtain⟨h0,h1,h2⟩:=h
 exact⟨XStore.Ok.mono hAB h0,h1,XSync.Ok.mono hAB h2⟩
theorem XResponse.Ok.mono {A B:Nat}(hAB:A≤B){x:XResponse}(h:x.Ok A):x.Ok B:=by
 obtain⟨h0,h1,h2,h3⟩:=h
 exact⟨h0,h1,h2,Nat.le_trans h3 hAB⟩
theorem XCached.Ok.mono {A B:Nat}(hAB:A≤B){x:XCached}(h:x.Ok A):x.Ok B:=by
 obtain⟨h0,h1,h2⟩:=h
 exact⟨Nat.le_trans h0 hAB,Nat.le_trans h1 hAB,XResponse.Ok.mono hAB h2⟩
theorem XCache.Ok.mono {A B:Nat}(hAB:A≤B){x:XCache}(h:x.Ok A):x.Ok B:=by
 obtain⟨h0,h1⟩:=h
 exact⟨h0,⟨Nat.le_trans h1.1 hAB,fun y m=>XCached.Ok.mono hAB (h1.2 y m)⟩⟩
theorem XCacheSet.Ok.mono {A B:Nat}(hAB:A≤B){x:XCacheSet}(h:x.Ok A):x.Ok B:=by
 have h0:=h
 exact⟨Nat.le_trans h0.1 hAB,fun y m=>XCache.Ok.mono hAB (h0.2 y m)⟩
theorem XRegistration.Ok.mono {A B:Nat}(hAB:A≤B){x:XRegistration}(h:x.Ok A):x.Ok B:=by
 obtain⟨h0,h1,h2,h3⟩:=h
 exact⟨Nat.le_trans h0 hAB,h1,h2,h3⟩
theorem XLoaded.Ok.mono {A B:Nat}(hAB:A≤B){x:XLoaded}(h:x.Ok A):x.Ok B:=by
 obtain⟨h0,h1⟩:=h
 exact⟨Nat.le_trans h0 hAB,h1⟩
theorem XInstr.Ok.mono {A B:Nat}(hAB:A≤B){x:XInstr}(h:x.Ok A):x.Ok B:=by
 obtain⟨h0,h1,h2,h3⟩:=h
 exact⟨h0,h1,h2,Nat.le_trans h3 hAB⟩
theorem XMachine.Ok.mono {A B:Nat}(hAB:A≤B){x:XMachine}(h:x.Ok A):x.Ok B:=by
 obtain⟨h0,h1,h2,h3⟩:=h
 exact⟨⟨Nat.le_trans h0.1 hAB,fun y m=>XInstr.Ok.mono hAB (h0.2 y m)⟩,h1,⟨Nat.le_trans h2.1 hAB,h2.2⟩,h3⟩
theorem XPage.Ok.mono {A B:Nat}(hAB:A≤B){x:XPage}(h:x.Ok A):x.Ok B:=by
 obtain⟨h0,h1,h2,h3,h4,h5⟩:=h
 exact⟨h0,Nat.le_trans h1 hAB,Nat.le_trans h2 hAB,h3,⟨Nat.le_trans h4.1 hAB,fun y m=>XLoaded.Ok.mono hAB (h4.2 y m)⟩,XMachine.Ok.mono hAB h5⟩
theorem XIndexDef.Ok.mono {A B:Nat}(hAB:A≤B){x:XIndexDef}(h:x.Ok A):x.Ok B:=by
 obtain⟨h0,h1⟩:=h
 exact⟨Nat.le_trans h0 hAB,Nat.le_trans h1 hAB⟩
theorem XDatabase.Ok.mono {A B:Nat}(hAB:A≤B){x:XDatabase}(h:x.Ok A):x.Ok B:=by
 obtain⟨h0,h1,h2,h3⟩:=h
 exact⟨Nat.le_trans h0 hAB,h1,⟨Nat.le_trans h2.1 hAB,fun y m=>XStore.Ok.mono hAB (h2.2 y m)⟩,⟨Nat.le_trans h3.1 hAB,fun y m=>XIndexDef.Ok.mono hAB (h3.2 y m)⟩⟩
theorem XDisk.Ok.mono {A B:Nat}(hAB:A≤B){x:XDisk}(h:x.Ok A):x.Ok B:=by
 obtain⟨h0,h1,h2⟩:=h
 exact⟨XDatabase.Ok.mono hAB h0,Nat.le_trans h1 hAB,h2⟩
theorem XBucket.Ok.mono {A B:Nat}(hAB:A≤B){x:XBucket}(h:x.Ok A):x.Ok B:=by
 obtain⟨h0,h1,h2,h3,h4,h5,h6⟩:=h
 exact⟨Nat.le_trans h0 hAB,Nat.le_trans h1 hAB,XRegistration.Ok.mono hAB h2,XCacheSet.Ok.mono hAB h3,XDisk.Ok.mono hAB h4,XReplica.Ok.mono hAB h5,h6⟩
theorem XStorage.Ok.mono {A B:Nat}(hAB:A≤B){x:XStorage}(h:x.Ok A):x.Ok B:=by
 have h0:=h
 exact⟨Nat.le_trans h0.1 hAB,fun y m=>XBucket.Ok.mono hAB (h0.2 y m)⟩
theorem XLock.Ok.mono {A B:Nat}(hAB:A≤B){x:XLock}(h:x.Ok A):x.Ok B:=by
 obtain⟨h0,h1⟩:=h
 exact⟨Nat.le_trans h0 hAB,h1⟩
theorem XLockTable.Ok.mono {A B:Nat}(hAB:A≤B){x:XLockTable}(h:x.Ok A):x.Ok B:=by
 have h0:=h
 exact⟨Nat.le_trans h0.1 hAB,fun y m=>XLock.Ok.mono hAB (h0.2 y m)⟩
theorem XMail.Ok.mono {A B:Nat}(hAB:A≤B){x:XMail}(h:x.Ok A):x.Ok B:=by
 obtain⟨h0,h1,h2⟩:=h
 exact⟨h0,h1,h2⟩
theorem XChannel.Ok.mono {A B:Nat}(hAB:A≤B){x:XChannel}(h:x.Ok A):x.Ok B:=by
 have h0:=h
 exact⟨Nat.le_trans h0.1 hAB,fun y m=>XMail.Ok.mono hAB (h0.2 y m)⟩
theorem XSite.Ok.mono {A B:Nat}(hAB:A≤B){x:XSite}(h:x.Ok A):x.Ok B:=by
 obtain⟨h0,h1,h2⟩:=h
 exact⟨Nat.le_trans h0 hAB,h1,⟨Nat.le_trans h2.1 hAB,fun y m=>Nat.le_trans (h2.2 y m) hAB⟩⟩
theorem XWorld.Ok.mono {A B:Nat}(hAB:A≤B){x:XWorld}(h:x.Ok A):x.Ok B:=by
 obtain⟨h0,h2,h3,h4,h5,h6,h7,h8,h9⟩:=h
 exact⟨h0,h2,XStorage.Ok.mono hAB h3,⟨Nat.le_trans h4.1 hAB,fun y m=>XPage.Ok.mono hAB (h4.2 y m)⟩,h5,XLockTable.Ok.mono hAB h6,XChannel.Ok.mono hAB h7,⟨Nat.le_trans h8.1 hAB,fun y m=>XSite.Ok.mono hAB (h8.2 y m)⟩,⟨Nat.le_trans h9.1 hAB,fun y m=>XServer.Ok.mono hAB (h9.2 y m)⟩⟩
end Gi
