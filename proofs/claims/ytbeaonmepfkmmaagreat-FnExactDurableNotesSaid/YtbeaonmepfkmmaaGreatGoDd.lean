/- Of this proof. -/
import Derived.Test.YtbeaonmepfkmmaaGreatGkud
import Derived.Test.YtbeaonmepfkmmaaGreatGksd
set_option linter.unusedSimpArgs false
set_option linter.unusedVariables false
namespace Gi
open Go Go.RowKit
set_option maxHeartbeats 8000000
set_option maxRecDepth 4000
attribute [local simp] start pa a9 b6 cP dS cO dR d5 dZ pR p5 pS p6 pT p7 pU p8 pV p9 pW qa pX qb pY qc pZ qd V.cells plain bf fO isInt isStr isBool bin bN gA bO gB dV un asList L.view av V.view viewL aR aw bS bq bE comp aK bv cL bK bj bh bi aB aq aH am az aW ap aY bH aI bm bo V.flat L.flat cX cN br putAt thaw thawL thawT V.ow dY cR cS bQ dX bR cQ freezeVs freezeLs freezeL V.mut L.mut aJ cy fQ aX bu aP dN co bG cJ L.ren aM dd bP dq bF bB wp_seq wp_block aV cV bT bt bU wp_skip wp_exit wp_ret ce b9 ct cf cF cG cE bJ aL L.notArr bA bw bz cT b8 storeD aT eS bc bZ aU mf L.mov L.closed V.closed PV.bare PV.flat
theorem lJ {k:XKey}(h:k.Ok maxLen):ah Ph aN 225 [k.v]=some (.one (.own 1 (ag (j3 k)))):=by
 have e1:=fT h
 refine ae (fn:=ik) rfl ?_
 cases c1:eZ k<;>rw[c1]at e1
 ·rw[show j3 k=[] by simp[j3,c1]]
  simp(maxSteps:=9999999) [ik,e1,show ag []=[]from rfl]
 obtain⟨h1,h2,h3,h4,h5,h6⟩:=oh c1
 have m1:1+k.text.length≤140737488355328∧1+k.text.length≤9223372036854775807∧7+k.text.length≤140737488355328∧7+k.text.length≤9223372036854775807∧k.text.length+7≤140737488355328∧k.text.length+7≤9223372036854775807:=by omega
 have hk:k.kind%256=k.kind:=by omega
 obtain⟨x,hx⟩:∃x:Nat,k.n+1000000000000=(x:Int):=⟨(k.n+1000000000000).toNat,by omega⟩
 have hw:IntKind.i64.wrap (k.n+1000000000000)=(x:Int):=by rw[hx,IntKind.wrap_i64];omega
 have s0:=AK (x:=x) (b:=0) (k:=0) (by decide) rfl
 have s1:=AK (x:=x) (b:=8) (k:=8) (by decide) rfl
 have s2:=AK (x:=x) (b:=16) (k:=16) (by decide) rfl
 have s3:=AK (x:=x) (b:=24) (k:=24) (by decide) rfl
 have s4:=AK (x:=x) (b:=32) (k:=32) (by decide) rfl
 have s5:=AK (x:=x) (b:=40) (k:=40) (by decide) rfl
 have lt:bX 5 0=false∧bX 4 0=false∧bX 3 0=false∧bX 2 0=false∧bX 1 0=false∧bX 0 0=false∧bX (-1) 0=true:=by decide
 have hkb:(UInt8.ofNat k.kind.toNat).toNat=k.kind.toNat:=by simp;omega
 have hkt:((k.kind.toNat:Nat):Int)=k.kind:=by omega
 have w1:=ej k.text
 by_cases hq:k.kind=2
 ·have he:ag (j3 k)=[.int .u8 k.kind]::ag k.text:=by
   rw[show j3 k=UInt8.ofNat k.kind.toNat::k.text by simp[j3,c1,hq]]
   simp only[ag,List.map_cons,hkb,hkt]
  rw[he]
  have hb:(k.kind==2)=true:=by simp[hq]
  simp(maxSteps:=9999999) [ik,e1,hb,hk,wrap_u8,m1,w1,aj,iU,iE,lt]
 ·have he:ag (j3 k)=[.int .u8 k.kind]::([.int .u8 ((x/2^40:Nat)%256:Int)]::[.int .u8 ((x/2^32:Nat)%256:Int)]::[.int .u8 ((x/2^24:Nat)%256:Int)]::[.int .u8 ((x/2^16:Nat)%256:Int)]::[.int .u8 ((x/2^8:Nat)%256:Int)]::[.int .u8 ((x/2^0:Nat)%256:Int)]::ag k.text):=by
   rw[show j3 k=UInt8.ofNat k.kind.toNat::(So x++k.text) by simp[j3,c1,hq,hx]]
   simp[ag,So,hkb,hkt]
  rw[he]
  have hb:(k.kind==2)=false:=by simp[hq]
  simp(maxSteps:=9999999) [ik,e1,hb,hk,hw,wrap_u8,pB,s0,s1,s2,s3,s4,s5,m1,w1,aj,lt,iU,iE]
theorem SQ {n:Nat}:IntKind.i64.wrap ((BitVec.ofInt IntKind.i64.bits (n:Int)&&&BitVec.ofInt IntKind.i64.bits 255).toNat:Int)=(n:Int)%256:=by
 have e1:(BitVec.ofInt IntKind.i64.bits (n:Int)).toNat=n%2^64:=by
  show(BitVec.ofInt 64 (n:Int)).toNat=n%2^64
  simp[BitVec.toNat_ofInt]
 have e2:(BitVec.ofInt IntKind.i64.bits 255).toNat=255:=by decide
 rw[BitVec.toNat_and,e1,e2,show(255:Nat)=2^8-1 from rfl,Nat.and_two_pow_sub_one_eq_mod]
 rw[IntKind.wrap_i64];omega
theorem tm (y:Nat):IntKind.i64.wrap (((((y:Int)%2^IntKind.i64.bits).toNat&&&255%2^IntKind.i64.bits:Nat)):Int)%256=(y:Int)%256:=by
 have h:=SQ (n:=y)
 rw[BitVec.toNat_and,BitVec.toNat_ofInt,BitVec.toNat_ofInt]at h
 have e:(255%((2^IntKind.i64.bits:Nat):Int)).toNat=255%2^IntKind.i64.bits:=by decide
 rw[e]at h
 have e3:((2^IntKind.i64.bits:Nat):Int)=(2:Int)^IntKind.i64.bits:=by decide
 rw[e3]at h
 rw[h];omega
theorem wU {k:XKey}(h:k.Ok maxLen):ah Ph aN 221 [k.v]=some (.one (.own 1 (ag (j3 k)))):=by
 have e1:=eu h
 refine ae (fn:=io) rfl ?_
 cases c1:eZ k<;>rw[c1]at e1
 ·rw[show j3 k=[] by simp[j3,c1]]
  simp(maxSteps:=9999999) [io,e1,show ag []=[]from rfl]
 obtain⟨h1,h2,h3,h4,h5,h6⟩:=oh c1
 have m1:1+k.text.length≤140737488355328∧1+k.text.length≤9223372036854775807∧7+k.text.length≤140737488355328∧7+k.text.length≤9223372036854775807∧k.text.length+7≤140737488355328∧k.text.length+7≤9223372036854775807:=by omega
 have hk:k.kind%256=k.kind:=by omega
 obtain⟨x,hx⟩:∃x:Nat,k.n+1000000000000=(x:Int):=⟨(k.n+1000000000000).toNat,by omega⟩
 have hw:IntKind.i64.wrap (k.n+1000000000000)=(x:Int):=by rw[hx,IntKind.wrap_i64];omega
 have s0:=AK (x:=x) (b:=0) (k:=0) (by decide) rfl
 have s1:=AK (x:=x) (b:=8) (k:=8) (by decide) rfl
 have s2:=AK (x:=x) (b:=16) (k:=16) (by decide) rfl
 have s3:=AK (x:=x) (b:=24) (k:=24) (by decide) rfl
 have s4:=AK (x:=x) (b:=32) (k:=32) (by decide) rfl
 have s5:=AK (x:=x) (b:=40) (k:=40) (by decide) rfl
 have lt:bX 5 0=false∧bX 4 0=false∧bX 3 0=false∧bX 2 0=false∧bX 1 0=false∧bX 0 0=false∧bX (-1) 0=true:=by decide
 have hkb:(UInt8.ofNat k.kind.toNat).toNat=k.kind.toNat:=by simp;omega
 have hkt:((k.kind.toNat:Nat):Int)=k.kind:=by omega
 have w1:=ej k.text
 by_cases hq:k.kind=2
 ·have he:ag (j3 k)=[.int .u8 k.kind]::ag k.text:=by
   rw[show j3 k=UInt8.ofNat k.kind.toNat::k.text by simp[j3,c1,hq]]
   simp only[ag,List.map_cons,hkb,hkt]
  rw[he]
  have hb:(k.kind==2)=true:=by simp[hq]
  simp(maxSteps:=9999999) [io,e1,hb,hk,wrap_u8,m1,w1,aj,iU,iI,lt]
 ·have he:ag (j3 k)=[.int .u8 k.kind]::([.int .u8 ((x/2^40:Nat)%256:Int)]::[.int .u8 ((x/2^32:Nat)%256:Int)]::[.int .u8 ((x/2^24:Nat)%256:Int)]::[.int .u8 ((x/2^16:Nat)%256:Int)]::[.int .u8 ((x/2^8:Nat)%256:Int)]::[.int .u8 ((x/2^0:Nat)%256:Int)]::ag k.text):=by
   rw[show j3 k=UInt8.ofNat k.kind.toNat::(So x++k.text) by simp[j3,c1,hq,hx]]
   simp[ag,So,hkb,hkt]
  rw[he]
  have hb:(k.kind==2)=false:=by simp[hq]
  simp(maxSteps:=9999999) [io,e1,hb,hk,hw,wrap_u8,pB,s0,s1,s2,s3,s4,s5,m1,w1,aj,lt,iU,iI]
  have k5:=tm (x/1099511627776)
  have k4:=tm (x/4294967296)
  have k3:=tm (x/16777216)
  have k2:=tm (x/65536)
  have k1:=tm (x/256)
  simp only[Int.natCast_ediv,Int.cast_ofNat_Int]at k5 k4 k3 k2 k1
  have k0:=tm x
  rw[show(x:Int)%2^IntKind.i64.bits=((x%2^IntKind.i64.bits:Nat):Int) by norm_cast,Int.toNat_natCast]at k0
  exact⟨k5,k4,k3,k2,k1,k0⟩
theorem fg :∀(s:List UInt8),mY (ag s)=some s
 |[]=>rfl
 |b::s=>by
  have ih:=fg s
  simp only[ag,List.map_cons]at ih⊢
  simp only[mY,ih,Int.toNat_natCast,UInt8.ofNat_toNat]
def Ow (a b:List UInt8)(k:Nat):Bool:=match a[k]?,b[k]? with
 |some x,some y=> !((x.toNat:Int)==(y.toNat:Int))
 |_,_=>false
theorem Rh {a b:List UInt8}(h:a.length=b.length):(a==b)= !(mj a.length (Ow a b)):=by
 cases q:mj a.length (Ow a b)with
 |false=>
  have:a=b:=List.ext_getElem h fun i h1 h2=>by
   have:=sn q h1
   simp only[Ow,h1,h2,List.getElem?_eq_getElem,Bool.not_eq_false',beq_iff_eq]at this
   exact UInt8.toNat_inj.1 (by omega)
  simp[this]
 |true=>
  have:a≠b:=fun e=>by
   subst e
   rw[A8 fun k hk=>by simp[Ow,hk]]at q
   cases q
  simp[this]
theorem iN {a b:List UInt8}(ha:a.length≤maxLen):ah Ph aN 319 [aQ (ag a),aQ (ag b)]=some (aD (a==b)):=by
 have key:ah Ph aN 335 [aQ (ag a),aQ (ag b)]=some (aD (a==b)):=by
  refine ae (fn:=fo) rfl ?_
  by_cases hl:a.length=b.length
  ·rw[Rh hl]
   simp(maxSteps:=9999999) [fo,aj,hl]
   rw[←hl]
   refine bD cC Cl.fin [.t,.t,.f,.f,.f,.f,.f,.f,.f,.f,.f,.f,.t,.t,.f,.f,.f,.f,.f,.f,.f,.f,.f,.f,.f,.f] (fun k=>[(13,aa .i64 k)]) a.length (Ow a b) rfl (by simp[hl]) (fun k hk _=> ?_) (fun _ hp=> ?_)
   ·have hk2:k<b.length:=by omega
    simp +contextual (maxSteps:=9999999) [ew,hk,hk2,Ow,mN hk,mN hk2,sN,aj,bW ha hk,cB hk,cB hk2,hl]
   ·simp(maxSteps:=9999999) [ew,hp]
  ·have hb:(a==b)=false:=by rw[beq_eq_false_iff_ne];exact fun e=>hl (by rw[e])
   have hc:((a.length:Int)==(b.length:Int))=false:=by rw[beq_eq_false_iff_ne];omega
   simp(maxSteps:=9999999) [fo,aj,hb,hc]
 refine ae (fn:=lw) rfl ?_
 simp(maxSteps:=9999999) [lw,key]
theorem vn {a b:List UInt8}:ah Ph aN 316 [aQ (ag a),aQ (ag b)]=some (aD (a==b)):=by
 refine ae (fn:=lC) rfl ?_
 simp(maxSteps:=9999999) [lC,fg]
def be (l:List UInt8):Nat:=l.foldl (fun a b=>a*256+b.toNat) 0
theorem FA {l:List UInt8}{k:Nat}(h:k<l.length):be (l.take (k+1))=be (l.take k)*256+l[k].toNat:=by
 unfold be;rw[List.take_succ_eq_append_getElem h,List.foldl_append];rfl
theorem EG {l:List UInt8}:∀{k:Nat},k≤l.length→be (l.take k)<256^k
 |0,_=>by simp[be]
 |k+1,h=>by
  have:=EG (l:=l) (k:=k) (by omega)
  have h2:=l[k].toNat_lt
  rw[FA (by omega),Nat.pow_succ];omega
theorem T8 {n k:Nat}(hn:n<256^k)(hk:k<6):ii .shl .i64 (n:Int) 8=some (aa .i64 ((n*256:Nat):Int))∧n<1099511627776:=by
 have h1:(256:Nat)^k≤256^5:=Nat.pow_le_pow_right (by decide) (by omega)
 have h2:n<1099511627776:=by omega
 have e:(min (Int.toNat 8) IntKind.i64.bits)=8:=by decide
 have q:IntKind.i64.wrap ((n:Int)*256)=((n*256:Nat):Int):=by rw[IntKind.wrap_i64];omega
 refine⟨?_,h2⟩
 simp only[ii]
 rw[if_neg (by omega)]
 simp only[e]
 rw[show((2:Int)^8)=256 by decide,q]
theorem U4 {n x:Nat}(hn:n<1099511627776)(hx:x<256):IntKind.i64.wrap ((BitVec.ofInt IntKind.i64.bits ((n*256:Nat):Int)|||BitVec.ofInt IntKind.i64.bits (x:Int)).toNat:Int)=((n*256+x:Nat):Int):=by
 have e1:(BitVec.ofInt IntKind.i64.bits (x:Int)).toNat=x:=by
  show(BitVec.ofInt 64 (x:Int)).toNat=x
  simp[BitVec.toNat_ofInt];omega
 have e2:(BitVec.ofInt IntKind.i64.bits ((n*256:Nat):Int)).toNat=n*256:=by
  show(BitVec.ofInt 64 ((n*256:Nat):Int)).toNat=n*256
  simp[BitVec.toNat_ofInt];omega
 have e3:=Nat.two_pow_add_eq_or_of_lt (i:=8) (b:=x) (by omega) n
 rw[BitVec.toNat_or,e1,e2,Nat.mul_comm n,show(256:Nat)=2^8 from rfl,←e3,IntKind.wrap_i64]
 omega
def rZ (p:XKey×Bool):V:= .tup [(true,[.pv (.int .i64 p.1.kind), .pv (.int .i64 p.1.n), .pv (.str p.1.text)]),(false,[.pv (.bool p.2)])]
theorem L2 {b:List UInt8}{k:XKey}(h:mh b=some k):(j3 k==b)=eZ k:=by
 have e:=PI h
 cases q:eZ k with
 |true=>rw[beq_iff_eq];exact e.2 q
 |false=>rw[beq_eq_false_iff_ne];exact fun z=>by have:=e.1 z;rw[q]at this;cases this
theorem tz {b:List UInt8}{k:XKey}(h:mh b=some k):sx b=if eZ k=true then(k,true)else(⟨0,0,[]⟩,false):=by unfold sx;rw[h]
theorem SU (a b c d e f:UInt8):be [a,b,c,d,e,f]=SW a b c d e f:=by simp[be,SW]
def KQ (c:UInt8)(T t:List UInt8):XKey:=⟨c.toNat,(be T:Int)-1000000000000,t⟩
theorem Bj {c:UInt8}{l:List UInt8}(g:¬(c.toNat:Int)=2)(h:6≤l.length):mh (c::l)=some (KQ c (l.take 6) (l.drop 6)):=by
 match l,h with
 |a::b::d::e::f::q::t,_=>simp[mh,g,KQ,SU]
theorem ze {c:UInt8}{l:List UInt8}(g:¬(c.toNat:Int)=2)(h:l.length<6):mh (c::l)=none:=by
 match l,h with
 |[],_|[_],_|[_,_],_|[_,_,_],_|[_,_,_,_],_|[_,_,_,_,_],_=>simp[mh,g]
theorem P8 {c:UInt8}{T t:List UInt8}(hT:T.length=6)(ht:t.length≤1048576):(KQ c T t).Ok maxLen:=by
 have h1:=EG (l:=T) (k:=6) (by omega)
 rw[List.take_of_length_le (by omega)]at h1
 have h2:=c.toNat_lt
 exact⟨by simp only[KQ,iy];omega,by simp only[KQ,iy];omega,by simp only[KQ];unfold maxLen;omega⟩
theorem wq {b:List UInt8}(hl:b.length≤1048576):ah Ph aN 581 [aQ (ag b)]=some (rZ (sx b)):=by
 cases hb:b with
 |nil=>(refine ae (fn:=dF) rfl ?_;simp(maxSteps:=9999999) [dF,sx,mh,rZ,ag])
 |cons c l=>
  rw[←hb]
  have hbl:b.length=l.length+1:=by rw[hb];rfl
  have f1:(ag b)[0]? =some [.int .u8 c.toNat]:=by rw[hb];rfl
  have f0:((b.length:Int)==0)=false:=beq_eq_false_iff_ne.2 (by omega)
  have f3:(1:Int)≤(b.length:Int):=by omega
  have f9:IntKind.i64.wrap 2=2:=rfl
  have f2:(ag b).tail.take (b.length-1)=ag l:=by rw[List.take_of_length_le (by simp[ag]),hb];rfl
  have u1:=tg c
  have wl:=ej l
  have wb:=ej b
  by_cases g:(c.toNat:Int)=2
  ·have e0:mh b=some ⟨2,0,l⟩:=by rw[hb];simp[mh,g]
   have ok:(⟨2,0,l⟩:XKey).Ok maxLen:=⟨by simp[iy],by simp[iy],by unfold maxLen;simp only;omega⟩
   rw[tz e0]
   have e1:=lJ ok
   have e2:=iN (a:=j3 ⟨2,0,l⟩) (b:=b) (by have:=Bt ⟨2,0,l⟩;unfold maxLen;omega)
   rw[L2 e0]at e2
   cases q:eZ ⟨2,0,l⟩<;>rw[q]at e2<;>(refine ae (fn:=dF) rfl ?_;simp(maxSteps:=9999999) [dF,f0,f1,f2,f3,f9,u1,g,wl,wb,fg,aj,e1,e2,rZ])
  ·have g':((c.toNat:Int)==2)=false:=beq_eq_false_iff_ne.2 g
   by_cases h6:l.length<6
   ·have e0:sx b=(⟨0,0,[]⟩,false):=by unfold sx;rw[hb,ze g h6]
    rw[e0]
    have c1:bX (l.length:Int) 6=true:=dW (by omega)
    refine ae (fn:=dF) rfl ?_
    simp(maxSteps:=9999999) [dF,f0,f1,f2,f3,u1,g',c1,wl,wb,aj,rZ]
   ·have e0:mh b=some (KQ c (l.take 6) (l.drop 6)):=by rw[hb,Bj g (by omega)]
    have hT:(l.take 6).length=6:=by simp;omega
    have ok:=P8 (c:=c) hT (t:=l.drop 6) (by simp;omega)
    rw[tz e0]
    have c1:bX (l.length:Int) 6=false:=fK (by omega)
    have e1:=lJ ok
    have e2:=iN (a:=j3 (KQ c (l.take 6) (l.drop 6))) (b:=b) (by have:=Bt (KQ c (l.take 6) (l.drop 6));unfold maxLen;omega)
    rw[L2 e0]at e2
    have f4:(ag l).take 6=ag (l.take 6):=by simp[ag]
    have f5:((ag l).drop 6).take (l.length-6)=ag (l.drop 6):=by rw[List.take_of_length_le (by simp[ag])];simp[ag]
    have f6:(6:Int)≤(l.length:Int)∧6≤l.length:=by omega
    generalize l.take 6=T at*
    generalize l.drop 6=t at*
    have wT:=ej T
    have wt:=ej t
    refine ae (fn:=dF) rfl ?_
    simp(maxSteps:=9999999) [dF,f0,f1,f2,f3,f4,f5,f6,u1,g',c1,wl,wb,wT,wt,hT,fg,aj]
    refine bD cC Cl.fin [.t,.f,.t,.f,.t,.t,.t,.f,.f,.f,.f,.f,.f,.f,.f,.f,.f,.f,.f,.f,.f,.f,.f,.f,.f,.f,.f,.f,.t,.t,.t,.f,.f,.f,.f,.f,.f,.f,.f,.f,.f,.f,.f,.f,.f,.f,.f,.f,.f,.f,.f,.f,.f,.f,.f] (fun k=>[(6,aa .i64 (be (T.take k):Nat)),(30,aa .i64 k)]) 6 (fun _=>false) rfl (by simp[be]) (fun k hk _=> ?_) (fun _ _=> ?_)
    ·have hkT:k<T.length:=by omega
     have hk6:k<6:=hk
     have g1:(ag T)[k]? =some [.int .u8 T[k].toNat]:=mN hkT
     have c2:bX (k:Int) 6=true:=dW (by omega)
     have b1:=FA hkT
     have b2:=EG (l:=T) (k:=k) (by omega)
     obtain⟨s1,s2⟩:=T8 b2 hk6
     have u2:=tg T[k]
     have hx:=T[k].toNat_lt
     have w6:IntKind.i64.wrap ((k:Int)+1)=(k:Int)+1:=by rw[IntKind.wrap_i64];omega
     generalize be (T.take (k+1))=m at*
     generalize be (T.take k)=n at*
     generalize hn2:n*256=n2 at*
     generalize T[k].toNat=x at*
     have w8:IntKind.i64.wrap ((n2:Int)+(x:Int))=(m:Int):=by rw[IntKind.wrap_i64];omega
     simp(maxSteps:=9999999) [iD,g1,c2,s1,u2,w6,w8,hkT,hT,aj]
    ·have c2:bX 6 6=false:=rfl
     rw[List.take_of_length_le (by omega)]
     have b2:=EG (l:=T) (k:=6) (by omega)
     rw[List.take_of_length_le (by omega)]at b2
     have w1:IntKind.i64.wrap ((be T:Int)-1000000000000)=(be T:Int)-1000000000000:=by rw[IntKind.wrap_i64];omega
     generalize j3 (KQ c T t)=ek at e1 e2
     generalize eZ (KQ c T t)=q at e2⊢
     simp only[KQ]at e1⊢
     cases q<;>simp(maxSteps:=9999999) [iD,c2,w1,e1,e2,f5,f6,wt,wl,fg,aj,rZ]
theorem wS {b:List UInt8}(hl:b.length≤1048576):ah Ph aN 591 [aQ (ag b)]=some (rZ (sx b)):=by
 cases hb:b with
 |nil=>(refine ae (fn:=dI) rfl ?_;simp(maxSteps:=9999999) [dI,sx,mh,rZ,ag])
 |cons c l=>
  rw[←hb]
  have hbl:b.length=l.length+1:=by rw[hb];rfl
  have f1:(ag b)[0]? =some [.int .u8 c.toNat]:=by rw[hb];rfl
  have f0:((b.length:Int)==0)=false:=beq_eq_false_iff_ne.2 (by omega)
  have f3:(1:Int)≤(b.length:Int):=by omega
  have f9:IntKind.i64.wrap 2=2:=rfl
  have f2:(ag b).tail.take (b.length-1)=ag l:=by rw[List.take_of_length_le (by simp[ag]),hb];rfl
  have u1:=tg c
  have wl:=ej l
  have wb:=ej b
  by_cases g:(c.toNat:Int)=2
  ·have e0:mh b=some ⟨2,0,l⟩:=by rw[hb];simp[mh,g]
   have ok:(⟨2,0,l⟩:XKey).Ok maxLen:=⟨by simp[iy],by simp[iy],by unfold maxLen;simp only;omega⟩
   rw[tz e0]
   have e2:=eu ok
   cases q:eZ ⟨2,0,l⟩<;>rw[q]at e2<;>(refine ae (fn:=dI) rfl ?_;simp(maxSteps:=9999999) [dI,f0,f1,f2,f3,f9,u1,g,wl,wb,fg,aj,e2,rZ])
  ·have g':((c.toNat:Int)==2)=false:=beq_eq_false_iff_ne.2 g
   by_cases h6:l.length<6
   ·have e0:sx b=(⟨0,0,[]⟩,false):=by unfold sx;rw[hb,ze g h6]
    rw[e0]
    have c1:bX (b.length:Int) 7=true:=dW (by omega)
    refine ae (fn:=dI) rfl ?_
    simp(maxSteps:=9999999) [dI,f0,f1,f2,f3,u1,g',c1,wl,wb,aj,rZ]
   ·have e0:mh b=some (KQ c (l.take 6) (l.drop 6)):=by rw[hb,Bj g (by omega)]
    have hT:(l.take 6).length=6:=by simp;omega
    have ok:=P8 (c:=c) hT (t:=l.drop 6) (by simp;omega)
    rw[tz e0]
    have c1:bX (b.length:Int) 7=false:=fK (by omega)
    have e2:=eu ok
    have f5:((ag b).drop 7).take (b.length-7)=ag (l.drop 6):=by rw[hb];rw[List.take_of_length_le (by simp[ag])];simp[ag]
    have f6:(7:Int)≤(b.length:Int)∧7≤b.length:=by omega
    have f7:∀k x,(l.take 6)[k]? =some x→(ag b)[k+1]? =some [.int .u8 x.toNat]:=fun k x e=>by
     rw[List.getElem?_take]at e
     split at e
     ·rw[hb];simp[ag,e]
     ·cases e
    generalize l.take 6=T at*
    generalize l.drop 6=t at*
    have wt:=ej t
    refine ae (fn:=dI) rfl ?_
    simp(maxSteps:=9999999) [dI,f0,f1,f3,u1,g',c1,wb,aj]
    refine bD cC Cl.fin [.t,.f,.t,.f,.t,.f,.t,.t,.f,.f,.f,.f,.f,.f,.f,.f,.f,.f,.f,.f,.f,.f,.f,.f,.f,.f,.f,.f,.f,.f,.f,.f,.f,.f,.f,.f,.f,.f,.f,.f,.f,.f,.f,.f,.f,.f,.f,.f,.f] (fun k=>[(6,aa .i64 (be (T.take k):Nat)),(7,aa .i64 ((k:Int)+1))]) 6 (fun _=>false) rfl (by simp[be]) (fun k hk _=> ?_) (fun _ _=> ?_)
    ·have hkT:k<T.length:=by omega
     have hk6:k<6:=hk
     have g1:=f7 k T[k] (List.getElem?_eq_getElem hkT)
     have c2:bX ((k:Int)+1) 7=true:=dW (by omega)
     have b1:=FA hkT
     have b2:=EG (l:=T) (k:=k) (by omega)
     obtain⟨s1,s2⟩:=T8 b2 hk6
     have u2:=tg T[k]
     have hx:=T[k].toNat_lt
     have w6:IntKind.i64.wrap ((k:Int)+1+1)=(k:Int)+1+1:=by rw[IntKind.wrap_i64];omega
     have w7:((k:Int)+1).toNat=k+1∧(0:Int)≤(k:Int)+1:=by omega
     have w8:=U4 s2 hx
     rw[←b1]at w8
     generalize be (T.take (k+1))=m at*
     generalize be (T.take k)=n at*
     generalize hn2:n*256=n2 at*
     generalize T[k].toNat=x at*
     simp(maxSteps:=9999999) [iH,g1,c2,s1,u2,w6,w7, ↓w8,aj]
    ·have c2:bX 7 7=false:=rfl
     rw[List.take_of_length_le (by omega)]
     have b2:=EG (l:=T) (k:=6) (by omega)
     rw[List.take_of_length_le (by omega)]at b2
     have w1:IntKind.i64.wrap ((be T:Int)-1000000000000)=(be T:Int)-1000000000000:=by rw[IntKind.wrap_i64];omega
     generalize eZ (KQ c T t)=q at e2⊢
     simp only[KQ]at e2⊢
     cases q<;>simp(maxSteps:=9999999) [iH,c2,w1,e2,f5,f6,wt,wb,fg,aj,rZ]
def yp (s:List UInt8)(n:Nat)(a:Nat×List XField):Option (Nat×List XField):=if a.2.length<n then(match AH 8 (s.drop a.1)with
 |none=>none
 |some (d,k)=>match qS (s.drop (a.1+k))with
  |none=>none
  |some (x,j)=>some (a.1+k+j,a.2++[⟨d,x⟩]))else none
def Tt (s:List UInt8)(n a0:Nat)(a:Nat×List XField):Prop:=a.1≤s.length∧a0≤a.1∧a.2.length≤n∧rE n (s.drop a0)=(rE (n-a.2.length) (s.drop a.1)).map fun p=>(a.2++p.1,a.1-a0+p.2)
theorem Sr {s:List UInt8}{n a0:Nat}(h:a0≤s.length):Tt s n a0 (a0,[]):=⟨h,Nat.le_refl _,Nat.zero_le _,by
 show _=Option.map _ (rE n (s.drop a0))
 cases rE n (s.drop a0)<;>simp⟩
theorem IB {s:List UInt8}{n a0:Nat}{a b:Nat×List XField}(ia:Tt s n a0 a)(h:yp s n a=some b):∃d k x j,a.2.length<n∧AH 8 (s.drop a.1)=some (d,k)∧qS (s.drop (a.1+k))=some (x,j)∧b=(a.1+k+j,a.2++[⟨d,x⟩])∧
 d.length≤8∧x≤1000000000000∧a.1+k≤s.length∧s.length-b.1<s.length-a.1∧Tt s n a0 b:=by
 obtain⟨h1,h2,h3,h4⟩:=ia
 unfold yp at h
 split at h
 ·rename_i hn
  split at h
  ·cases h
  ·rename_i d k e1
   split at h
   ·cases h
   ·rename_i x j e2
    cases h
    have q1:=jk (eH e1).1
    have q2:=kC e2
    simp only[List.length_drop]at q1 q2
    refine⟨d,k,x,j,hn,e1,e2,rfl,(eH e1).2,q2.2.2,by omega,by simp only;omega,by simp only;omega,by simp only;omega,by simp only[List.length_append,List.length_singleton];omega,?_⟩
    obtain⟨m,hm⟩:∃m,n-a.2.length=m+1:=⟨n-a.2.length-1,by omega⟩
    have hm2:n-(a.2++[(⟨d,x⟩:XField)]).length=m:=by simp only[List.length_append,List.length_singleton];omega
    rw[h4,hm,hm2]
    simp only[rE,e1,List.drop_drop,e2]
    rw[←Nat.add_assoc]
    cases rE m (s.drop (a.1+k+j))with
    |none=>rfl
    |some p=>simp;omega
 ·cases h
theorem L9 {s:List UInt8}{n a0:Nat}{a:Nat×List XField}(ia:Tt s n a0 a)(h:yp s n a=none):
 (a.2.length=n∧rE n (s.drop a0)=some (a.2,a.1-a0))∨(a.2.length<n∧rE n (s.drop a0)=none∧(AH 8 (s.drop a.1)=none∨∃d k,AH 8 (s.drop a.1)=some (d,k)∧a.1+k≤s.length∧qS (s.drop (a.1+k))=none)):=by
 obtain⟨h1,h2,h3,h4⟩:=ia
 unfold yp at h
 split at h
 ·rename_i hn
  obtain⟨m,hm⟩:∃m,n-a.2.length=m+1:=⟨n-a.2.length-1,by omega⟩
  rw[hm]at h4
  split at h
  ·rename_i e1
   exact .inr ⟨hn,by rw[h4];simp[rE,e1], .inl e1⟩
  ·rename_i d k e1
   have q1:=jk (eH e1).1
   simp only[List.length_drop]at q1
   split at h
   ·rename_i e2
    exact .inr ⟨hn,by rw[h4];simp[rE,e1,List.drop_drop,e2], .inr ⟨d,k,e1,by omega,e2⟩⟩
   ·cases h
 ·have hn:a.2.length=n:=by omega
  refine .inl ⟨hn,?_⟩
  rw[h4,show n-a.2.length=0 by omega]
  simp[rE]
theorem Tg (D:List UInt8)(a:Nat):∃x y b,qE D a=v3 x y b:=by
 unfold qE
 split
 ·exact⟨_,_,_,rfl⟩
 ·exact⟨_,_,_,rfl⟩
def Te :List XField→List AObj
 |[]=>[.box [.nil], .box [.nil]]
 |f::l=>[.box [.nil], .box [.arr 2], .arr 2 ((f::l).map XField.e)]
theorem rB (l:List XField):(l=[]∧Te l=[.box [.nil], .box [.nil]])∨(l≠[]∧Te l=[.box [.nil], .box [.arr 2], .arr 2 (l.map XField.e)]):=by
 cases l with
 |nil=>exact .inl ⟨rfl,rfl⟩
 |cons f l=>exact .inr ⟨by simp,rfl⟩
theorem Jh (l:List XField)(f:XField):Te (l++[f])=[.box [.nil], .box [.arr 2], .arr 2 (l.map XField.e++[f.e])]:=by
 rcases rB (l++[f])with⟨h,_⟩|⟨_,h⟩
 ·simp at h
 ·rw[h];simp
theorem Rk {rows:List (List PV)}(h:rows≠[]):kI rows= .pv (.lst rows):=by
 cases rows with
 |nil=>exact absurd rfl h
 |cons r rs=>rfl
theorem lu :kI []= .nil:=rfl
def qq (p:XRecord×Bool):V:= .tup [(true,[kI (p.1.fs.map XField.e)]),(false,[.pv (.bool p.2)])]
theorem FL {b:List UInt8}(h:Jl b=none):tP b=(⟨[]⟩,false):=by unfold tP;rw[h]
theorem Sz {b:List UInt8}{n k:Nat}(h:qS b=some (n,k))(hf:rE n (b.drop k)=none):Jl b=none:=by unfold Jl;rw[h];simp only[hf];split<;>rfl
theorem Sy {b:List UInt8}{n k:Nat}(h:qS b=some (n,k))(hf:¬n≤6):Jl b=none:=by unfold Jl;rw[h];simp only[if_neg hf]
theorem SA {b:List UInt8}{n k k2:Nat}{l:List XField}(h:qS b=some (n,k))(hn:n≤6)(hf:rE n (b.drop k)=some (l,k2)):Jl b=some (⟨l⟩,k+k2):=by unfold Jl;rw[h];simp only[if_pos hn,hf]
theorem Qw {n k:Nat}{b:List UInt8}{l:List XField}(h:rE n b=some (l,k))(hn:n≤6):(⟨l⟩:XRecord).Ok maxLen:=by
 obtain⟨_,_,h2,h3⟩:=vh _ _ _ _ h
 refine⟨by simp only;unfold maxLen;omega,fun f m=> ?_⟩
 obtain⟨q1,q2,q3⟩:=h3 f m
 exact⟨by unfold maxLen;omega,by unfold iy;omega⟩
theorem Rt {b:List UInt8}{r:XRecord}{k:Nat}(h:Jl b=some (r,k)):tP b=if nT r==b then(r,true)else(⟨[]⟩,false):=by
 have e:=PK h
 unfold tP
 rw[h]
 by_cases c:nT r=b
 ·have:=e.1 c
  simp[c,this]
 ·have:¬(k=b.length∧cI r.fs=true):=fun q=>c (e.2 ⟨q.2,q.1⟩)
  rw[if_neg (by simpa using c)]
  simp only[if_neg this]
theorem sH {b:List UInt8}(hl:b.length≤1048576):ah Ph aN 582 [aQ (ag b)]=some (qq (tP b)):=by
 have e1:ah Ph aN 579 [aQ (ag b),aa .i64 0]=some (qE b 0):=cH hl (a:=0) (by omega)
 cases e:qS b with
 |none=>
  have e0:tP b=(⟨[]⟩,false):=FL (by unfold Jl;rw[e])
  rw[e0]
  simp only[qE,e]at e1
  refine ae (fn:=dL) rfl ?_
  simp(maxSteps:=9999999) [dL,e1,qq,lu]
 |some p=>
  obtain⟨n,k⟩:=p
  simp only[qE,e,Nat.zero_add]at e1
  obtain⟨k1,k2,k3⟩:=kC e
  have b1:bX 6 (n:Int)=decide (6<n):=decide_eq_decide.2 (by omega)
  by_cases hn:n≤6
  rotate_left
  ·have d1:6<n:=by omega
   rw[FL (Sy e hn)]
   refine ae (fn:=dL) rfl ?_
   simp(maxSteps:=9999999) [dL,e1,b1,d1,qq,lu]
  have d1:¬6<n:=by omega
  refine ae (fn:=dL) rfl ?_
  simp(maxSteps:=9999999) [dL,e1,b1,d1]
  refine nK cC Cl.fin [.t,.f,.t,.f,.t,.t,.f,.t,.t,.f,.f,.f,.f,.f,.f,.f,.f,.f,.f,.f,.f,.f,.f,.f,.f,.f,.f,.f,.f,.f,.f,.f,.f,.f,.f,.f,.f,.f,.f,.f,.f,.f,.f,.f,.f,.f,.f,.f,.f,.f,.f,.f,.f,.f,.f,.f,.f,.f,.f,.f,.f,.f,.f,.f,.f,.f,.f,.f,.f,.f,.f,.f] (fun a=>[(5,aa .i64 (a.1:Nat)),(8,aa .i64 (a.2.length:Nat))]) (fun a=>Te a.2) (yp b n) (fun a=>b.length-a.1) (Tt b n k) (k,[]) (Sr k2) rfl (by simp[Te]) (fun a a' ia ha=> ?_) (fun a ia ha=> ?_)
  ·obtain⟨a,l⟩:=a
   obtain⟨d,kk,x,j,q0,q1,q2,rfl,q3,q4,q5,q6,q7⟩:=IB ia ha
   refine⟨q6,q7,?_⟩
   have h1:=ia.1
   simp only at h1 q0 q1 q2 q5⊢
   have r1:ah Ph aN 578 [aQ (ag b),aa .i64 a,aa .i64 8]=some (qR (b.drop a) a 8):=cu hl h1 (m:=8) (by omega)
   have r2:=cH hl (a:=a+kk) (by omega)
   rw[Int.natCast_add]at r2
   simp only[qR,q1]at r1
   simp only[qE,q2]at r2
   have c1:bX (l.length:Int) (n:Int)=true:=dW (by omega)
   have w1:IntKind.i64.wrap ((l.length:Int)+1)=(l.length:Int)+1:=by rw[IntKind.wrap_i64];omega
   have m1:=iz (m:=l.length+1) (z:=24) (by omega) (by omega)
   rw[Jh]
   have hl2:(l++[(⟨d,x⟩:XField)]).length=l.length+1:=by simp
   rw[hl2]
   rcases rB l with⟨rfl,hH⟩|⟨_,hH⟩<;>rw[hH]
   ·have c0:bX 0 (n:Int)=true:=dW (by simp at q0;omega)
    simp(maxSteps:=9999999) [cY,r1,r2,c0,ma,fg,XField.e.eq_1,aj,-cy]
    exact Kn.of [0,1,3] (by decide) (by simp) (by simp)
   ·have hW:(l.map XField.e).length=l.length:=by simp
    generalize l.map XField.e=W at*
    simp(maxSteps:=9999999) [cY,r1,r2,c1,w1,m1,hW,fg,XField.e.eq_1,aj,-cy]
    exact Kn.of [0,1,4] (by decide) (by simp) (by simp)
  ·obtain⟨a,l⟩:=a
   have h1:=ia.1
   simp only at h1⊢
   have c1:bX (l.length:Int) (n:Int)=decide (l.length<n):=decide_eq_decide.2 (by omega)
   have c0:bX 0 (n:Int)=decide (0<n):=decide_eq_decide.2 (by omega)
   rcases L9 ia ha with⟨g1,g2⟩|⟨g1,g2,g3⟩
   ·simp only at g1 g2
    have c2:¬l.length<n:=by omega
    have e3:=SA e hn g2
    rw[Rt e3]
    have ok:=Qw g2 hn
    have e4:ah Ph aN 226 [.agg [.pv (.lst (l.map XField.e))]]=some (ua ⟨l⟩):=m8 ok
    have e5:=iN (a:=nT ⟨l⟩) (b:=b) (by have:=Ij ⟨l⟩;unfold maxLen;omega)
    have e6:=vm ⟨l⟩
    generalize ua ⟨l⟩=ev at*
    generalize (nT ⟨l⟩==b)=q at*
    generalize nT ⟨l⟩=en at*
    rcases rB l with⟨rfl,hH⟩|⟨hne,hH⟩<;>rw[hH]
    ·simp only[List.map_nil]at e4
     cases q<;>simp(maxSteps:=9999999) [cY,c0,c1,c2,g1,e4,e5, ↓e6,qq,lu]
    ·have hz:=Rk (by simpa using hne:l.map XField.e≠[])
     cases q<;>simp(maxSteps:=9999999) [cY,c1,c2,g1,e4,e5, ↓e6,qq,hz,lu]
   ·simp only at g1 g2 g3
    have g0:0<n:=by omega
    rw[FL (Sz e g2)]
    have r1:ah Ph aN 578 [aQ (ag b),aa .i64 a,aa .i64 8]=some (qR (b.drop a) a 8):=cu hl h1 (m:=8) (by omega)
    rcases g3 with g3|⟨d,kk,g3,g4,g5⟩
    ·have r2:ah Ph aN 579 [aQ (ag b),aa .i64 0]=some (qE b 0):=cH hl (a:=0) (by omega)
     obtain⟨x,y,z,hz⟩:=Tg b 0
     rw[hz]at r2
     simp only[qR,g3]at r1
     rcases rB l with⟨rfl,hH⟩|⟨_,hH⟩<;>rw[hH]<;>simp(maxSteps:=9999999) [cY,c0,c1,g1,g0,r1,r2,aj,qq,lu]
    ·have r2:=cH hl (a:=a+kk) (by omega)
     rw[Int.natCast_add]at r2
     simp only[qR,g3]at r1
     simp only[qE,g5]at r2
     rcases rB l with⟨rfl,hH⟩|⟨_,hH⟩<;>rw[hH]<;>simp(maxSteps:=9999999) [cY,c0,c1,g1,g0,r1,r2,aj,qq,lu]
end Gi
