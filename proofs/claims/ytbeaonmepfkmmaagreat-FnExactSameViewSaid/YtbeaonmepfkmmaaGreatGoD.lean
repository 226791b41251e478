/- Of this proof. -/
import Derived.Test.YtbeaonmepfkmmaaGreatGku
import Derived.Test.YtbeaonmepfkmmaaGreatGks
set_option linter.unusedSimpArgs false
set_option linter.unusedVariables false
namespace Gi
open Go Go.RowKit
set_option maxHeartbeats 8000000
set_option maxRecDepth 4000
attribute [local simp] start nx bZ cJ cB dB cA dA dG dF og oA oh oB ol oC om oD oq oE ot oF ou oG ov oH oz oI V.cells plain bt gD isInt isStr isBool bin bM fF bN fG dC un asList L.view au V.view viewL aT az bQ bd b6 comp aN bU cy bI aY aW aX ar aj aE ah aq aO am aR bw aA aZ a9 V.flat L.flat cZ cV br putAt thaw thawL thawT V.ow dE cD cE bO dD bP cC freezeVs freezeLs freezeL V.mut L.mut aH cd eW bg bF aP dN cu bK cH L.ren aJ cS bX cY bW bE wp_seq wp_block aM cG bR bf bS wp_skip wp_exit wp_ret b9 b8 cj ca cr ct cq bH aF L.notArr bq bo bp cF b7 storeD aS eB ba bY aQ kX L.mov L.closed V.closed PV.bare PV.flat
theorem jT {k:XKey}(h:k.Ok maxLen):ag Ph aC 225 [k.v]=some (.one (.own 1 (ae (iH k)))):=by
 have e1:=gL h
 refine aa (fn:=iV) rfl ?_
 cases c1:fA k<;>rw[c1]at e1
 ·rw[show iH k=[] by simp[iH,c1]]
  simp(maxSteps:=9999999) [iV,e1,show ae []=[]from rfl]
 obtain⟨h1,h2,h3,h4,h5,h6⟩:=sE c1
 have m1:1+k.text.length≤140737488355328∧1+k.text.length≤9223372036854775807∧7+k.text.length≤140737488355328∧7+k.text.length≤9223372036854775807∧k.text.length+7≤140737488355328∧k.text.length+7≤9223372036854775807:=by omega
 have hk:k.kind%256=k.kind:=by omega
 obtain⟨x,hx⟩:∃x:Nat,k.n+1000000000000=(x:Int):=⟨(k.n+1000000000000).toNat,by omega⟩
 have hw:IntKind.i64.wrap (k.n+1000000000000)=(x:Int):=by rw[hx,IntKind.wrap_i64];omega
 have s0:=Co (x:=x) (b:=0) (k:=0) (by decide) rfl
 have s1:=Co (x:=x) (b:=8) (k:=8) (by decide) rfl
 have s2:=Co (x:=x) (b:=16) (k:=16) (by decide) rfl
 have s3:=Co (x:=x) (b:=24) (k:=24) (by decide) rfl
 have s4:=Co (x:=x) (b:=32) (k:=32) (by decide) rfl
 have s5:=Co (x:=x) (b:=40) (k:=40) (by decide) rfl
 have lt:cw 5 0=false∧cw 4 0=false∧cw 3 0=false∧cw 2 0=false∧cw 1 0=false∧cw 0 0=false∧cw (-1) 0=true:=by decide
 have hkb:(UInt8.ofNat k.kind.toNat).toNat=k.kind.toNat:=by simp;omega
 have hkt:((k.kind.toNat:Nat):Int)=k.kind:=by omega
 have w1:=eU k.text
 by_cases hq:k.kind=2
 ·have he:ae (iH k)=[.int .u8 k.kind]::ae k.text:=by
   rw[show iH k=UInt8.ofNat k.kind.toNat::k.text by simp[iH,c1,hq]]
   simp only[ae,List.map_cons,hkb,hkt]
  rw[he]
  have hb:(k.kind==2)=true:=by simp[hq]
  simp(maxSteps:=9999999) [iV,e1,hb,hk,CN,m1,w1,al,jA,jg,lt]
 ·have he:ae (iH k)=[.int .u8 k.kind]::([.int .u8 ((x/2^40:Nat)%256:Int)]::[.int .u8 ((x/2^32:Nat)%256:Int)]::[.int .u8 ((x/2^24:Nat)%256:Int)]::[.int .u8 ((x/2^16:Nat)%256:Int)]::[.int .u8 ((x/2^8:Nat)%256:Int)]::[.int .u8 ((x/2^0:Nat)%256:Int)]::ae k.text):=by
   rw[show iH k=UInt8.ofNat k.kind.toNat::(SH x++k.text) by simp[iH,c1,hq,hx]]
   simp[ae,SH,hkb,hkt]
  rw[he]
  have hb:(k.kind==2)=false:=by simp[hq]
  simp(maxSteps:=9999999) [iV,e1,hb,hk,hw,CN,rz,s0,s1,s2,s3,s4,s5,m1,w1,al,lt,jA,jg]
theorem S9 {n:Nat}:IntKind.i64.wrap ((BitVec.ofInt IntKind.i64.bits (n:Int)&&&BitVec.ofInt IntKind.i64.bits 255).toNat:Int)=(n:Int)%256:=by
 have e1:(BitVec.ofInt IntKind.i64.bits (n:Int)).toNat=n%2^64:=by
  show(BitVec.ofInt 64 (n:Int)).toNat=n%2^64
  simp[BitVec.toNat_ofInt]
 have e2:(BitVec.ofInt IntKind.i64.bits 255).toNat=255:=by decide
 rw[BitVec.toNat_and,e1,e2,show(255:Nat)=2^8-1 from rfl,Nat.and_two_pow_sub_one_eq_mod]
 rw[IntKind.wrap_i64];omega
theorem vz (y:Nat):IntKind.i64.wrap (((((y:Int)%2^IntKind.i64.bits).toNat&&&255%2^IntKind.i64.bits:Nat)):Int)%256=(y:Int)%256:=by
 have h:=S9 (n:=y)
 rw[BitVec.toNat_and,BitVec.toNat_ofInt,BitVec.toNat_ofInt]at h
 have e:(255%((2^IntKind.i64.bits:Nat):Int)).toNat=255%2^IntKind.i64.bits:=by decide
 rw[e]at h
 have e3:((2^IntKind.i64.bits:Nat):Int)=(2:Int)^IntKind.i64.bits:=by decide
 rw[e3]at h
 rw[h];omega
theorem rp {k:XKey}(h:k.Ok maxLen):ag Ph aC 221 [k.v]=some (.one (.own 1 (ae (iH k)))):=by
 have e1:=eX h
 refine aa (fn:=iX) rfl ?_
 cases c1:fA k<;>rw[c1]at e1
 ·rw[show iH k=[] by simp[iH,c1]]
  simp(maxSteps:=9999999) [iX,e1,show ae []=[]from rfl]
 obtain⟨h1,h2,h3,h4,h5,h6⟩:=sE c1
 have m1:1+k.text.length≤140737488355328∧1+k.text.length≤9223372036854775807∧7+k.text.length≤140737488355328∧7+k.text.length≤9223372036854775807∧k.text.length+7≤140737488355328∧k.text.length+7≤9223372036854775807:=by omega
 have hk:k.kind%256=k.kind:=by omega
 obtain⟨x,hx⟩:∃x:Nat,k.n+1000000000000=(x:Int):=⟨(k.n+1000000000000).toNat,by omega⟩
 have hw:IntKind.i64.wrap (k.n+1000000000000)=(x:Int):=by rw[hx,IntKind.wrap_i64];omega
 have s0:=Co (x:=x) (b:=0) (k:=0) (by decide) rfl
 have s1:=Co (x:=x) (b:=8) (k:=8) (by decide) rfl
 have s2:=Co (x:=x) (b:=16) (k:=16) (by decide) rfl
 have s3:=Co (x:=x) (b:=24) (k:=24) (by decide) rfl
 have s4:=Co (x:=x) (b:=32) (k:=32) (by decide) rfl
 have s5:=Co (x:=x) (b:=40) (k:=40) (by decide) rfl
 have lt:cw 5 0=false∧cw 4 0=false∧cw 3 0=false∧cw 2 0=false∧cw 1 0=false∧cw 0 0=false∧cw (-1) 0=true:=by decide
 have hkb:(UInt8.ofNat k.kind.toNat).toNat=k.kind.toNat:=by simp;omega
 have hkt:((k.kind.toNat:Nat):Int)=k.kind:=by omega
 have w1:=eU k.text
 by_cases hq:k.kind=2
 ·have he:ae (iH k)=[.int .u8 k.kind]::ae k.text:=by
   rw[show iH k=UInt8.ofNat k.kind.toNat::k.text by simp[iH,c1,hq]]
   simp only[ae,List.map_cons,hkb,hkt]
  rw[he]
  have hb:(k.kind==2)=true:=by simp[hq]
  simp(maxSteps:=9999999) [iX,e1,hb,hk,CN,m1,w1,al,jA,jl,lt]
 ·have he:ae (iH k)=[.int .u8 k.kind]::([.int .u8 ((x/2^40:Nat)%256:Int)]::[.int .u8 ((x/2^32:Nat)%256:Int)]::[.int .u8 ((x/2^24:Nat)%256:Int)]::[.int .u8 ((x/2^16:Nat)%256:Int)]::[.int .u8 ((x/2^8:Nat)%256:Int)]::[.int .u8 ((x/2^0:Nat)%256:Int)]::ae k.text):=by
   rw[show iH k=UInt8.ofNat k.kind.toNat::(SH x++k.text) by simp[iH,c1,hq,hx]]
   simp[ae,SH,hkb,hkt]
  rw[he]
  have hb:(k.kind==2)=false:=by simp[hq]
  simp(maxSteps:=9999999) [iX,e1,hb,hk,hw,CN,rz,s0,s1,s2,s3,s4,s5,m1,w1,al,lt,jA,jl]
  have k5:=vz (x/1099511627776)
  have k4:=vz (x/4294967296)
  have k3:=vz (x/16777216)
  have k2:=vz (x/65536)
  have k1:=vz (x/256)
  simp only[Int.natCast_ediv,Int.cast_ofNat_Int]at k5 k4 k3 k2 k1
  have k0:=vz x
  rw[show(x:Int)%2^IntKind.i64.bits=((x%2^IntKind.i64.bits:Nat):Int) by norm_cast,Int.toNat_natCast]at k0
  exact⟨k5,k4,k3,k2,k1,k0⟩
theorem fL :∀(s:List UInt8),qW (ae s)=some s
 |[]=>rfl
 |b::s=>by
  have ih:=fL s
  simp only[ae,List.map_cons]at ih⊢
  simp only[qW,ih,Int.toNat_natCast,UInt8.ofNat_toNat]
def O1 (a b:List UInt8)(k:Nat):Bool:=match a[k]?,b[k]? with
 |some x,some y=> !((x.toNat:Int)==(y.toNat:Int))
 |_,_=>false
theorem RK {a b:List UInt8}(h:a.length=b.length):(a==b)= !(lc a.length (O1 a b)):=by
 cases q:lc a.length (O1 a b)with
 |false=>
  have:a=b:=List.ext_getElem h fun i h1 h2=>by
   have:=wL q h1
   simp only[O1,h1,h2,List.getElem?_eq_getElem,Bool.not_eq_false',beq_iff_eq]at this
   exact UInt8.toNat_inj.1 (by omega)
  simp[this]
 |true=>
  have:a≠b:=fun e=>by
   subst e
   rw[zD fun k hk=>by simp[O1,hk]]at q
   cases q
  simp[this]
theorem fQ {a b:List UInt8}(ha:a.length≤maxLen):ag Ph aC 319 [bi (ae a),bi (ae b)]=some (aD (a==b)):=by
 have key:ag Ph aC 335 [bi (ae a),bi (ae b)]=some (aD (a==b)):=by
  refine aa (fn:=fV) rfl ?_
  by_cases hl:a.length=b.length
  ·rw[RK hl]
   simp(maxSteps:=9999999) [fV,al,hl]
   rw[←hl]
   refine aL bG Cl.fin [.t,.t,.f,.f,.f,.f,.f,.f,.f,.f,.f,.f,.t,.t,.f,.f,.f,.f,.f,.f,.f,.f,.f,.f,.f,.f] (fun k=>[(13,ai .i64 k)]) a.length (O1 a b) rfl (by simp[hl]) (fun k hk _=> ?_) (fun _ hp=> ?_)
   ·have hk2:k<b.length:=by omega
    simp +contextual (maxSteps:=9999999) [eY,hk,hk2,O1,nW hk,nW hk2,uR,al,aU ha hk,a8 hk,a8 hk2,hl]
   ·simp(maxSteps:=9999999) [eY,hp]
  ·have hb:(a==b)=false:=by rw[beq_eq_false_iff_ne];exact fun e=>hl (by rw[e])
   have hc:((a.length:Int)==(b.length:Int))=false:=by rw[beq_eq_false_iff_ne];omega
   simp(maxSteps:=9999999) [fV,al,hb,hc]
 refine aa (fn:=mH) rfl ?_
 simp(maxSteps:=9999999) [mH,key]
theorem mj {a b:List UInt8}:ag Ph aC 316 [bi (ae a),bi (ae b)]=some (aD (a==b)):=by
 refine aa (fn:=mS) rfl ?_
 simp(maxSteps:=9999999) [mS,fL]
def be (l:List UInt8):Nat:=l.foldl (fun a b=>a*256+b.toNat) 0
theorem G9 {l:List UInt8}{k:Nat}(h:k<l.length):be (l.take (k+1))=be (l.take k)*256+l[k].toNat:=by
 unfold be;rw[List.take_succ_eq_append_getElem h,List.foldl_append];rfl
theorem Gl {l:List UInt8}:∀{k:Nat},k≤l.length→be (l.take k)<256^k
 |0,_=>by simp[be]
 |k+1,h=>by
  have:=Gl (l:=l) (k:=k) (by omega)
  have h2:=l[k].toNat_lt
  rw[G9 (by omega),Nat.pow_succ];omega
theorem Um {n k:Nat}(hn:n<256^k)(hk:k<6):iT .shl .i64 (n:Int) 8=some (ai .i64 ((n*256:Nat):Int))∧n<1099511627776:=by
 have h1:(256:Nat)^k≤256^5:=Nat.pow_le_pow_right (by decide) (by omega)
 have h2:n<1099511627776:=by omega
 have e:(min (Int.toNat 8) IntKind.i64.bits)=8:=by decide
 have q:IntKind.i64.wrap ((n:Int)*256)=((n*256:Nat):Int):=by rw[IntKind.wrap_i64];omega
 refine⟨?_,h2⟩
 simp only[iT]
 rw[if_neg (by omega)]
 simp only[e]
 rw[show((2:Int)^8)=256 by decide,q]
theorem Vk {n x:Nat}(hn:n<1099511627776)(hx:x<256):IntKind.i64.wrap ((BitVec.ofInt IntKind.i64.bits ((n*256:Nat):Int)|||BitVec.ofInt IntKind.i64.bits (x:Int)).toNat:Int)=((n*256+x:Nat):Int):=by
 have e1:(BitVec.ofInt IntKind.i64.bits (x:Int)).toNat=x:=by
  show(BitVec.ofInt 64 (x:Int)).toNat=x
  simp[BitVec.toNat_ofInt];omega
 have e2:(BitVec.ofInt IntKind.i64.bits ((n*256:Nat):Int)).toNat=n*256:=by
  show(BitVec.ofInt 64 ((n*256:Nat):Int)).toNat=n*256
  simp[BitVec.toNat_ofInt];omega
 have e3:=Nat.two_pow_add_eq_or_of_lt (i:=8) (b:=x) (by omega) n
 rw[BitVec.toNat_or,e1,e2,Nat.mul_comm n,show(256:Nat)=2^8 from rfl,←e3,IntKind.wrap_i64]
 omega
def t7 (p:XKey×Bool):V:= .tup [(true,[.pv (.int .i64 p.1.kind), .pv (.int .i64 p.1.n), .pv (.str p.1.text)]),(false,[.pv (.bool p.2)])]
theorem MZ {b:List UInt8}{k:XKey}(h:nB b=some k):(iH k==b)=fA k:=by
 have e:=Qd h
 cases q:fA k with
 |true=>rw[beq_iff_eq];exact e.2 q
 |false=>rw[beq_eq_false_iff_ne];exact fun z=>by have:=e.1 z;rw[q]at this;cases this
theorem vI {b:List UInt8}{k:XKey}(h:nB b=some k):uA b=if fA k=true then(k,true)else(⟨0,0,[]⟩,false):=by unfold uA;rw[h]
theorem Tb (a b c d e f:UInt8):be [a,b,c,d,e,f]=Td a b c d e f:=by simp[be,Td]
def LV (c:UInt8)(T t:List UInt8):XKey:=⟨c.toNat,(be T:Int)-1000000000000,t⟩
theorem C4 {c:UInt8}{l:List UInt8}(g:¬(c.toNat:Int)=2)(h:6≤l.length):nB (c::l)=some (LV c (l.take 6) (l.drop 6)):=by
 match l,h with
 |a::b::d::e::f::q::t,_=>simp[nB,g,LV,Tb]
theorem A8 {c:UInt8}{l:List UInt8}(g:¬(c.toNat:Int)=2)(h:l.length<6):nB (c::l)=none:=by
 match l,h with
 |[],_|[_],_|[_,_],_|[_,_,_],_|[_,_,_,_],_|[_,_,_,_,_],_=>simp[nB,g]
theorem QD {c:UInt8}{T t:List UInt8}(hT:T.length=6)(ht:t.length≤1048576):(LV c T t).Ok maxLen:=by
 have h1:=Gl (l:=T) (k:=6) (by omega)
 rw[List.take_of_length_le (by omega)]at h1
 have h2:=c.toNat_lt
 exact⟨by simp only[LV,jt];omega,by simp only[LV,jt];omega,by simp only[LV];unfold maxLen;omega⟩
theorem yC {b:List UInt8}(hl:b.length≤1048576):ag Ph aC 581 [bi (ae b)]=some (t7 (uA b)):=by
 cases hb:b with
 |nil=>(refine aa (fn:=ej) rfl ?_;simp(maxSteps:=9999999) [ej,uA,nB,t7,ae])
 |cons c l=>
  rw[←hb]
  have hbl:b.length=l.length+1:=by rw[hb];rfl
  have f1:(ae b)[0]? =some [.int .u8 c.toNat]:=by rw[hb];rfl
  have f0:((b.length:Int)==0)=false:=beq_eq_false_iff_ne.2 (by omega)
  have f3:(1:Int)≤(b.length:Int):=by omega
  have f9:IntKind.i64.wrap 2=2:=rfl
  have f2:(ae b).tail.take (b.length-1)=ae l:=by rw[List.take_of_length_le (by simp[ae]),hb];rfl
  have u1:=vt c
  have wl:=eU l
  have wb:=eU b
  by_cases g:(c.toNat:Int)=2
  ·have e0:nB b=some ⟨2,0,l⟩:=by rw[hb];simp[nB,g]
   have ok:(⟨2,0,l⟩:XKey).Ok maxLen:=⟨by simp[jt],by simp[jt],by unfold maxLen;simp only;omega⟩
   rw[vI e0]
   have e1:=jT ok
   have e2:=fQ (a:=iH ⟨2,0,l⟩) (b:=b) (by have:=sv ⟨2,0,l⟩;unfold maxLen;omega)
   rw[MZ e0]at e2
   cases q:fA ⟨2,0,l⟩<;>rw[q]at e2<;>(refine aa (fn:=ej) rfl ?_;simp(maxSteps:=9999999) [ej,f0,f1,f2,f3,f9,u1,g,wl,wb,fL,al,e1,e2,t7])
  ·have g':((c.toNat:Int)==2)=false:=beq_eq_false_iff_ne.2 g
   by_cases h6:l.length<6
   ·have e0:uA b=(⟨0,0,[]⟩,false):=by unfold uA;rw[hb,A8 g h6]
    rw[e0]
    have c1:cw (l.length:Int) 6=true:=eJ (by omega)
    refine aa (fn:=ej) rfl ?_
    simp(maxSteps:=9999999) [ej,f0,f1,f2,f3,u1,g',c1,wl,wb,al,t7]
   ·have e0:nB b=some (LV c (l.take 6) (l.drop 6)):=by rw[hb,C4 g (by omega)]
    have hT:(l.take 6).length=6:=by simp;omega
    have ok:=QD (c:=c) hT (t:=l.drop 6) (by simp;omega)
    rw[vI e0]
    have c1:cw (l.length:Int) 6=false:=fB (by omega)
    have e1:=jT ok
    have e2:=fQ (a:=iH (LV c (l.take 6) (l.drop 6))) (b:=b) (by have:=sv (LV c (l.take 6) (l.drop 6));unfold maxLen;omega)
    rw[MZ e0]at e2
    have f4:(ae l).take 6=ae (l.take 6):=by simp[ae]
    have f5:((ae l).drop 6).take (l.length-6)=ae (l.drop 6):=by rw[List.take_of_length_le (by simp[ae])];simp[ae]
    have f6:(6:Int)≤(l.length:Int)∧6≤l.length:=by omega
    generalize l.take 6=T at*
    generalize l.drop 6=t at*
    have wT:=eU T
    have wt:=eU t
    refine aa (fn:=ej) rfl ?_
    simp(maxSteps:=9999999) [ej,f0,f1,f2,f3,f4,f5,f6,u1,g',c1,wl,wb,wT,wt,hT,fL,al]
    refine aL bG Cl.fin [.t,.f,.t,.f,.t,.t,.t,.f,.f,.f,.f,.f,.f,.f,.f,.f,.f,.f,.f,.f,.f,.f,.f,.f,.f,.f,.f,.f,.t,.t,.t,.f,.f,.f,.f,.f,.f,.f,.f,.f,.f,.f,.f,.f,.f,.f,.f,.f,.f,.f,.f,.f,.f,.f,.f] (fun k=>[(6,ai .i64 (be (T.take k):Nat)),(30,ai .i64 k)]) 6 (fun _=>false) rfl (by simp[be]) (fun k hk _=> ?_) (fun _ _=> ?_)
    ·have hkT:k<T.length:=by omega
     have hk6:k<6:=hk
     have g1:(ae T)[k]? =some [.int .u8 T[k].toNat]:=nW hkT
     have c2:cw (k:Int) 6=true:=eJ (by omega)
     have b1:=G9 hkT
     have b2:=Gl (l:=T) (k:=k) (by omega)
     obtain⟨s1,s2⟩:=Um b2 hk6
     have u2:=vt T[k]
     have hx:=T[k].toNat_lt
     have w6:IntKind.i64.wrap ((k:Int)+1)=(k:Int)+1:=by rw[IntKind.wrap_i64];omega
     generalize be (T.take (k+1))=m at*
     generalize be (T.take k)=n at*
     generalize hn2:n*256=n2 at*
     generalize T[k].toNat=x at*
     have w8:IntKind.i64.wrap ((n2:Int)+(x:Int))=(m:Int):=by rw[IntKind.wrap_i64];omega
     simp(maxSteps:=9999999) [jf,g1,c2,s1,u2,w6,w8,hkT,hT,al]
    ·have c2:cw 6 6=false:=rfl
     rw[List.take_of_length_le (by omega)]
     have b2:=Gl (l:=T) (k:=6) (by omega)
     rw[List.take_of_length_le (by omega)]at b2
     have w1:IntKind.i64.wrap ((be T:Int)-1000000000000)=(be T:Int)-1000000000000:=by rw[IntKind.wrap_i64];omega
     generalize iH (LV c T t)=ek at e1 e2
     generalize fA (LV c T t)=q at e2⊢
     simp only[LV]at e1⊢
     cases q<;>simp(maxSteps:=9999999) [jf,c2,w1,e1,e2,f5,f6,wt,wl,fL,al,t7]
theorem zd {b:List UInt8}(hl:b.length≤1048576):ag Ph aC 591 [bi (ae b)]=some (t7 (uA b)):=by
 cases hb:b with
 |nil=>(refine aa (fn:=ew) rfl ?_;simp(maxSteps:=9999999) [ew,uA,nB,t7,ae])
 |cons c l=>
  rw[←hb]
  have hbl:b.length=l.length+1:=by rw[hb];rfl
  have f1:(ae b)[0]? =some [.int .u8 c.toNat]:=by rw[hb];rfl
  have f0:((b.length:Int)==0)=false:=beq_eq_false_iff_ne.2 (by omega)
  have f3:(1:Int)≤(b.length:Int):=by omega
  have f9:IntKind.i64.wrap 2=2:=rfl
  have f2:(ae b).tail.take (b.length-1)=ae l:=by rw[List.take_of_length_le (by simp[ae]),hb];rfl
  have u1:=vt c
  have wl:=eU l
  have wb:=eU b
  by_cases g:(c.toNat:Int)=2
  ·have e0:nB b=some ⟨2,0,l⟩:=by rw[hb];simp[nB,g]
   have ok:(⟨2,0,l⟩:XKey).Ok maxLen:=⟨by simp[jt],by simp[jt],by unfold maxLen;simp only;omega⟩
   rw[vI e0]
   have e2:=eX ok
   cases q:fA ⟨2,0,l⟩<;>rw[q]at e2<;>(refine aa (fn:=ew) rfl ?_;simp(maxSteps:=9999999) [ew,f0,f1,f2,f3,f9,u1,g,wl,wb,fL,al,e2,t7])
  ·have g':((c.toNat:Int)==2)=false:=beq_eq_false_iff_ne.2 g
   by_cases h6:l.length<6
   ·have e0:uA b=(⟨0,0,[]⟩,false):=by unfold uA;rw[hb,A8 g h6]
    rw[e0]
    have c1:cw (b.length:Int) 7=true:=eJ (by omega)
    refine aa (fn:=ew) rfl ?_
    simp(maxSteps:=9999999) [ew,f0,f1,f2,f3,u1,g',c1,wl,wb,al,t7]
   ·have e0:nB b=some (LV c (l.take 6) (l.drop 6)):=by rw[hb,C4 g (by omega)]
    have hT:(l.take 6).length=6:=by simp;omega
    have ok:=QD (c:=c) hT (t:=l.drop 6) (by simp;omega)
    rw[vI e0]
    have c1:cw (b.length:Int) 7=false:=fB (by omega)
    have e2:=eX ok
    have f5:((ae b).drop 7).take (b.length-7)=ae (l.drop 6):=by rw[hb];rw[List.take_of_length_le (by simp[ae])];simp[ae]
    have f6:(7:Int)≤(b.length:Int)∧7≤b.length:=by omega
    have f7:∀k x,(l.take 6)[k]? =some x→(ae b)[k+1]? =some [.int .u8 x.toNat]:=fun k x e=>by
     rw[List.getElem?_take]at e
     split at e
     ·rw[hb];simp[ae,e]
     ·cases e
    generalize l.take 6=T at*
    generalize l.drop 6=t at*
    have wt:=eU t
    refine aa (fn:=ew) rfl ?_
    simp(maxSteps:=9999999) [ew,f0,f1,f3,u1,g',c1,wb,al]
    refine aL bG Cl.fin [.t,.f,.t,.f,.t,.f,.t,.t,.f,.f,.f,.f,.f,.f,.f,.f,.f,.f,.f,.f,.f,.f,.f,.f,.f,.f,.f,.f,.f,.f,.f,.f,.f,.f,.f,.f,.f,.f,.f,.f,.f,.f,.f,.f,.f,.f,.f,.f,.f] (fun k=>[(6,ai .i64 (be (T.take k):Nat)),(7,ai .i64 ((k:Int)+1))]) 6 (fun _=>false) rfl (by simp[be]) (fun k hk _=> ?_) (fun _ _=> ?_)
    ·have hkT:k<T.length:=by omega
     have hk6:k<6:=hk
     have g1:=f7 k T[k] (List.getElem?_eq_getElem hkT)
     have c2:cw ((k:Int)+1) 7=true:=eJ (by omega)
     have b1:=G9 hkT
     have b2:=Gl (l:=T) (k:=k) (by omega)
     obtain⟨s1,s2⟩:=Um b2 hk6
     have u2:=vt T[k]
     have hx:=T[k].toNat_lt
     have w6:IntKind.i64.wrap ((k:Int)+1+1)=(k:Int)+1+1:=by rw[IntKind.wrap_i64];omega
     have w7:((k:Int)+1).toNat=k+1∧(0:Int)≤(k:Int)+1:=by omega
     have w8:=Vk s2 hx
     rw[←b1]at w8
     generalize be (T.take (k+1))=m at*
     generalize be (T.take k)=n at*
     generalize hn2:n*256=n2 at*
     generalize T[k].toNat=x at*
     simp(maxSteps:=9999999) [jk,g1,c2,s1,u2,w6,w7, ↓w8,al]
    ·have c2:cw 7 7=false:=rfl
     rw[List.take_of_length_le (by omega)]
     have b2:=Gl (l:=T) (k:=6) (by omega)
     rw[List.take_of_length_le (by omega)]at b2
     have w1:IntKind.i64.wrap ((be T:Int)-1000000000000)=(be T:Int)-1000000000000:=by rw[IntKind.wrap_i64];omega
     generalize fA (LV c T t)=q at e2⊢
     simp only[LV]at e2⊢
     cases q<;>simp(maxSteps:=9999999) [jk,c2,w1,e2,f5,f6,wt,wb,fL,al,t7]
def Aw (s:List UInt8)(n:Nat)(a:Nat×List XField):Option (Nat×List XField):=if a.2.length<n then(match Cm 8 (s.drop a.1)with
 |none=>none
 |some (d,k)=>match te (s.drop (a.1+k))with
  |none=>none
  |some (x,j)=>some (a.1+k+j,a.2++[⟨d,x⟩]))else none
def TH (s:List UInt8)(n a0:Nat)(a:Nat×List XField):Prop:=a.1≤s.length∧a0≤a.1∧a.2.length≤n∧tM n (s.drop a0)=(tM (n-a.2.length) (s.drop a.1)).map fun p=>(a.2++p.1,a.1-a0+p.2)
theorem SK {s:List UInt8}{n a0:Nat}(h:a0≤s.length):TH s n a0 (a0,[]):=⟨h,Nat.le_refl _,Nat.zero_le _,by
 show _=Option.map _ (tM n (s.drop a0))
 cases tM n (s.drop a0)<;>simp⟩
theorem JH {s:List UInt8}{n a0:Nat}{a b:Nat×List XField}(ia:TH s n a0 a)(h:Aw s n a=some b):∃d k x j,a.2.length<n∧Cm 8 (s.drop a.1)=some (d,k)∧te (s.drop (a.1+k))=some (x,j)∧b=(a.1+k+j,a.2++[⟨d,x⟩])∧
 d.length≤8∧x≤1000000000000∧a.1+k≤s.length∧s.length-b.1<s.length-a.1∧TH s n a0 b:=by
 obtain⟨h1,h2,h3,h4⟩:=ia
 unfold Aw at h
 split at h
 ·rename_i hn
  split at h
  ·cases h
  ·rename_i d k e1
   split at h
   ·cases h
   ·rename_i x j e2
    cases h
    have q1:=jW (fi e1).1
    have q2:=lG e2
    simp only[List.length_drop]at q1 q2
    refine⟨d,k,x,j,hn,e1,e2,rfl,(fi e1).2,q2.2.2,by omega,by simp only;omega,by simp only;omega,by simp only;omega,by simp only[List.length_append,List.length_singleton];omega,?_⟩
    obtain⟨m,hm⟩:∃m,n-a.2.length=m+1:=⟨n-a.2.length-1,by omega⟩
    have hm2:n-(a.2++[(⟨d,x⟩:XField)]).length=m:=by simp only[List.length_append,List.length_singleton];omega
    rw[h4,hm,hm2]
    simp only[tM,e1,List.drop_drop,e2]
    rw[←Nat.add_assoc]
    cases tM m (s.drop (a.1+k+j))with
    |none=>rfl
    |some p=>simp;omega
 ·cases h
theorem M7 {s:List UInt8}{n a0:Nat}{a:Nat×List XField}(ia:TH s n a0 a)(h:Aw s n a=none):
 (a.2.length=n∧tM n (s.drop a0)=some (a.2,a.1-a0))∨(a.2.length<n∧tM n (s.drop a0)=none∧(Cm 8 (s.drop a.1)=none∨∃d k,Cm 8 (s.drop a.1)=some (d,k)∧a.1+k≤s.length∧te (s.drop (a.1+k))=none)):=by
 obtain⟨h1,h2,h3,h4⟩:=ia
 unfold Aw at h
 split at h
 ·rename_i hn
  obtain⟨m,hm⟩:∃m,n-a.2.length=m+1:=⟨n-a.2.length-1,by omega⟩
  rw[hm]at h4
  split at h
  ·rename_i e1
   exact .inr ⟨hn,by rw[h4];simp[tM,e1], .inl e1⟩
  ·rename_i d k e1
   have q1:=jW (fi e1).1
   simp only[List.length_drop]at q1
   split at h
   ·rename_i e2
    exact .inr ⟨hn,by rw[h4];simp[tM,e1,List.drop_drop,e2], .inr ⟨d,k,e1,by omega,e2⟩⟩
   ·cases h
 ·have hn:a.2.length=n:=by omega
  refine .inl ⟨hn,?_⟩
  rw[h4,show n-a.2.length=0 by omega]
  simp[tM]
theorem Tu (D:List UInt8)(a:Nat):∃x y b,sL D a=v3 x y b:=by
 unfold sL
 split
 ·exact⟨_,_,_,rfl⟩
 ·exact⟨_,_,_,rfl⟩
def Ts :List XField→List AObj
 |[]=>[.box [.nil], .box [.nil]]
 |f::l=>[.box [.nil], .box [.arr 2], .arr 2 ((f::l).map XField.e)]
theorem tL (l:List XField):(l=[]∧Ts l=[.box [.nil], .box [.nil]])∨(l≠[]∧Ts l=[.box [.nil], .box [.arr 2], .arr 2 (l.map XField.e)]):=by
 cases l with
 |nil=>exact .inl ⟨rfl,rfl⟩
 |cons f l=>exact .inr ⟨by simp,rfl⟩
theorem Kk (l:List XField)(f:XField):Ts (l++[f])=[.box [.nil], .box [.arr 2], .arr 2 (l.map XField.e++[f.e])]:=by
 rcases tL (l++[f])with⟨h,_⟩|⟨_,h⟩
 ·simp at h
 ·rw[h];simp
theorem RO {rows:List (List PV)}(h:rows≠[]):lL rows= .pv (.lst rows):=by
 cases rows with
 |nil=>exact absurd rfl h
 |cons r rs=>rfl
theorem mE :lL []= .nil:=rfl
def sp (p:XRecord×Bool):V:= .tup [(true,[lL (p.1.fs.map XField.e)]),(false,[.pv (.bool p.2)])]
theorem Hi {b:List UInt8}(h:Kp b=none):v5 b=(⟨[]⟩,false):=by unfold v5;rw[h]
theorem SS {b:List UInt8}{n k:Nat}(h:te b=some (n,k))(hf:tM n (b.drop k)=none):Kp b=none:=by unfold Kp;rw[h];simp only[hf];split<;>rfl
theorem SQ {b:List UInt8}{n k:Nat}(h:te b=some (n,k))(hf:¬n≤6):Kp b=none:=by unfold Kp;rw[h];simp only[if_neg hf]
theorem SU {b:List UInt8}{n k k2:Nat}{l:List XField}(h:te b=some (n,k))(hn:n≤6)(hf:tM n (b.drop k)=some (l,k2)):Kp b=some (⟨l⟩,k+k2):=by unfold Kp;rw[h];simp only[if_pos hn,hf]
theorem QY {n k:Nat}{b:List UInt8}{l:List XField}(h:tM n b=some (l,k))(hn:n≤6):(⟨l⟩:XRecord).Ok maxLen:=by
 obtain⟨_,_,h2,h3⟩:=xy _ _ _ _ h
 refine⟨by simp only;unfold maxLen;omega,fun f m=> ?_⟩
 obtain⟨q1,q2,q3⟩:=h3 f m
 exact⟨by unfold maxLen;omega,by unfold jt;omega⟩
theorem RV {b:List UInt8}{r:XRecord}{k:Nat}(h:Kp b=some (r,k)):v5 b=if kY r==b then(r,true)else(⟨[]⟩,false):=by
 have e:=Qe h
 unfold v5
 rw[h]
 by_cases c:kY r=b
 ·have:=e.1 c
  simp[c,this]
 ·have:¬(k=b.length∧db r.fs=true):=fun q=>c (e.2 ⟨q.2,q.1⟩)
  rw[if_neg (by simpa using c)]
  simp only[if_neg this]
theorem uG {b:List UInt8}(hl:b.length≤1048576):ag Ph aC 582 [bi (ae b)]=some (sp (v5 b)):=by
 have e1:ag Ph aC 579 [bi (ae b),ai .i64 0]=some (sL b 0):=dd hl (a:=0) (by omega)
 cases e:te b with
 |none=>
  have e0:v5 b=(⟨[]⟩,false):=Hi (by unfold Kp;rw[e])
  rw[e0]
  simp only[sL,e]at e1
  refine aa (fn:=eC) rfl ?_
  simp(maxSteps:=9999999) [eC,e1,sp,mE]
 |some p=>
  obtain⟨n,k⟩:=p
  simp only[sL,e,Nat.zero_add]at e1
  obtain⟨k1,k2,k3⟩:=lG e
  have b1:cw 6 (n:Int)=decide (6<n):=decide_eq_decide.2 (by omega)
  by_cases hn:n≤6
  rotate_left
  ·have d1:6<n:=by omega
   rw[Hi (SQ e hn)]
   refine aa (fn:=eC) rfl ?_
   simp(maxSteps:=9999999) [eC,e1,b1,d1,sp,mE]
  have d1:¬6<n:=by omega
  refine aa (fn:=eC) rfl ?_
  simp(maxSteps:=9999999) [eC,e1,b1,d1]
  refine pk bG Cl.fin [.t,.f,.t,.f,.t,.t,.f,.t,.t,.f,.f,.f,.f,.f,.f,.f,.f,.f,.f,.f,.f,.f,.f,.f,.f,.f,.f,.f,.f,.f,.f,.f,.f,.f,.f,.f,.f,.f,.f,.f,.f,.f,.f,.f,.f,.f,.f,.f,.f,.f,.f,.f,.f,.f,.f,.f,.f,.f,.f,.f,.f,.f,.f,.f,.f,.f,.f,.f,.f,.f,.f,.f] (fun a=>[(5,ai .i64 (a.1:Nat)),(8,ai .i64 (a.2.length:Nat))]) (fun a=>Ts a.2) (Aw b n) (fun a=>b.length-a.1) (TH b n k) (k,[]) (SK k2) rfl (by simp[Ts]) (fun a a' ia ha=> ?_) (fun a ia ha=> ?_)
  ·obtain⟨a,l⟩:=a
   obtain⟨d,kk,x,j,q0,q1,q2,rfl,q3,q4,q5,q6,q7⟩:=JH ia ha
   refine⟨q6,q7,?_⟩
   have h1:=ia.1
   simp only at h1 q0 q1 q2 q5⊢
   have r1:ag Ph aC 578 [bi (ae b),ai .i64 a,ai .i64 8]=some (td (b.drop a) a 8):=cU hl h1 (m:=8) (by omega)
   have r2:=dd hl (a:=a+kk) (by omega)
   rw[Int.natCast_add]at r2
   simp only[td,q1]at r1
   simp only[sL,q2]at r2
   have c1:cw (l.length:Int) (n:Int)=true:=eJ (by omega)
   have w1:IntKind.i64.wrap ((l.length:Int)+1)=(l.length:Int)+1:=by rw[IntKind.wrap_i64];omega
   have m1:=gV (m:=l.length+1) (z:=24) (by omega) (by omega)
   rw[Kk]
   have hl2:(l++[(⟨d,x⟩:XField)]).length=l.length+1:=by simp
   rw[hl2]
   rcases tL l with⟨rfl,hH⟩|⟨_,hH⟩<;>rw[hH]
   ·have c0:cw 0 (n:Int)=true:=eJ (by simp at q0;omega)
    simp(maxSteps:=9999999) [dq,r1,r2,c0,nu,fL,XField.e.eq_1,al,-cd]
    exact Kn.of [0,1,3] (by decide) (by simp) (by simp)
   ·have hW:(l.map XField.e).length=l.length:=by simp
    generalize l.map XField.e=W at*
    simp(maxSteps:=9999999) [dq,r1,r2,c1,w1,m1,hW,fL,XField.e.eq_1,al,-cd]
    exact Kn.of [0,1,4] (by decide) (by simp) (by simp)
  ·obtain⟨a,l⟩:=a
   have h1:=ia.1
   simp only at h1⊢
   have c1:cw (l.length:Int) (n:Int)=decide (l.length<n):=decide_eq_decide.2 (by omega)
   have c0:cw 0 (n:Int)=decide (0<n):=decide_eq_decide.2 (by omega)
   rcases M7 ia ha with⟨g1,g2⟩|⟨g1,g2,g3⟩
   ·simp only at g1 g2
    have c2:¬l.length<n:=by omega
    have e3:=SU e hn g2
    rw[RV e3]
    have ok:=QY g2 hn
    have e4:ag Ph aC 226 [.agg [.pv (.lst (l.map XField.e))]]=some (t8 ⟨l⟩):=km ok
    have e5:=fQ (a:=kY ⟨l⟩) (b:=b) (by have:=uB ⟨l⟩;unfold maxLen;omega)
    have e6:=qB ⟨l⟩
    generalize t8 ⟨l⟩=ev at*
    generalize (kY ⟨l⟩==b)=q at*
    generalize kY ⟨l⟩=en at*
    rcases tL l with⟨rfl,hH⟩|⟨hne,hH⟩<;>rw[hH]
    ·simp only[List.map_nil]at e4
     cases q<;>simp(maxSteps:=9999999) [dq,c0,c1,c2,g1,e4,e5, ↓e6,sp,mE]
    ·have hz:=RO (by simpa using hne:l.map XField.e≠[])
     cases q<;>simp(maxSteps:=9999999) [dq,c1,c2,g1,e4,e5, ↓e6,sp,hz,mE]
   ·simp only at g1 g2 g3
    have g0:0<n:=by omega
    rw[Hi (SS e g2)]
    have r1:ag Ph aC 578 [bi (ae b),ai .i64 a,ai .i64 8]=some (td (b.drop a) a 8):=cU hl h1 (m:=8) (by omega)
    rcases g3 with g3|⟨d,kk,g3,g4,g5⟩
    ·have r2:ag Ph aC 579 [bi (ae b),ai .i64 0]=some (sL b 0):=dd hl (a:=0) (by omega)
     obtain⟨x,y,z,hz⟩:=Tu b 0
     rw[hz]at r2
     simp only[td,g3]at r1
     rcases tL l with⟨rfl,hH⟩|⟨_,hH⟩<;>rw[hH]<;>simp(maxSteps:=9999999) [dq,c0,c1,g1,g0,r1,r2,al,sp,mE]
    ·have r2:=dd hl (a:=a+kk) (by omega)
     rw[Int.natCast_add]at r2
     simp only[td,g3]at r1
     simp only[sL,g5]at r2
     rcases tL l with⟨rfl,hH⟩|⟨_,hH⟩<;>rw[hH]<;>simp(maxSteps:=9999999) [dq,c0,c1,g1,g0,r1,r2,al,sp,mE]
end Gi
