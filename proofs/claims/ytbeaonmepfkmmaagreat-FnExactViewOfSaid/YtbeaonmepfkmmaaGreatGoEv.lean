/- Of this proof. -/
import Derived.Test.YtbeaonmepfkmmaaGreatGkvv
import Derived.Test.YtbeaonmepfkmmaaGreatGksv
set_option linter.unusedSimpArgs false
set_option linter.unusedVariables false
namespace Gi
open Go Go.RowKit
set_option maxHeartbeats 8000000
set_option maxRecDepth 4000
attribute [local simp] start nY bo cj cE dE cD dD dJ dI pa pp pd pq pe pt pf pw pg px ph py pj pz pk pA pm pB V.cells plain bi fT isInt isStr isBool bin bK fR bL fS dF un asList L.view az V.view viewL aS aA bO bg bJ comp aM bA cz bI bc a9 ba av aj aE ai au aQ aq aY bC aD bd bf V.flat L.flat cT cS bq putAt thaw thawL thawT V.ow dH cG cH bM dG bN cF freezeVs freezeLs freezeL V.mut L.mut aI bY fu aZ bB aP dL cf bE cy L.ren aO cX bR cZ bG bD wp_seq wp_block aT cJ bP bh bQ wp_skip wp_exit wp_ret ca b7 ce cd cr ct cq bH aL L.notArr bu br bt cI b6 storeD aV ep a8 bW aU lV L.mov L.closed V.closed PV.bare PV.flat
theorem T8 {n:Nat}:IntKind.i64.wrap ((BitVec.ofInt IntKind.i64.bits (n:Int)&&&BitVec.ofInt IntKind.i64.bits 255).toNat:Int)=(n:Int)%256:=by
 have e1:(BitVec.ofInt IntKind.i64.bits (n:Int)).toNat=n%2^64:=by
  show(BitVec.ofInt 64 (n:Int)).toNat=n%2^64
  simp[BitVec.toNat_ofInt]
 have e2:(BitVec.ofInt IntKind.i64.bits 255).toNat=255:=by decide
 rw[BitVec.toNat_and,e1,e2,show(255:Nat)=2^8-1 from rfl,Nat.and_two_pow_sub_one_eq_mod]
 rw[IntKind.wrap_i64];omega
theorem uC (y:Nat):IntKind.i64.wrap (((((y:Int)%2^IntKind.i64.bits).toNat&&&255%2^IntKind.i64.bits:Nat)):Int)%256=(y:Int)%256:=by
 have h:=T8 (n:=y)
 rw[BitVec.toNat_and,BitVec.toNat_ofInt,BitVec.toNat_ofInt]at h
 have e:(255%((2^IntKind.i64.bits:Nat):Int)).toNat=255%2^IntKind.i64.bits:=by decide
 rw[e]at h
 have e3:((2^IntKind.i64.bits:Nat):Int)=(2:Int)^IntKind.i64.bits:=by decide
 rw[e3]at h
 rw[h];omega
theorem qJ {k:XKey}(h:k.Ok maxLen):ah Ph aH 221 [k.v]=some (.one (.own 1 (ag (ik k)))):=by
 have e1:=ez h
 refine aa (fn:=iD) rfl ?_
 cases c1:eW k<;>rw[c1]at e1
 ·rw[show ik k=[] by simp[ik,c1]]
  simp(maxSteps:=9999999) [iD,e1,show ag []=[]from rfl]
 obtain⟨h1,h2,h3,h4,h5,h6⟩:=rY c1
 have m1:1+k.text.length≤140737488355328∧1+k.text.length≤9223372036854775807∧7+k.text.length≤140737488355328∧7+k.text.length≤9223372036854775807∧k.text.length+7≤140737488355328∧k.text.length+7≤9223372036854775807:=by omega
 have hk:k.kind%256=k.kind:=by omega
 obtain⟨x,hx⟩:∃x:Nat,k.n+1000000000000=(x:Int):=⟨(k.n+1000000000000).toNat,by omega⟩
 have hw:IntKind.i64.wrap (k.n+1000000000000)=(x:Int):=by rw[hx,IntKind.wrap_i64];omega
 have s0:=B1 (x:=x) (b:=0) (k:=0) (by decide) rfl
 have s1:=B1 (x:=x) (b:=8) (k:=8) (by decide) rfl
 have s2:=B1 (x:=x) (b:=16) (k:=16) (by decide) rfl
 have s3:=B1 (x:=x) (b:=24) (k:=24) (by decide) rfl
 have s4:=B1 (x:=x) (b:=32) (k:=32) (by decide) rfl
 have s5:=B1 (x:=x) (b:=40) (k:=40) (by decide) rfl
 have lt:b9 5 0=false∧b9 4 0=false∧b9 3 0=false∧b9 2 0=false∧b9 1 0=false∧b9 0 0=false∧b9 (-1) 0=true:=by decide
 have hkb:(UInt8.ofNat k.kind.toNat).toNat=k.kind.toNat:=by simp;omega
 have hkt:((k.kind.toNat:Nat):Int)=k.kind:=by omega
 have w1:=eu k.text
 by_cases hq:k.kind=2
 ·have he:ag (ik k)=[.int .u8 k.kind]::ag k.text:=by
   rw[show ik k=UInt8.ofNat k.kind.toNat::k.text by simp[ik,c1,hq]]
   simp only[ag,Zu,hkb,hkt]
  rw[he]
  have hb:(k.kind==2)=true:=by simp[hq]
  simp(maxSteps:=9999999) [iD,e1,hb,hk,wrap_u8,m1,w1,al,jj,iX,lt]
 ·have he:ag (ik k)=[.int .u8 k.kind]::([.int .u8 ((x/2^40:Nat)%256:Int)]::[.int .u8 ((x/2^32:Nat)%256:Int)]::[.int .u8 ((x/2^24:Nat)%256:Int)]::[.int .u8 ((x/2^16:Nat)%256:Int)]::[.int .u8 ((x/2^8:Nat)%256:Int)]::[.int .u8 ((x/2^0:Nat)%256:Int)]::ag k.text):=by
   rw[show ik k=UInt8.ofNat k.kind.toNat::(TL x++k.text) by simp[ik,c1,hq,hx]]
   simp[ag,TL,hkb,hkt]
  rw[he]
  have hb:(k.kind==2)=false:=by simp[hq]
  simp(maxSteps:=9999999) [iD,e1,hb,hk,hw,wrap_u8,qN,s0,s1,s2,s3,s4,s5,m1,w1,al,lt,jj,iX]
  have k5:=uC (x/1099511627776)
  have k4:=uC (x/4294967296)
  have k3:=uC (x/16777216)
  have k2:=uC (x/65536)
  have k1:=uC (x/256)
  simp only[Int.natCast_ediv,Int.cast_ofNat_Int]at k5 k4 k3 k2 k1
  have k0:=uC x
  rw[show(x:Int)%2^IntKind.i64.bits=((x%2^IntKind.i64.bits:Nat):Int) by norm_cast,Int.toNat_natCast]at k0
  exact⟨k5,k4,k3,k2,k1,k0⟩
theorem fg :∀(s:List UInt8),nE (ag s)=some s
 |[]=>rfl
 |b::s=>by
  have ih:=fg s
  simp only[ag,Zu]at ih⊢
  simp only[nE,ih,Int.toNat_natCast,UInt8.ofNat_toNat]
def PO (a b:List UInt8)(k:Nat):Bool:=match a[k]?,b[k]? with
 |some x,some y=> !((x.toNat:Int)==(y.toNat:Int))
 |_,_=>false
theorem SD {a b:List UInt8}(h:a.length=b.length):(a==b)= !(mY a.length (PO a b)):=by
 cases q:mY a.length (PO a b)with
 |false=>
  have:a=b:=List.ext_getElem h fun i h1 h2=>by
   have:=yH q h1
   simp only[PO,h1,h2,Zl,Bool.not_eq_false',beq_iff_eq]at this
   exact UInt8.toNat_inj.1 (by omega)
  simp[this]
 |true=>
  have:a≠b:=fun e=>by
   subst e
   rw[Cw fun k hk=>by simp[PO,hk]]at q
   cases q
  simp[this]
theorem jb {a b:List UInt8}(ha:a.length≤maxLen):ah Ph aH 319 [aR (ag a),aR (ag b)]=some (aF (a==b)):=by
 have key:ah Ph aH 335 [aR (ag a),aR (ag b)]=some (aF (a==b)):=by
  refine aa (fn:=fo) rfl ?_
  by_cases hl:a.length=b.length
  ·rw[SD hl]
   simp(maxSteps:=9999999) [fo,al,hl]
   rw[←hl]
   refine bm bX Cl.fin [.t,.t,.f,.f,.f,.f,.f,.f,.f,.f,.f,.f,.t,.t,.f,.f,.f,.f,.f,.f,.f,.f,.f,.f,.f,.f] (fun k=>[(13,ae .i64 k)]) a.length (PO a b) rfl (by simp[hl]) (fun k hk _=> ?_) (fun _ hp=> ?_)
   ·have hk2:k<b.length:=by omega
    simp +contextual (maxSteps:=9999999) [eA,hk,hk2,PO,nw hk,nw hk2,tZ,al,bw ha hk,bU hk,bU hk2,hl]
   ·simp(maxSteps:=9999999) [eA,hp]
  ·have hb:(a==b)=false:=by rw[beq_eq_false_iff_ne];exact fun e=>hl (by rw[e])
   have hc:((a.length:Int)==(b.length:Int))=false:=by rw[beq_eq_false_iff_ne];omega
   simp(maxSteps:=9999999) [fo,al,hb,hc]
 refine aa (fn:=ma) rfl ?_
 simp(maxSteps:=9999999) [ma,key]
theorem wK {a b:List UInt8}:ah Ph aH 316 [aR (ag a),aR (ag b)]=some (aF (a==b)):=by
 refine aa (fn:=mi) rfl ?_
 simp(maxSteps:=9999999) [mi,fg]
def be (l:List UInt8):Nat:=l.foldl (fun a b=>a*256+b.toNat) 0
theorem Hf {l:List UInt8}{k:Nat}(h:k<l.length):be (l.take (k+1))=be (l.take k)*256+l[k].toNat:=by
 unfold be;rw[Zx h,List.foldl_append];rfl
theorem Gr {l:List UInt8}:∀{k:Nat},k≤l.length→be (l.take k)<256^k
 |0,_=>by simp[be]
 |k+1,h=>by
  have:=Gr (l:=l) (k:=k) (by omega)
  have h2:=l[k].toNat_lt
  rw[Hf (by omega),Nat.pow_succ];omega
theorem Vh {n k:Nat}(hn:n<256^k)(hk:k<6):iz .shl .i64 (n:Int) 8=some (ae .i64 ((n*256:Nat):Int))∧n<1099511627776:=by
 have h1:(256:Nat)^k≤256^5:=Nat.pow_le_pow_right (by decide) (by omega)
 have h2:n<1099511627776:=by omega
 have e:(min (Int.toNat 8) IntKind.i64.bits)=8:=by decide
 have q:IntKind.i64.wrap ((n:Int)*256)=((n*256:Nat):Int):=by rw[IntKind.wrap_i64];omega
 refine⟨?_,h2⟩
 simp only[iz]
 rw[if_neg (by omega)]
 simp only[e]
 rw[show((2:Int)^8)=256 by decide,q]
theorem We {n x:Nat}(hn:n<1099511627776)(hx:x<256):IntKind.i64.wrap ((BitVec.ofInt IntKind.i64.bits ((n*256:Nat):Int)|||BitVec.ofInt IntKind.i64.bits (x:Int)).toNat:Int)=((n*256+x:Nat):Int):=by
 have e1:(BitVec.ofInt IntKind.i64.bits (x:Int)).toNat=x:=by
  show(BitVec.ofInt 64 (x:Int)).toNat=x
  simp[BitVec.toNat_ofInt];omega
 have e2:(BitVec.ofInt IntKind.i64.bits ((n*256:Nat):Int)).toNat=n*256:=by
  show(BitVec.ofInt 64 ((n*256:Nat):Int)).toNat=n*256
  simp[BitVec.toNat_ofInt];omega
 have e3:=Nat.two_pow_add_eq_or_of_lt (i:=8) (b:=x) (by omega) n
 rw[BitVec.toNat_or,e1,e2,Nat.mul_comm n,show(256:Nat)=2^8 from rfl,←e3,IntKind.wrap_i64]
 omega
def tf (p:XKey×Bool):V:= .tup [(true,[.pv (.int .i64 p.1.kind), .pv (.int .i64 p.1.n), .pv (.str p.1.text)]),(false,[.pv (.bool p.2)])]
theorem Nv {b:List UInt8}{k:XKey}(h:mW b=some k):(ik k==b)=eW k:=by
 have e:=QY h
 cases q:eW k with
 |true=>rw[beq_iff_eq];exact e.2 q
 |false=>rw[beq_eq_false_iff_ne];exact fun z=>by have:=e.1 z;rw[q]at this;cases this
theorem uK {b:List UInt8}{k:XKey}(h:mW b=some k):tG b=if eW k=true then(k,true)else(⟨0,0,[]⟩,false):=by unfold tG;rw[h]
theorem Ua (a b c d e f:UInt8):be [a,b,c,d,e,f]=Uc a b c d e f:=by simp[be,Uc]
def Mh (c:UInt8)(T t:List UInt8):XKey:=⟨c.toNat,(be T:Int)-1000000000000,t⟩
theorem CN {c:UInt8}{l:List UInt8}(g:¬(c.toNat:Int)=2)(h:6≤l.length):mW (c::l)=some (Mh c (l.take 6) (l.drop 6)):=by
 match l,h with
 |a::b::d::e::f::q::t,_=>simp[mW,g,Mh,Ua]
theorem AB {c:UInt8}{l:List UInt8}(g:¬(c.toNat:Int)=2)(h:l.length<6):mW (c::l)=none:=by
 match l,h with
 |[],_|[_],_|[_,_],_|[_,_,_],_|[_,_,_,_],_|[_,_,_,_,_],_=>simp[mW,g]
theorem Rn {c:UInt8}{T t:List UInt8}(hT:T.length=6)(ht:t.length≤1048576):(Mh c T t).Ok maxLen:=by
 have h1:=Gr (l:=T) (k:=6) (by omega)
 rw[Zz (by omega)]at h1
 have h2:=c.toNat_lt
 exact⟨by simp only[Mh,ii];omega,by simp only[Mh,ii];omega,by simp only[Mh];unfold maxLen;omega⟩
theorem xM {b:List UInt8}(hl:b.length≤1048576):ah Ph aH 581 [aR (ag b)]=some (tf (tG b)):=by
 cases hb:b with
 |nil=>(refine aa (fn:=dP) rfl ?_;simp(maxSteps:=9999999) [dP,tG,mW,tf,ag])
 |cons c l=>
  rw[←hb]
  have hbl:b.length=l.length+1:=by rw[hb];rfl
  have f1:(ag b)[0]? =some [.int .u8 c.toNat]:=by rw[hb];rfl
  have f0:((b.length:Int)==0)=false:=beq_eq_false_iff_ne.2 (by omega)
  have f3:(1:Int)≤(b.length:Int):=by omega
  have f9:IntKind.i64.wrap 2=2:=rfl
  have f2:(ag b).tail.take (b.length-1)=ag l:=by rw[Zz (by simp[ag]),hb];rfl
  have u1:=uy c
  have wl:=eu l
  have wb:=eu b
  by_cases g:(c.toNat:Int)=2
  ·have e0:mW b=some ⟨2,0,l⟩:=by rw[hb];simp[mW,g]
   have ok:(⟨2,0,l⟩:XKey).Ok maxLen:=⟨by simp[ii],by simp[ii],by unfold maxLen;simp only;omega⟩
   rw[uK e0]
   have e1:=jA ok
   have e2:=jb (a:=ik ⟨2,0,l⟩) (b:=b) (by have:=rI ⟨2,0,l⟩;unfold maxLen;omega)
   rw[Nv e0]at e2
   cases q:eW ⟨2,0,l⟩<;>rw[q]at e2<;>(refine aa (fn:=dP) rfl ?_;simp(maxSteps:=9999999) [dP,f0,f1,f2,f3,f9,u1,g,wl,wb,fg,al,e1,e2,tf])
  ·have g':((c.toNat:Int)==2)=false:=beq_eq_false_iff_ne.2 g
   by_cases h6:l.length<6
   ·have e0:tG b=(⟨0,0,[]⟩,false):=by unfold tG;rw[hb,AB g h6]
    rw[e0]
    have c1:b9 (l.length:Int) 6=true:=d6 (by omega)
    refine aa (fn:=dP) rfl ?_
    simp(maxSteps:=9999999) [dP,f0,f1,f2,f3,u1,g',c1,wl,wb,al,tf]
   ·have e0:mW b=some (Mh c (l.take 6) (l.drop 6)):=by rw[hb,CN g (by omega)]
    have hT:(l.take 6).length=6:=by simp;omega
    have ok:=Rn (c:=c) hT (t:=l.drop 6) (by simp;omega)
    rw[uK e0]
    have c1:b9 (l.length:Int) 6=false:=fG (by omega)
    have e1:=jA ok
    have e2:=jb (a:=ik (Mh c (l.take 6) (l.drop 6))) (b:=b) (by have:=rI (Mh c (l.take 6) (l.drop 6));unfold maxLen;omega)
    rw[Nv e0]at e2
    have f4:(ag l).take 6=ag (l.take 6):=by simp[ag]
    have f5:((ag l).drop 6).take (l.length-6)=ag (l.drop 6):=by rw[Zz (by simp[ag])];simp[ag]
    have f6:(6:Int)≤(l.length:Int)∧6≤l.length:=by omega
    generalize l.take 6=T at*
    generalize l.drop 6=t at*
    have wT:=eu T
    have wt:=eu t
    refine aa (fn:=dP) rfl ?_
    simp(maxSteps:=9999999) [dP,f0,f1,f2,f3,f4,f5,f6,u1,g',c1,wl,wb,wT,wt,hT,fg,al]
    refine bm bX Cl.fin [.t,.f,.t,.f,.t,.t,.t,.f,.f,.f,.f,.f,.f,.f,.f,.f,.f,.f,.f,.f,.f,.f,.f,.f,.f,.f,.f,.f,.t,.t,.t,.f,.f,.f,.f,.f,.f,.f,.f,.f,.f,.f,.f,.f,.f,.f,.f,.f,.f,.f,.f,.f,.f,.f,.f] (fun k=>[(6,ae .i64 (be (T.take k):Nat)),(30,ae .i64 k)]) 6 (fun _=>false) rfl (by simp[be]) (fun k hk _=> ?_) (fun _ _=> ?_)
    ·have hkT:k<T.length:=by omega
     have hk6:k<6:=hk
     have g1:(ag T)[k]? =some [.int .u8 T[k].toNat]:=nw hkT
     have c2:b9 (k:Int) 6=true:=d6 (by omega)
     have b1:=Hf hkT
     have b2:=Gr (l:=T) (k:=k) (by omega)
     obtain⟨s1,s2⟩:=Vh b2 hk6
     have u2:=uy T[k]
     have hx:=T[k].toNat_lt
     have w6:IntKind.i64.wrap ((k:Int)+1)=(k:Int)+1:=by rw[IntKind.wrap_i64];omega
     generalize be (T.take (k+1))=m at*
     generalize be (T.take k)=n at*
     generalize hn2:n*256=n2 at*
     generalize T[k].toNat=x at*
     have w8:IntKind.i64.wrap ((n2:Int)+(x:Int))=(m:Int):=by rw[IntKind.wrap_i64];omega
     simp(maxSteps:=9999999) [iR,g1,c2,s1,u2,w6,w8,hkT,hT,al]
    ·have c2:b9 6 6=false:=rfl
     rw[Zz (by omega)]
     have b2:=Gr (l:=T) (k:=6) (by omega)
     rw[Zz (by omega)]at b2
     have w1:IntKind.i64.wrap ((be T:Int)-1000000000000)=(be T:Int)-1000000000000:=by rw[IntKind.wrap_i64];omega
     generalize ik (Mh c T t)=ek at e1 e2
     generalize eW (Mh c T t)=q at e2⊢
     simp only[Mh]at e1⊢
     cases q<;>simp(maxSteps:=9999999) [iR,c2,w1,e1,e2,f5,f6,wt,wl,fg,al,tf]
theorem yp {b:List UInt8}(hl:b.length≤1048576):ah Ph aH 591 [aR (ag b)]=some (tf (tG b)):=by
 cases hb:b with
 |nil=>(refine aa (fn:=dS) rfl ?_;simp(maxSteps:=9999999) [dS,tG,mW,tf,ag])
 |cons c l=>
  rw[←hb]
  have hbl:b.length=l.length+1:=by rw[hb];rfl
  have f1:(ag b)[0]? =some [.int .u8 c.toNat]:=by rw[hb];rfl
  have f0:((b.length:Int)==0)=false:=beq_eq_false_iff_ne.2 (by omega)
  have f3:(1:Int)≤(b.length:Int):=by omega
  have f9:IntKind.i64.wrap 2=2:=rfl
  have f2:(ag b).tail.take (b.length-1)=ag l:=by rw[Zz (by simp[ag]),hb];rfl
  have u1:=uy c
  have wl:=eu l
  have wb:=eu b
  by_cases g:(c.toNat:Int)=2
  ·have e0:mW b=some ⟨2,0,l⟩:=by rw[hb];simp[mW,g]
   have ok:(⟨2,0,l⟩:XKey).Ok maxLen:=⟨by simp[ii],by simp[ii],by unfold maxLen;simp only;omega⟩
   rw[uK e0]
   have e2:=ez ok
   cases q:eW ⟨2,0,l⟩<;>rw[q]at e2<;>(refine aa (fn:=dS) rfl ?_;simp(maxSteps:=9999999) [dS,f0,f1,f2,f3,f9,u1,g,wl,wb,fg,al,e2,tf])
  ·have g':((c.toNat:Int)==2)=false:=beq_eq_false_iff_ne.2 g
   by_cases h6:l.length<6
   ·have e0:tG b=(⟨0,0,[]⟩,false):=by unfold tG;rw[hb,AB g h6]
    rw[e0]
    have c1:b9 (b.length:Int) 7=true:=d6 (by omega)
    refine aa (fn:=dS) rfl ?_
    simp(maxSteps:=9999999) [dS,f0,f1,f2,f3,u1,g',c1,wl,wb,al,tf]
   ·have e0:mW b=some (Mh c (l.take 6) (l.drop 6)):=by rw[hb,CN g (by omega)]
    have hT:(l.take 6).length=6:=by simp;omega
    have ok:=Rn (c:=c) hT (t:=l.drop 6) (by simp;omega)
    rw[uK e0]
    have c1:b9 (b.length:Int) 7=false:=fG (by omega)
    have e2:=ez ok
    have f5:((ag b).drop 7).take (b.length-7)=ag (l.drop 6):=by rw[hb];rw[Zz (by simp[ag])];simp[ag]
    have f6:(7:Int)≤(b.length:Int)∧7≤b.length:=by omega
    have f7:∀k x,(l.take 6)[k]? =some x→(ag b)[k+1]? =some [.int .u8 x.toNat]:=fun k x e=>by
     rw[List.getElem?_take]at e
     split at e
     ·rw[hb];simp[ag,e]
     ·cases e
    generalize l.take 6=T at*
    generalize l.drop 6=t at*
    have wt:=eu t
    refine aa (fn:=dS) rfl ?_
    simp(maxSteps:=9999999) [dS,f0,f1,f3,u1,g',c1,wb,al]
    refine bm bX Cl.fin [.t,.f,.t,.f,.t,.f,.t,.t,.f,.f,.f,.f,.f,.f,.f,.f,.f,.f,.f,.f,.f,.f,.f,.f,.f,.f,.f,.f,.f,.f,.f,.f,.f,.f,.f,.f,.f,.f,.f,.f,.f,.f,.f,.f,.f,.f,.f,.f,.f] (fun k=>[(6,ae .i64 (be (T.take k):Nat)),(7,ae .i64 ((k:Int)+1))]) 6 (fun _=>false) rfl (by simp[be]) (fun k hk _=> ?_) (fun _ _=> ?_)
    ·have hkT:k<T.length:=by omega
     have hk6:k<6:=hk
     have g1:=f7 k T[k] (Zl hkT)
     have c2:b9 ((k:Int)+1) 7=true:=d6 (by omega)
     have b1:=Hf hkT
     have b2:=Gr (l:=T) (k:=k) (by omega)
     obtain⟨s1,s2⟩:=Vh b2 hk6
     have u2:=uy T[k]
     have hx:=T[k].toNat_lt
     have w6:IntKind.i64.wrap ((k:Int)+1+1)=(k:Int)+1+1:=by rw[IntKind.wrap_i64];omega
     have w7:((k:Int)+1).toNat=k+1∧(0:Int)≤(k:Int)+1:=by omega
     have w8:=We s2 hx
     rw[←b1]at w8
     generalize be (T.take (k+1))=m at*
     generalize be (T.take k)=n at*
     generalize hn2:n*256=n2 at*
     generalize T[k].toNat=x at*
     simp(maxSteps:=9999999) [iW,g1,c2,s1,u2,w6,w7, ↓w8,al]
    ·have c2:b9 7 7=false:=rfl
     rw[Zz (by omega)]
     have b2:=Gr (l:=T) (k:=6) (by omega)
     rw[Zz (by omega)]at b2
     have w1:IntKind.i64.wrap ((be T:Int)-1000000000000)=(be T:Int)-1000000000000:=by rw[IntKind.wrap_i64];omega
     generalize eW (Mh c T t)=q at e2⊢
     simp only[Mh]at e2⊢
     cases q<;>simp(maxSteps:=9999999) [iW,c2,w1,e2,f5,f6,wt,wb,fg,al,tf]
def zO (s:List UInt8)(n:Nat)(a:Nat×List XField):Option (Nat×List XField):=if a.2.length<n then(match BY 8 (s.drop a.1)with
 |none=>none
 |some (d,k)=>match sB (s.drop (a.1+k))with
  |none=>none
  |some (x,j)=>some (a.1+k+j,a.2++[⟨d,x⟩]))else none
def UG (s:List UInt8)(n a0:Nat)(a:Nat×List XField):Prop:=a.1≤s.length∧a0≤a.1∧a.2.length≤n∧sW n (s.drop a0)=(sW (n-a.2.length) (s.drop a.1)).map fun p=>(a.2++p.1,a.1-a0+p.2)
theorem TO {s:List UInt8}{n a0:Nat}(h:a0≤s.length):UG s n a0 (a0,[]):=⟨h,Zk _,Nat.zero_le _,by
 show _=Option.map _ (sW n (s.drop a0))
 cases sW n (s.drop a0)<;>simp⟩
theorem J0 {s:List UInt8}{n a0:Nat}{a b:Nat×List XField}(ia:UG s n a0 a)(h:zO s n a=some b):∃d k x j,a.2.length<n∧BY 8 (s.drop a.1)=some (d,k)∧sB (s.drop (a.1+k))=some (x,j)∧b=(a.1+k+j,a.2++[⟨d,x⟩])∧
 d.length≤8∧x≤1000000000000∧a.1+k≤s.length∧s.length-b.1<s.length-a.1∧UG s n a0 b:=by
 obtain⟨h1,h2,h3,h4⟩:=ia
 unfold zO at h
 split at h
 ·rename_i hn
  split at h
  ·cases h
  ·rename_i d k e1
   split at h
   ·cases h
   ·rename_i x j e2
    cases h
    have q1:=jD (eL e1).1
    have q2:=kZ e2
    simp only[List.length_drop]at q1 q2
    refine⟨d,k,x,j,hn,e1,e2,rfl,(eL e1).2,q2.2.2,by omega,by simp only;omega,by simp only;omega,by simp only;omega,by simp only[Zp,Z0];omega,?_⟩
    obtain⟨m,hm⟩:∃m,n-a.2.length=m+1:=⟨n-a.2.length-1,by omega⟩
    have hm2:n-(a.2++[(⟨d,x⟩:XField)]).length=m:=by simp only[Zp,Z0];omega
    rw[h4,hm,hm2]
    simp only[sW,e1,List.drop_drop,e2]
    rw[←Nat.add_assoc]
    cases sW m (s.drop (a.1+k+j))with
    |none=>rfl
    |some p=>simp;omega
 ·cases h
theorem NC {s:List UInt8}{n a0:Nat}{a:Nat×List XField}(ia:UG s n a0 a)(h:zO s n a=none):
 (a.2.length=n∧sW n (s.drop a0)=some (a.2,a.1-a0))∨(a.2.length<n∧sW n (s.drop a0)=none∧(BY 8 (s.drop a.1)=none∨∃d k,BY 8 (s.drop a.1)=some (d,k)∧a.1+k≤s.length∧sB (s.drop (a.1+k))=none)):=by
 obtain⟨h1,h2,h3,h4⟩:=ia
 unfold zO at h
 split at h
 ·rename_i hn
  obtain⟨m,hm⟩:∃m,n-a.2.length=m+1:=⟨n-a.2.length-1,by omega⟩
  rw[hm]at h4
  split at h
  ·rename_i e1
   exact .inr ⟨hn,by rw[h4];simp[sW,e1], .inl e1⟩
  ·rename_i d k e1
   have q1:=jD (eL e1).1
   simp only[List.length_drop]at q1
   split at h
   ·rename_i e2
    exact .inr ⟨hn,by rw[h4];simp[sW,e1,List.drop_drop,e2], .inr ⟨d,k,e1,by omega,e2⟩⟩
   ·cases h
 ·have hn:a.2.length=n:=by omega
  refine .inl ⟨hn,?_⟩
  rw[h4,show n-a.2.length=0 by omega]
  simp[sW]
theorem Uv (D:List UInt8)(a:Nat):∃x y b,se D a=v3 x y b:=by
 unfold se
 split
 ·exact⟨_,_,_,rfl⟩
 ·exact⟨_,_,_,rfl⟩
def Ut :List XField→List AObj
 |[]=>[.box [.nil], .box [.nil]]
 |f::l=>[.box [.nil], .box [.arr 2], .arr 2 ((f::l).map XField.e)]
theorem sV (l:List XField):(l=[]∧Ut l=[.box [.nil], .box [.nil]])∨(l≠[]∧Ut l=[.box [.nil], .box [.arr 2], .arr 2 (l.map XField.e)]):=by
 cases l with
 |nil=>exact .inl ⟨rfl,rfl⟩
 |cons f l=>exact .inr ⟨by simp,rfl⟩
theorem KH (l:List XField)(f:XField):Ut (l++[f])=[.box [.nil], .box [.arr 2], .arr 2 (l.map XField.e++[f.e])]:=by
 rcases sV (l++[f])with⟨h,_⟩|⟨_,h⟩
 ·simp at h
 ·rw[h];simp
theorem SH {rows:List (List PV)}(h:rows≠[]):lf rows= .pv (.lst rows):=by
 cases rows with
 |nil=>exact absurd rfl h
 |cons r rs=>rfl
theorem lZ :lf []= .nil:=rfl
def rE (p:XRecord×Bool):V:= .tup [(true,[lf (p.1.fs.map XField.e)]),(false,[.pv (.bool p.2)])]
theorem Hp {b:List UInt8}(h:KN b=none):u0 b=(⟨[]⟩,false):=by unfold u0;rw[h]
theorem TU {b:List UInt8}{n k:Nat}(h:sB b=some (n,k))(hf:sW n (b.drop k)=none):KN b=none:=by unfold KN;rw[h];simp only[hf];split<;>rfl
theorem TT {b:List UInt8}{n k:Nat}(h:sB b=some (n,k))(hf:¬n≤6):KN b=none:=by unfold KN;rw[h];simp only[if_neg hf]
theorem TV {b:List UInt8}{n k k2:Nat}{l:List XField}(h:sB b=some (n,k))(hn:n≤6)(hf:sW n (b.drop k)=some (l,k2)):KN b=some (⟨l⟩,k+k2):=by unfold KN;rw[h];simp only[if_pos hn,hf]
theorem RN {n k:Nat}{b:List UInt8}{l:List XField}(h:sW n b=some (l,k))(hn:n≤6):(⟨l⟩:XRecord).Ok maxLen:=by
 obtain⟨_,_,h2,h3⟩:=wE _ _ _ _ h
 refine⟨by simp only;unfold maxLen;omega,fun f m=> ?_⟩
 obtain⟨q1,q2,q3⟩:=h3 f m
 exact⟨by unfold maxLen;omega,by unfold ii;omega⟩
theorem SQ {b:List UInt8}{r:XRecord}{k:Nat}(h:KN b=some (r,k)):u0 b=if kA r==b then(r,true)else(⟨[]⟩,false):=by
 have e:=QZ h
 unfold u0
 rw[h]
 by_cases c:kA r=b
 ·have:=e.1 c
  simp[c,this]
 ·have:¬(k=b.length∧cP r.fs=true):=fun q=>c (e.2 ⟨q.2,q.1⟩)
  rw[if_neg (by simpa using c)]
  simp only[if_neg this]
theorem tP {b:List UInt8}(hl:b.length≤1048576):ah Ph aH 582 [aR (ag b)]=some (rE (u0 b)):=by
 have e1:ah Ph aH 579 [aR (ag b),ae .i64 0]=some (se b 0):=cR hl (a:=0) (by omega)
 cases e:sB b with
 |none=>
  have e0:u0 b=(⟨[]⟩,false):=Hp (by unfold KN;rw[e])
  rw[e0]
  simp only[se,e]at e1
  refine aa (fn:=dW) rfl ?_
  simp(maxSteps:=9999999) [dW,e1,rE,lZ]
 |some p=>
  obtain⟨n,k⟩:=p
  simp only[se,e,Nat.zero_add]at e1
  obtain⟨k1,k2,k3⟩:=kZ e
  have b1:b9 6 (n:Int)=decide (6<n):=decide_eq_decide.2 (by omega)
  by_cases hn:n≤6
  rotate_left
  ·have d1:6<n:=by omega
   rw[Hp (TT e hn)]
   refine aa (fn:=dW) rfl ?_
   simp(maxSteps:=9999999) [dW,e1,b1,d1,rE,lZ]
  have d1:¬6<n:=by omega
  refine aa (fn:=dW) rfl ?_
  simp(maxSteps:=9999999) [dW,e1,b1,d1]
  refine oC bX Cl.fin [.t,.f,.t,.f,.t,.t,.f,.t,.t,.f,.f,.f,.f,.f,.f,.f,.f,.f,.f,.f,.f,.f,.f,.f,.f,.f,.f,.f,.f,.f,.f,.f,.f,.f,.f,.f,.f,.f,.f,.f,.f,.f,.f,.f,.f,.f,.f,.f,.f,.f,.f,.f,.f,.f,.f,.f,.f,.f,.f,.f,.f,.f,.f,.f,.f,.f,.f,.f,.f,.f,.f,.f] (fun a=>[(5,ae .i64 (a.1:Nat)),(8,ae .i64 (a.2.length:Nat))]) (fun a=>Ut a.2) (zO b n) (fun a=>b.length-a.1) (UG b n k) (k,[]) (TO k2) rfl (by simp[Ut]) (fun a a' ia ha=> ?_) (fun a ia ha=> ?_)
  ·obtain⟨a,l⟩:=a
   obtain⟨d,kk,x,j,q0,q1,q2,rfl,q3,q4,q5,q6,q7⟩:=J0 ia ha
   refine⟨q6,q7,?_⟩
   have h1:=ia.1
   simp only at h1 q0 q1 q2 q5⊢
   have r1:ah Ph aH 578 [aR (ag b),ae .i64 a,ae .i64 8]=some (sA (b.drop a) a 8):=cK hl h1 (m:=8) (by omega)
   have r2:=cR hl (a:=a+kk) (by omega)
   rw[Int.natCast_add]at r2
   simp only[sA,q1]at r1
   simp only[se,q2]at r2
   have c1:b9 (l.length:Int) (n:Int)=true:=d6 (by omega)
   have w1:IntKind.i64.wrap ((l.length:Int)+1)=(l.length:Int)+1:=by rw[IntKind.wrap_i64];omega
   have m1:=gx (m:=l.length+1) (z:=24) (by omega) (by omega)
   rw[KH]
   have hl2:(l++[(⟨d,x⟩:XField)]).length=l.length+1:=by simp
   rw[hl2]
   rcases sV l with⟨rfl,hH⟩|⟨_,hH⟩<;>rw[hH]
   ·have c0:b9 0 (n:Int)=true:=d6 (by simp at q0;omega)
    simp(maxSteps:=9999999) [dd,r1,r2,c0,mR,fg,XField.e.eq_1,al,-bY]
    exact Kn.of [0,1,3] (by decide) (by simp) (by simp)
   ·have hW:(l.map XField.e).length=l.length:=by simp
    generalize l.map XField.e=W at*
    simp(maxSteps:=9999999) [dd,r1,r2,c1,w1,m1,hW,fg,XField.e.eq_1,al,-bY]
    exact Kn.of [0,1,4] (by decide) (by simp) (by simp)
  ·obtain⟨a,l⟩:=a
   have h1:=ia.1
   simp only at h1⊢
   have c1:b9 (l.length:Int) (n:Int)=decide (l.length<n):=decide_eq_decide.2 (by omega)
   have c0:b9 0 (n:Int)=decide (0<n):=decide_eq_decide.2 (by omega)
   rcases NC ia ha with⟨g1,g2⟩|⟨g1,g2,g3⟩
   ·simp only at g1 g2
    have c2:¬l.length<n:=by omega
    have e3:=TV e hn g2
    rw[SQ e3]
    have ok:=RN g2 hn
    have e4:ah Ph aH 226 [.agg [.pv (.lst (l.map XField.e))]]=some (tg ⟨l⟩):=jP ok
    have e5:=jb (a:=kA ⟨l⟩) (b:=b) (by have:=tH ⟨l⟩;unfold maxLen;omega)
    have e6:=qb ⟨l⟩
    generalize tg ⟨l⟩=ev at*
    generalize (kA ⟨l⟩==b)=q at*
    generalize kA ⟨l⟩=en at*
    rcases sV l with⟨rfl,hH⟩|⟨hne,hH⟩<;>rw[hH]
    ·simp only[Z4]at e4
     cases q<;>simp(maxSteps:=9999999) [dd,c0,c1,c2,g1,e4,e5, ↓e6,rE,lZ]
    ·have hz:=SH (by simpa using hne:l.map XField.e≠[])
     cases q<;>simp(maxSteps:=9999999) [dd,c1,c2,g1,e4,e5, ↓e6,rE,hz,lZ]
   ·simp only at g1 g2 g3
    have g0:0<n:=by omega
    rw[Hp (TU e g2)]
    have r1:ah Ph aH 578 [aR (ag b),ae .i64 a,ae .i64 8]=some (sA (b.drop a) a 8):=cK hl h1 (m:=8) (by omega)
    rcases g3 with g3|⟨d,kk,g3,g4,g5⟩
    ·have r2:ah Ph aH 579 [aR (ag b),ae .i64 0]=some (se b 0):=cR hl (a:=0) (by omega)
     obtain⟨x,y,z,hz⟩:=Uv b 0
     rw[hz]at r2
     simp only[sA,g3]at r1
     rcases sV l with⟨rfl,hH⟩|⟨_,hH⟩<;>rw[hH]<;>simp(maxSteps:=9999999) [dd,c0,c1,g1,g0,r1,r2,al,rE,lZ]
    ·have r2:=cR hl (a:=a+kk) (by omega)
     rw[Int.natCast_add]at r2
     simp only[sA,g3]at r1
     simp only[se,g5]at r2
     rcases sV l with⟨rfl,hH⟩|⟨_,hH⟩<;>rw[hH]<;>simp(maxSteps:=9999999) [dd,c0,c1,g1,g0,r1,r2,al,rE,lZ]
def PC (b:List UInt8):V:=match KN b with
 |none=> .tup [(true,[.nil]),(false,[.pv (.int .i64 0)]),(false,[.pv (.bool false)])]
 |some (r,k)=> .tup [(true,[oR 2 (r.fs.map XField.e)]),(false,[.pv (.int .i64 (k:Nat))]),(false,[.pv (.bool (cP r.fs))])]
theorem RE {z:Nat}:oR z []= .nil:=rfl
theorem To {z:Nat}{rows:List (List PV)}(h:rows≠[]):oR z rows= .own z rows:=by
 cases rows with
 |nil=>exact absurd rfl h
 |cons r rs=>rfl
theorem H8 {b:List UInt8}(h:KN b=none):PC b= .tup [(true,[.nil]),(false,[.pv (.int .i64 0)]),(false,[.pv (.bool false)])]:=by unfold PC;rw[h]
theorem EE {b:List UInt8}(hl:b.length≤1048576):ah Ph aH 600 [aR (ag b),ae .i64 0]=some (PC b):=by
 have e1:ah Ph aH 573 [aR (ag b),ae .i64 0]=some (se b 0):=dy hl (a:=0) (by omega)
 cases e:sB b with
 |none=>
  rw[H8 (by unfold KN;rw[e])]
  simp only[se,e]at e1
  refine aa (fn:=ib) rfl ?_
  simp(maxSteps:=9999999) [ib,e1]
 |some p=>
  obtain⟨n,k⟩:=p
  simp only[se,e,Nat.zero_add]at e1
  obtain⟨k1,k2,k3⟩:=kZ e
  have b1:b9 6 (n:Int)=decide (6<n):=decide_eq_decide.2 (by omega)
  by_cases hn:n≤6
  rotate_left
  ·have d1:6<n:=by omega
   rw[H8 (TT e hn)]
   refine aa (fn:=ib) rfl ?_
   simp(maxSteps:=9999999) [ib,e1,b1,d1]
  have d1:¬6<n:=by omega
  refine aa (fn:=ib) rfl ?_
  simp(maxSteps:=9999999) [ib,e1,b1,d1]
  refine oC bX Cl.fin [.t,.f,.f,.f,.t,.f,.f,.t,.t,.f,.t,.t,.f,.f,.f,.f,.f,.f,.f,.f,.f,.f,.f,.f,.f,.f,.f,.f,.f,.f,.f,.f,.f,.f,.f,.f,.f,.f,.f,.f,.f,.f,.f,.f,.f,.f,.f,.f,.f,.f,.f,.f,.f,.f,.f,.f,.f,.f,.f,.f,.f,.f,.f,.f,.f,.f,.f,.f,.f,.f,.f,.f] (fun a=>[(8,ae .i64 (a.1:Nat)),(11,ae .i64 (a.2.length:Nat))]) (fun a=>Ut a.2) (zO b n) (fun a=>b.length-a.1) (UG b n k) (k,[]) (TO k2) rfl (by simp[Ut]) (fun a a' ia ha=> ?_) (fun a ia ha=> ?_)
  ·obtain⟨a,l⟩:=a
   obtain⟨d,kk,x,j,q0,q1,q2,rfl,q3,q4,q5,q6,q7⟩:=J0 ia ha
   refine⟨q6,q7,?_⟩
   have h1:=ia.1
   simp only at h1 q0 q1 q2 q5⊢
   have r1:ah Ph aH 572 [aR (ag b),ae .i64 a,ae .i64 8]=some (sA (b.drop a) a 8):=dY hl h1 (m:=8) (by omega)
   have r2:=dy hl (a:=a+kk) (by omega)
   rw[Int.natCast_add]at r2
   simp only[sA,q1]at r1
   simp only[se,q2]at r2
   have c1:b9 (l.length:Int) (n:Int)=true:=d6 (by omega)
   have w1:IntKind.i64.wrap ((l.length:Int)+1)=(l.length:Int)+1:=by rw[IntKind.wrap_i64];omega
   have m1:=gx (m:=l.length+1) (z:=24) (by omega) (by omega)
   rw[KH]
   have hl2:(l++[(⟨d,x⟩:XField)]).length=l.length+1:=by simp
   rw[hl2]
   rcases sV l with⟨rfl,hH⟩|⟨_,hH⟩<;>rw[hH]
   ·have c0:b9 0 (n:Int)=true:=d6 (by simp at q0;omega)
    simp(maxSteps:=9999999) [eT,r1,r2,c0,mR,fg,XField.e.eq_1,al,-bY]
    exact Kn.of [0,1,3] (by decide) (by simp) (by simp)
   ·have hW:(l.map XField.e).length=l.length:=by simp
    generalize l.map XField.e=W at*
    simp(maxSteps:=9999999) [eT,r1,r2,c1,w1,m1,hW,fg,XField.e.eq_1,al,-bY]
    exact Kn.of [0,1,4] (by decide) (by simp) (by simp)
  ·obtain⟨a,l⟩:=a
   have h1:=ia.1
   have h0:=ia.2.1
   simp only at h0 h1⊢
   have c1:b9 (l.length:Int) (n:Int)=decide (l.length<n):=decide_eq_decide.2 (by omega)
   have c0:b9 0 (n:Int)=decide (0<n):=decide_eq_decide.2 (by omega)
   rcases NC ia ha with⟨g1,g2⟩|⟨g1,g2,g3⟩
   ·simp only at g1 g2
    have c2:¬l.length<n:=by omega
    have e3:=TV e hn g2
    have ok:=RN g2 hn
    have e4:ah Ph aH 243 [.agg [.pv (.lst (l.map XField.e))]]=some (aF (cP l)):=fj ok
    have e5:PC b= .tup [(true,[oR 2 (l.map XField.e)]),(false,[.pv (.int .i64 (a:Int))]),(false,[.pv (.bool (cP l))])]:=by
     unfold PC;rw[e3];simp;omega
    rw[e5]
    generalize cP l=q at*
    rcases sV l with⟨rfl,hH⟩|⟨hne,hH⟩<;>rw[hH]
    ·simp only[Z4]at e4
     simp(maxSteps:=9999999) [eT,c0,c1,c2,g1,e4,RE]
    ·have hz:=To (z:=2) (by simpa using hne:l.map XField.e≠[])
     rw[hz]
     generalize l.map XField.e=W at*
     simp(maxSteps:=9999999) [eT,c1,c2,g1,e4]
   ·simp only at g1 g2 g3
    have g0:0<n:=by omega
    rw[H8 (TU e g2)]
    have r1:ah Ph aH 572 [aR (ag b),ae .i64 a,ae .i64 8]=some (sA (b.drop a) a 8):=dY hl h1 (m:=8) (by omega)
    rcases g3 with g3|⟨d,kk,g3,g4,g5⟩
    ·simp only[sA,g3]at r1
     rcases sV l with⟨rfl,hH⟩|⟨_,hH⟩<;>rw[hH]<;>simp(maxSteps:=9999999) [eT,c0,c1,g1,g0,r1,al]
    ·have r2:=dy hl (a:=a+kk) (by omega)
     rw[Int.natCast_add]at r2
     simp only[sA,g3]at r1
     simp only[se,g5]at r2
     rcases sV l with⟨rfl,hH⟩|⟨_,hH⟩<;>rw[hH]<;>simp(maxSteps:=9999999) [eT,c0,c1,g1,g0,r1,r2,al]
theorem uf {b:List UInt8}(hl:b.length≤1048576):ah Ph aH 592 [aR (ag b)]=some (rE (u0 b)):=by
 have e1:=EE hl
 cases e:KN b with
 |none=>
  rw[Hp e]
  rw[H8 e]at e1
  refine aa (fn:=dX) rfl ?_
  simp(maxSteps:=9999999) [dX,e1,rE,lZ]
 |some p=>
  obtain⟨r,k⟩:=p
  unfold PC at e1
  rw[e]at e1
  simp only at e1
  have e2:u0 b=if k=b.length∧cP r.fs=true then(r,true)else(⟨[]⟩,false):=by unfold u0;rw[e]
  have b1:((k:Int)==(b.length:Int))=decide (k=b.length):=by rw[Bool.eq_iff_iff];simp;omega
  rw[e2]
  generalize hq:cP r.fs=q at*
  by_cases c:k=b.length
  ·cases q<;>(refine aa (fn:=dX) rfl ?_;simp(maxSteps:=9999999) [dX,e1,b1,c, ↓aY, ↓aj, ↓av, ↓au,al,rE,lZ])
  ·cases q<;>(refine aa (fn:=dX) rfl ?_;simp(maxSteps:=9999999) [dX,e1,b1,c, ↓aY, ↓aj, ↓av, ↓au,al,rE,lZ])
end Gi
