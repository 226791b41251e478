/- Of this proof. -/
import Derived.Test.YtgmnakghjemjlaaGreatGkr
import Derived.Test.YtgmnakghjemjlaaGreatGxt
set_option linter.unusedSimpArgs false
set_option linter.unusedVariables false
namespace Gi
open Go Go.RowKit
set_option maxHeartbeats 8000000
set_option maxRecDepth 4000
attribute [local simp] bu sQ bg bX ep fZ ej fY f8 f7 uP uY uQ uZ uR u0 uS vd uT ve uU vf uV vg uW vh uX vi V.cells plain bn f9 isInt isStr isBool bin cW jN cX jO f4 un asList L.view ap V.view viewL aS av da cf bP comp aK bt dz ct bI bG bH bO bj cz aX bK aQ aY bM cB bL bJ bN V.flat L.flat dL du bA putAt thaw thawL thawT V.ow f6 ew ez cY f5 cZ eu freezeVs freezeLs freezeL V.mut L.mut aJ fq i7 aM be aE dq bE bi bS L.ren aU dM cj dQ bT bC wp_seq wp_block bF eB db cg dd wp_skip wp_exit wp_ret cN cM cS cO dj dk di cq aW L.notArr aP aN aO eA bo storeD bc fR br cE bf nE L.mov L.closed V.closed PV.bare PV.flat
theorem QW (m:Nat):kN .shr .i64 (m:Int) 7=some (aa .i64 ((m:Int)/128)):=by
 have e:(min (Int.toNat 7) IntKind.i64.bits)=7:=by decide
 simp only[kN]
 rw[if_neg (by omega)]
 simp only[e]
 rw[show((2:Int)^7)=128 by decide,Int.fdiv_eq_ediv_of_nonneg _ (by omega)]
theorem iM {b:List UInt8}(hb:b.length≤1048000){n:Nat}(hn:n≤1000000000000):ag Ph aG 244 [bv (al b),aa .i64 (n:Int)]=some (.one (.own 1 (al (b++qd n)))):=by
 have e1:rg (n:Int) 0 1000000000000=true:=CP.2 ⟨by omega,by omega⟩
 have e2:=bq (n:Int) 0 1000000000000
 rw[e1]at e2
 have w1:=iD b
 have m0:b.length≤140737488355328∧b.length≤9223372036854775807:=by omega
 refine ae (fn:=jd) rfl ?_
 simp(maxSteps:=9999999) [jd,e2,w1,m0,bp]
 refine N9 aR Cl.fin [.f,.t,.f,.f,.f,.t,.f,.f,.f,.f,.f,.f,.f,.f,.f,.f,.f,.f,.f,.f,.f,.f,.f,.f,.f,.f,.f,.f,.f] (fun a=>[(1,aa .i64 (a.2.1:Nat)),(5, .one (.arr 0))]) (fun a=>[.arr 1 (al a.2.2)]) yP (fun a=>a.2.1) (Qr b (b++qd n)) (5,n,b) ⟨by show n<128^6;omega,rfl,by simp,hn⟩ rfl (Kn.of [1] (by decide) (by simp) (by simp)) (fun a a' ia ha=> ?_) (fun a ia ha=> ?_)
 ·obtain⟨f,m,o⟩:=a
  obtain⟨hm,hi,rfl⟩:=IN ia ha
  obtain⟨_,_,hl,hmx⟩:=ia
  simp only at hl hmx
  have hlt:dK (m:Int) 128=false:=wv (by omega)
  have hlt2:dK 127 (m:Int)=true:=lL (by omega)
  have q:=GN (n:=m%128+128) (by omega)
  have m1:o.length≤140737488355327∧o.length≤9223372036854775806:=by omega
  have m2:=eR (m:=o.length+1) (z:=1) (by omega) (by omega)
  have r1:=Pm (n:=m) (by omega)
  have r2:=QW m
  have r3:=Ql (n:=m%128) (by omega)
  have e:((m%128:Nat):Int)=(m:Int)%128:=by omega
  have e':((m%128+128:Nat):Int)=(m:Int)%128+128:=by omega
  rw[e]at r1 r3
  rw[e']at r3
  have r4:IntKind.i64.wrap ((m:Int)/128)=(m:Int)/128:=by rw[IntKind.wrap_i64];omega
  have r5:IntKind.u8.wrap ((m:Int)%128+128)=(m:Int)%128+128:=by have:=q.1;simpa using this
  have r6:((m:Int)%128+128)%256=(m:Int)%128+128:=by omega
  refine⟨by show m/128<m;omega,hi,?_⟩
  simp(maxSteps:=9999999) [fJ,hlt,hlt2, ↓r1,r2, ↓r3,r4,r5,m1,m2,js,bp,-fq]
  exact Kn.of [2] (by decide) (by simp[js,r5,r6]) (by simp[r4])
 ·obtain⟨f,m,o⟩:=a
  obtain⟨hm,hi⟩:=KX ia ha
  obtain⟨_,_,hl,hmx⟩:=ia
  simp only at hl hmx
  have hlt:dK (m:Int) 128=true:=lL (by omega)
  have hlt2:dK 127 (m:Int)=false:=wv (by omega)
  have q:=GN (n:=m) (by omega)
  have m1:o.length≤140737488355327∧o.length≤9223372036854775806:=by omega
  have m2:=eR (m:=o.length+1) (z:=1) (by omega) (by omega)
  rw[←hi]
  simp(maxSteps:=9999999) [fJ,hlt,hlt2,q,m1,m2,js,bp]
theorem zj (s u:List UInt8):al (s++u)=al s++al u:=by simp[al]
theorem sV {b s:List UInt8}(hb:b.length≤1048000)(hs:s.length≤1048576):ag Ph aG 248 [bv (al b),bv (al s)]=some (.one (.own 1 (al (b++GT s)))):=by
 have e1:=iK hb (n:=s.length) (by omega)
 have w1:=iD s
 have hl:=qE s.length
 have m1:b.length+(qd s.length).length+s.length≤140737488355328∧b.length+(qd s.length).length+s.length≤9223372036854775807:=by omega
 rw[show b++GT s=(b++qd s.length)++s by simp[GT]]
 have e:al ((b++qd s.length)++s)=al (b++qd s.length)++al s:=zj _ _
 rw[e]
 refine ae (fn:=kd) rfl ?_
 simp(maxSteps:=9999999) [kd,e1,w1,m1,bp]
theorem tf {b s:List UInt8}(hb:b.length≤1048000)(hs:s.length≤1048576):ag Ph aG 245 [bv (al b),bv (al s)]=some (.one (.own 1 (al (b++GT s)))):=by
 have e1:=iM hb (n:=s.length) (by omega)
 have w1:=iD s
 have hl:=qE s.length
 have m1:b.length+(qd s.length).length+s.length≤140737488355328∧b.length+(qd s.length).length+s.length≤9223372036854775807:=by omega
 rw[show b++GT s=(b++qd s.length)++s by simp[GT]]
 have e:al ((b++qd s.length)++s)=al (b++qd s.length)++al s:=zj _ _
 rw[e]
 refine ae (fn:=kA) rfl ?_
 simp(maxSteps:=9999999) [kA,e1,w1,m1,bp]
def yY (r:XRecord):V:=cond (ng r.fs) (bv (al (qL r))) (.one (.own 1 []))
theorem CS (r:XRecord):dL (yY r)=bv (al (qL r)):=by
 unfold yY
 cases c:ng r.fs
 ·simp[qL,c,dL,du,al]
 ·rfl
theorem rn {r:XRecord}(h:r.Ok maxLen):ag Ph aG 226 [r.v]=some (yY r):=by
 have e1:=pQ h
 unfold yY
 refine ae (fn:=gJ) rfl ?_
 cases c1:ng r.fs<;>rw[c1]at e1
 ·simp(maxSteps:=9999999) [gJ,e1]
 obtain⟨hf,ho⟩:=yB (r:=r) c1
 have e2:=iK (b:=[]) (by simp) (n:=r.fs.length) (by omega)
 rw[List.nil_append,show al []=[]from rfl]at e2
 simp(maxSteps:=9999999) [gJ,e1,e2]
 refine aB aR Cl.fin [.f,.f,.f,.t,.f,.f,.f,.f,.f,.f,.f,.f,.f,.f,.f,.t,.t,.t,.f,.f,.f,.f,.f,.f,.f,.f,.f,.f,.f,.f,.f] (fun k=>[(3,bv (al (qd r.fs.length++hY (r.fs.take k)))),(17,aa .i64 k)]) r.fs.length (fun _=>false) rfl (by simp[hY]) (fun k hk _=> ?_) (fun _ _=> ?_)
 ·have hx:=XField.e.eq_1 r.fs[k]
  have hq:=ho _ (List.getElem_mem hk)
  have l1:=qE r.fs.length
  have l2:=sB (r.fs.take k) (fun f hf=>ho f (List.mem_of_mem_take hf))
  have l3:(r.fs.take k).length≤6:=by rw[List.length_take];omega
  have l4:=qE r.fs[k].name.length
  have e3:=sV (b:=qd r.fs.length++hY (r.fs.take k)) (s:=r.fs[k].name) (by rw[List.length_append];omega) (by have:=hq.1;omega)
  have e4:=iK (b:=qd r.fs.length++hY (r.fs.take k)++GT r.fs[k].name) (by simp only[List.length_append,GT];have:=hq.1;omega) (n:=r.fs[k].n.toNat) (by have:=hq.2.2;omega)
  rw[show((r.fs[k].n.toNat:Nat):Int)=r.fs[k].n by have:=hq.2.1;omega]at e4
  have ht:hY (r.fs.take (k+1))=hY (r.fs.take k)++(GT r.fs[k].name++qd r.fs[k].n.toNat):=by
   unfold hY;rw[List.take_succ_eq_append_getElem hk,List.flatMap_append];simp[Oo]
  have ha:qd r.fs.length++hY (r.fs.take (k+1))=qd r.fs.length++hY (r.fs.take k)++GT r.fs[k].name++qd r.fs[k].n.toNat:=by rw[ht];simp
  rw[ha]
  generalize qd r.fs.length++hY (r.fs.take k)=W at e3 e4⊢
  generalize W++GT r.fs[k].name=W2 at e3 e4⊢
  generalize W2++qd r.fs[k].n.toNat=W3 at e4⊢
  simp(maxSteps:=9999999) [fU,hk,hx,e3,e4,aF h.1 hk,aV hk]
 ·have he:qL r=qd r.fs.length++hY r.fs:=by simp[qL,c1]
  rw[he]
  simp(maxSteps:=9999999) [fU]
theorem r7 {r:XRecord}(h:r.Ok maxLen):ag Ph aG 222 [r.v]=some (yY r):=by
 have e1:=p4 h
 unfold yY
 refine ae (fn:=gK) rfl ?_
 cases c1:ng r.fs<;>rw[c1]at e1
 ·simp(maxSteps:=9999999) [gK,e1]
 obtain⟨hf,ho⟩:=yB (r:=r) c1
 have e2:=iM (b:=[]) (by simp) (n:=r.fs.length) (by omega)
 rw[List.nil_append,show al []=[]from rfl]at e2
 simp(maxSteps:=9999999) [gK,e1,e2]
 refine aB aR Cl.fin [.f,.t,.f,.t,.t,.f,.f,.f,.f,.f,.f,.f,.f,.f,.f,.f,.f,.f,.f,.f,.f,.f,.f,.f,.f,.f,.f,.f,.f,.f,.f,.f,.f,.f,.f,.f,.f,.f] (fun k=>[(3,bv (al (qd r.fs.length++hY (r.fs.take k)))),(4,aa .i64 k)]) r.fs.length (fun _=>false) rfl (by simp[hY]) (fun k hk _=> ?_) (fun _ _=> ?_)
 ·have hx:=XField.e.eq_1 r.fs[k]
  have hq:=ho _ (List.getElem_mem hk)
  have l1:=qE r.fs.length
  have l2:=sB (r.fs.take k) (fun f hf=>ho f (List.mem_of_mem_take hf))
  have l3:(r.fs.take k).length≤6:=by rw[List.length_take];omega
  have l4:=qE r.fs[k].name.length
  have e3:=tf (b:=qd r.fs.length++hY (r.fs.take k)) (s:=r.fs[k].name) (by rw[List.length_append];omega) (by have:=hq.1;omega)
  have e4:=iM (b:=qd r.fs.length++hY (r.fs.take k)++GT r.fs[k].name) (by simp only[List.length_append,GT];have:=hq.1;omega) (n:=r.fs[k].n.toNat) (by have:=hq.2.2;omega)
  rw[show((r.fs[k].n.toNat:Nat):Int)=r.fs[k].n by have:=hq.2.1;omega]at e4
  have ht:hY (r.fs.take (k+1))=hY (r.fs.take k)++(GT r.fs[k].name++qd r.fs[k].n.toNat):=by
   unfold hY;rw[List.take_succ_eq_append_getElem hk,List.flatMap_append];simp[Oo]
  have ha:qd r.fs.length++hY (r.fs.take (k+1))=qd r.fs.length++hY (r.fs.take k)++GT r.fs[k].name++qd r.fs[k].n.toNat:=by rw[ht];simp
  rw[ha]
  generalize qd r.fs.length++hY (r.fs.take k)=W at e3 e4⊢
  generalize W++GT r.fs[k].name=W2 at e3 e4⊢
  generalize W2++qd r.fs[k].n.toNat=W3 at e4⊢
  simp(maxSteps:=9999999) [fW,hk,hx,e3,e4,aF h.1 hk,aV hk]
 ·have he:qL r=qd r.fs.length++hY r.fs:=by simp[qL,c1]
  rw[he]
  simp(maxSteps:=9999999) [fW]
theorem K2 {n:Int}(h1: -9223372036854775808≤n)(h2:n≤9223372036854775807):IntKind.i64.wrap n=n:=by rw[IntKind.wrap_i64];omega
theorem wrap_u8 (n:Int):IntKind.u8.wrap n=n%256:=by simp[IntKind.wrap,IntKind.signed,IntKind.bits]
theorem Az {x:Nat}{b:Int}{k:Nat}(hk:k≤63)(h:b=(k:Int)):kN .shr .i64 (x:Int) b=some (aa .i64 ((x/2^k:Nat):Int)):=by
 subst h
 simp only[kN]
 rw[if_neg (by omega),show min (Int.toNat (k:Int)) IntKind.i64.bits=k by rw[Int.toNat_natCast];exact Nat.min_eq_left (Nat.le_succ_of_le hk)]
 rw[Int.fdiv_eq_ediv_of_nonneg _ (Int.le_of_lt (Int.pow_pos (by decide)))]
 norm_cast
theorem wb {k:XKey}(h:k.Ok maxLen):ag Ph aG 225 [k.v]=some (.one (.own 1 (al (kS k)))):=by
 have e1:=mB h
 refine ae (fn:=gR) rfl ?_
 cases c1:pT k<;>rw[c1]at e1
 ·rw[show kS k=[] by simp[kS,c1]]
  simp(maxSteps:=9999999) [gR,e1,show al []=[]from rfl]
 obtain⟨h1,h2,h3,h4,h5,h6⟩:=yt c1
 have m1:1+k.text.length≤140737488355328∧1+k.text.length≤9223372036854775807∧7+k.text.length≤140737488355328∧7+k.text.length≤9223372036854775807∧k.text.length+7≤140737488355328∧k.text.length+7≤9223372036854775807:=by omega
 have hk:k.kind%256=k.kind:=by omega
 obtain⟨x,hx⟩:∃x:Nat,k.n+1000000000000=(x:Int):=⟨(k.n+1000000000000).toNat,by omega⟩
 have hw:IntKind.i64.wrap (k.n+1000000000000)=(x:Int):=by rw[hx,IntKind.wrap_i64];omega
 have s0:=Az (x:=x) (b:=0) (k:=0) (by decide) rfl
 have s1:=Az (x:=x) (b:=8) (k:=8) (by decide) rfl
 have s2:=Az (x:=x) (b:=16) (k:=16) (by decide) rfl
 have s3:=Az (x:=x) (b:=24) (k:=24) (by decide) rfl
 have s4:=Az (x:=x) (b:=32) (k:=32) (by decide) rfl
 have s5:=Az (x:=x) (b:=40) (k:=40) (by decide) rfl
 have lt:dK 5 0=false∧dK 4 0=false∧dK 3 0=false∧dK 2 0=false∧dK 1 0=false∧dK 0 0=false∧dK (-1) 0=true:=by decide
 have hkb:(UInt8.ofNat k.kind.toNat).toNat=k.kind.toNat:=by simp;omega
 have hkt:((k.kind.toNat:Nat):Int)=k.kind:=by omega
 have w1:=iD k.text
 by_cases hq:k.kind=2
 ·have he:al (kS k)=[.int .u8 k.kind]::al k.text:=by
   rw[show kS k=UInt8.ofNat k.kind.toNat::k.text by simp[kS,c1,hq]]
   simp only[al,List.map_cons,hkb,hkt]
  rw[he]
  have hb:(k.kind==2)=true:=by simp[hq]
  simp(maxSteps:=9999999) [gR,e1,hb,hk,wrap_u8,m1,w1,bp,wX,ie,lt]
 ·have he:al (kS k)=[.int .u8 k.kind]::([.int .u8 ((x/2^40:Nat)%256:Int)]::[.int .u8 ((x/2^32:Nat)%256:Int)]::[.int .u8 ((x/2^24:Nat)%256:Int)]::[.int .u8 ((x/2^16:Nat)%256:Int)]::[.int .u8 ((x/2^8:Nat)%256:Int)]::[.int .u8 ((x/2^0:Nat)%256:Int)]::al k.text):=by
   rw[show kS k=UInt8.ofNat k.kind.toNat::(PO x++k.text) by simp[kS,c1,hq,hx]]
   simp[al,PO,hkb,hkt]
  rw[he]
  have hb:(k.kind==2)=false:=by simp[hq]
  simp(maxSteps:=9999999) [gR,e1,hb,hk,hw,wrap_u8,K2,s0,s1,s2,s3,s4,s5,m1,w1,bp,lt,wX,ie]
theorem Pn {n:Nat}:IntKind.i64.wrap ((BitVec.ofInt IntKind.i64.bits (n:Int)&&&BitVec.ofInt IntKind.i64.bits 255).toNat:Int)=(n:Int)%256:=by
 have e1:(BitVec.ofInt IntKind.i64.bits (n:Int)).toNat=n%2^64:=by
  show(BitVec.ofInt 64 (n:Int)).toNat=n%2^64
  simp[BitVec.toNat_ofInt]
 have e2:(BitVec.ofInt IntKind.i64.bits 255).toNat=255:=by decide
 rw[BitVec.toNat_and,e1,e2,show(255:Nat)=2^8-1 from rfl,Nat.and_two_pow_sub_one_eq_mod]
 rw[IntKind.wrap_i64];omega
theorem so (y:Nat):IntKind.i64.wrap (((((y:Int)%2^IntKind.i64.bits).toNat&&&255%2^IntKind.i64.bits:Nat)):Int)%256=(y:Int)%256:=by
 have h:=Pn (n:=y)
 rw[BitVec.toNat_and,BitVec.toNat_ofInt,BitVec.toNat_ofInt]at h
 have e:(255%((2^IntKind.i64.bits:Nat):Int)).toNat=255%2^IntKind.i64.bits:=by decide
 rw[e]at h
 have e3:((2^IntKind.i64.bits:Nat):Int)=(2:Int)^IntKind.i64.bits:=by decide
 rw[e3]at h
 rw[h];omega
theorem wH {k:XKey}(h:k.Ok maxLen):ag Ph aG 221 [k.v]=some (.one (.own 1 (al (kS k)))):=by
 have e1:=mC h
 refine ae (fn:=gU) rfl ?_
 cases c1:pT k<;>rw[c1]at e1
 ·rw[show kS k=[] by simp[kS,c1]]
  simp(maxSteps:=9999999) [gU,e1,show al []=[]from rfl]
 obtain⟨h1,h2,h3,h4,h5,h6⟩:=yt c1
 have m1:1+k.text.length≤140737488355328∧1+k.text.length≤9223372036854775807∧7+k.text.length≤140737488355328∧7+k.text.length≤9223372036854775807∧k.text.length+7≤140737488355328∧k.text.length+7≤9223372036854775807:=by omega
 have hk:k.kind%256=k.kind:=by omega
 obtain⟨x,hx⟩:∃x:Nat,k.n+1000000000000=(x:Int):=⟨(k.n+1000000000000).toNat,by omega⟩
 have hw:IntKind.i64.wrap (k.n+1000000000000)=(x:Int):=by rw[hx,IntKind.wrap_i64];omega
 have s0:=Az (x:=x) (b:=0) (k:=0) (by decide) rfl
 have s1:=Az (x:=x) (b:=8) (k:=8) (by decide) rfl
 have s2:=Az (x:=x) (b:=16) (k:=16) (by decide) rfl
 have s3:=Az (x:=x) (b:=24) (k:=24) (by decide) rfl
 have s4:=Az (x:=x) (b:=32) (k:=32) (by decide) rfl
 have s5:=Az (x:=x) (b:=40) (k:=40) (by decide) rfl
 have lt:dK 5 0=false∧dK 4 0=false∧dK 3 0=false∧dK 2 0=false∧dK 1 0=false∧dK 0 0=false∧dK (-1) 0=true:=by decide
 have hkb:(UInt8.ofNat k.kind.toNat).toNat=k.kind.toNat:=by simp;omega
 have hkt:((k.kind.toNat:Nat):Int)=k.kind:=by omega
 have w1:=iD k.text
 by_cases hq:k.kind=2
 ·have he:al (kS k)=[.int .u8 k.kind]::al k.text:=by
   rw[show kS k=UInt8.ofNat k.kind.toNat::k.text by simp[kS,c1,hq]]
   simp only[al,List.map_cons,hkb,hkt]
  rw[he]
  have hb:(k.kind==2)=true:=by simp[hq]
  simp(maxSteps:=9999999) [gU,e1,hb,hk,wrap_u8,m1,w1,bp,wX,ij,lt]
 ·have he:al (kS k)=[.int .u8 k.kind]::([.int .u8 ((x/2^40:Nat)%256:Int)]::[.int .u8 ((x/2^32:Nat)%256:Int)]::[.int .u8 ((x/2^24:Nat)%256:Int)]::[.int .u8 ((x/2^16:Nat)%256:Int)]::[.int .u8 ((x/2^8:Nat)%256:Int)]::[.int .u8 ((x/2^0:Nat)%256:Int)]::al k.text):=by
   rw[show kS k=UInt8.ofNat k.kind.toNat::(PO x++k.text) by simp[kS,c1,hq,hx]]
   simp[al,PO,hkb,hkt]
  rw[he]
  have hb:(k.kind==2)=false:=by simp[hq]
  simp(maxSteps:=9999999) [gU,e1,hb,hk,hw,wrap_u8,K2,s0,s1,s2,s3,s4,s5,m1,w1,bp,lt,wX,ij]
  have k5:=so (x/1099511627776)
  have k4:=so (x/4294967296)
  have k3:=so (x/16777216)
  have k2:=so (x/65536)
  have k1:=so (x/256)
  simp only[Int.natCast_ediv,Int.cast_ofNat_Int]at k5 k4 k3 k2 k1
  have k0:=so x
  rw[show(x:Int)%2^IntKind.i64.bits=((x%2^IntKind.i64.bits:Nat):Int) by norm_cast,Int.toNat_natCast]at k0
  exact⟨k5,k4,k3,k2,k1,k0⟩
end Gi
namespace Gi
open Go Go.RowKit
theorem XKey.Ok.mono {A B:Nat}(hAB:A≤B){x:XKey}(h:x.Ok A):x.Ok B:=by
 obtain⟨h0,h1,h2⟩:=h
 exact⟨h0,h1,Nat.le_trans h2 hAB⟩
theorem XField.Ok.mono {A B:Nat}(hAB:A≤B){x:XField}(h:x.Ok A):x.Ok B:=by
 obtain⟨h0,h1⟩:=h
 exact⟨Nat.le_trans h0 hAB,h1⟩
theorem XRecord.Ok.mono {A B:Nat}(hAB:A≤B){x:XRecord}(h:x.Ok A):x.Ok B:=by
 have h0:=h
 exact⟨Nat.le_trans h0.1 hAB,fun y m=>XField.Ok.mono hAB (h0.2 y m)⟩
theorem XItem.Ok.mono {A B:Nat}(hAB:A≤B){x:XItem}(h:x.Ok A):x.Ok B:=by
 obtain⟨h0,h1⟩:=h
 exact⟨XKey.Ok.mono hAB h0,XRecord.Ok.mono hAB h1⟩
theorem XStore.Ok.mono {A B:Nat}(hAB:A≤B){x:XStore}(h:x.Ok A):x.Ok B:=by
 obtain⟨h0,h1,h2⟩:=h
 exact⟨Nat.le_trans h0 hAB,⟨Nat.le_trans h1.1 hAB,fun y m=>XItem.Ok.mono hAB (h1.2 y m)⟩,h2⟩
theorem XWrite.Ok.mono {A B:Nat}(hAB:A≤B){x:XWrite}(h:x.Ok A):x.Ok B:=by
 obtain⟨h0,h1,h2,h3,h4⟩:=h
 exact⟨h0,h1,XKey.Ok.mono hAB h2,Nat.le_trans h3 hAB,h4⟩
theorem XApplied.Ok.mono {A B:Nat}(hAB:A≤B){x:XApplied}(h:x.Ok A):x.Ok B:=by
 obtain⟨h0,h1⟩:=h
 exact⟨h0,h1⟩
theorem XServer.Ok.mono {A B:Nat}(hAB:A≤B){x:XServer}(h:x.Ok A):x.Ok B:=by
 obtain⟨h0,h1,h2⟩:=h
 exact⟨XStore.Ok.mono hAB h0,⟨Nat.le_trans h1.1 hAB,fun y m=>XApplied.Ok.mono hAB (h1.2 y m)⟩,⟨Nat.le_trans h2.1 hAB,fun y m=>XWrite.Ok.mono hAB (h2.2 y m)⟩⟩
theorem XOutbox.Ok.mono {A B:Nat}(hAB:A≤B){x:XOutbox}(h:x.Ok A):x.Ok B:=by
 obtain⟨h0,h1,h2⟩:=h
 exact⟨h0,h1,⟨Nat.le_trans h2.1 hAB,fun y m=>XWrite.Ok.mono hAB (h2.2 y m)⟩⟩
theorem XSync.Ok.mono {A B:Nat}(hAB:A≤B){x:XSync}(h:x.Ok A):x.Ok B:=by
 obtain⟨h0,h1,h2⟩:=h
 exact⟨XOutbox.Ok.mono hAB h0,h1,h2⟩
theorem XReplica.Ok.mono {A B:Nat}(hAB:A≤B){x:XReplica}(h:x.Ok A):x.Ok B:=by
 obtain⟨h0,h1,h2⟩:=h
 exact⟨XStore.Ok.mono hAB h0,h1,XSync.Ok.mono hAB h2⟩
theorem XResponse.Ok.mono {A B:Nat}(hAB:A≤B){x:XResponse}(h:x.Ok A):x.Ok B:=by
 obtain⟨h0,h1,h2,h3⟩:=h
 exact⟨h0,h1,h2,Nat.le_trans h3 hAB⟩
theorem XCached.Ok.mono {A B:Nat}(hAB:A≤B){x:XCached}(h:x.Ok A):x.Ok B:=by
 obtain⟨h0,h1,h2⟩:=h
 exact⟨Nat.le_trans h0 hAB,Nat.le_trans h1 hAB,XResponse.Ok.mono hAB h2⟩
theorem XCache.Ok.mono {A B:Nat}(hAB:A≤B){x:XCache}(h:x.Ok A):x.Ok B:=by
 obtain⟨h0,h1⟩:=h
 exact⟨h0,⟨Nat.le_trans h1.1 hAB,fun y m=>XCached.Ok.mono hAB (h1.2 y m)⟩⟩
theorem XCacheSet.Ok.mono {A B:Nat}(hAB:A≤B){x:XCacheSet}(h:x.Ok A):x.Ok B:=by
 have h0:=h
 exact⟨Nat.le_trans h0.1 hAB,fun y m=>XCache.Ok.mono hAB (h0.2 y m)⟩
theorem XRegistration.Ok.mono {A B:Nat}(hAB:A≤B){x:XRegistration}(h:x.Ok A):x.Ok B:=by
 obtain⟨h0,h1,h2,h3⟩:=h
 exact⟨Nat.le_trans h0 hAB,h1,h2,h3⟩
theorem XLoaded.Ok.mono {A B:Nat}(hAB:A≤B){x:XLoaded}(h:x.Ok A):x.Ok B:=by
 obtain⟨h0,h1⟩:=h
 exact⟨Nat.le_trans h0 hAB,h1⟩
theorem XInstr.Ok.mono {A B:Nat}(hAB:A≤B){x:XInstr}(h:x.Ok A):x.Ok B:=by
 obtain⟨h0,h1,h2,h3⟩:=h
 exact⟨h0,h1,h2,Nat.le_trans h3 hAB⟩
theorem XMachine.Ok.mono {A B:Nat}(hAB:A≤B){x:XMachine}(h:x.Ok A):x.Ok B:=by
 obtain⟨h0,h1,h2,h3⟩:=h
 exact⟨⟨Nat.le_trans h0.1 hAB,fun y m=>XInstr.Ok.mono hAB (h0.2 y m)⟩,h1,⟨Nat.le_trans h2.1 hAB,h2.2⟩,h3⟩
theorem XPage.Ok.mono {A B:Nat}(hAB:A≤B){x:XPage}(h:x.Ok A):x.Ok B:=by
 obtain⟨h0,h1,h2,h3,h4,h5⟩:=h
 exact⟨h0,Nat.le_trans h1 hAB,Nat.le_trans h2 hAB,h3,⟨Nat.le_trans h4.1 hAB,fun y m=>XLoaded.Ok.mono hAB (h4.2 y m)⟩,XMachine.Ok.mono hAB h5⟩
theorem XIndexDef.Ok.mono {A B:Nat}(hAB:A≤B){x:XIndexDef}(h:x.Ok A):x.Ok B:=by
 obtain⟨h0,h1⟩:=h
 exact⟨Nat.le_trans h0 hAB,Nat.le_trans h1 hAB⟩
theorem XDatabase.Ok.mono {A B:Nat}(hAB:A≤B){x:XDatabase}(h:x.Ok A):x.Ok B:=by
 obtain⟨h0,h1,h2,h3⟩:=h
 exact⟨Nat.le_trans h0 hAB,h1,⟨Nat.le_trans h2.1 hAB,fun y m=>XStore.Ok.mono hAB (h2.2 y m)⟩,⟨Nat.le_trans h3.1 hAB,fun y m=>XIndexDef.Ok.mono hAB (h3.2 y m)⟩⟩
theorem XDisk.Ok.mono {A B:Nat}(hAB:A≤B){x:XDisk}(h:x.Ok A):x.Ok B:=by
 obtain⟨h0,h1,h2⟩:=h
 exact⟨XDatabase.Ok.mono hAB h0,Nat.le_trans h1 hAB,h2⟩
theorem XBucket.Ok.mono {A B:Nat}(hAB:A≤B){x:XBucket}(h:x.Ok A):x.Ok B:=by
 obtain⟨h0,h1,h2,h3,h4,h5,h6⟩:=h
 exact⟨Nat.le_trans h0 hAB,Nat.le_trans h1 hAB,XRegistration.Ok.mono hAB h2,XCacheSet.Ok.mono hAB h3,XDisk.Ok.mono hAB h4,XReplica.Ok.mono hAB h5,h6⟩
theorem XStorage.Ok.mono {A B:Nat}(hAB:A≤B){x:XStorage}(h:x.Ok A):x.Ok B:=by
 have h0:=h
 exact⟨Nat.le_trans h0.1 hAB,fun y m=>XBucket.Ok.mono hAB (h0.2 y m)⟩
theorem XLock.Ok.mono {A B:Nat}(hAB:A≤B){x:XLock}(h:x.Ok A):x.Ok B:=by
 obtain⟨h0,h1⟩:=h
 exact⟨Nat.le_trans h0 hAB,h1⟩
theorem XLockTable.Ok.mono {A B:Nat}(hAB:A≤B){x:XLockTable}(h:x.Ok A):x.Ok B:=by
 have h0:=h
 exact⟨Nat.le_trans h0.1 hAB,fun y m=>XLock.Ok.mono hAB (h0.2 y m)⟩
theorem XMail.Ok.mono {A B:Nat}(hAB:A≤B){x:XMail}(h:x.Ok A):x.Ok B:=by
 obtain⟨h0,h1,h2⟩:=h
 exact⟨h0,h1,h2⟩
theorem XChannel.Ok.mono {A B:Nat}(hAB:A≤B){x:XChannel}(h:x.Ok A):x.Ok B:=by
 have h0:=h
 exact⟨Nat.le_trans h0.1 hAB,fun y m=>XMail.Ok.mono hAB (h0.2 y m)⟩
theorem XSite.Ok.mono {A B:Nat}(hAB:A≤B){x:XSite}(h:x.Ok A):x.Ok B:=by
 obtain⟨h0,h1,h2⟩:=h
 exact⟨Nat.le_trans h0 hAB,h1,⟨Nat.le_trans h2.1 hAB,fun y m=>Nat.le_trans (h2.2 y m) hAB⟩⟩
theorem XWorld.Ok.mono {A B:Nat}(hAB:A≤B){x:XWorld}(h:x.Ok A):x.Ok B:=by
 obtain⟨h0,h2,h3,h4,h5,h6,h7,h8,h9⟩:=h
 exact⟨h0,h2,XStorage.Ok.mono hAB h3,⟨Nat.le_trans h4.1 hAB,fun y m=>XPage.Ok.mono hAB (h4.2 y m)⟩,h5,XLockTable.Ok.mono hAB h6,XChannel.Ok.mono hAB h7,⟨Nat.le_trans h8.1 hAB,fun y m=>XSite.Ok.mono hAB (h8.2 y m)⟩,⟨Nat.le_trans h9.1 hAB,fun y m=>XServer.Ok.mono hAB (h9.2 y m)⟩⟩
end Gi
namespace Gi
open Go Go.RowKit
set_option maxHeartbeats 8000000
set_option maxRecDepth 4000
attribute [local simp] bu sQ bg bX ep fZ ej fY f8 f7 uP uY uQ uZ uR u0 uS vd uT ve uU vf uV vg uW vh uX vi V.cells plain bn f9 isInt isStr isBool bin cW jN cX jO f4 un asList L.view ap V.view viewL aS av da cf bP comp aK bt dz ct bI bG bH bO bj cz aX bK aQ aY bM cB bL bJ bN V.flat L.flat dL du bA putAt thaw thawL thawT V.ow f6 ew ez cY f5 cZ eu freezeVs freezeLs freezeL V.mut L.mut aJ fq i7 aM be aE dq bE bi bS L.ren aU dM cj dQ bT bC wp_seq wp_block bF eB db cg dd wp_skip wp_exit wp_ret cN cM cS cO dj dk di cq aW L.notArr aP aN aO eA bo storeD bc fR br cE bf nE L.mov L.closed V.closed PV.bare PV.flat
theorem EY {z:Nat}{r:List (List PV)}:dL (.one (.own z r))=bv r:=rfl
def hI {α:Type}(f:α→Nat)(xs:List α):Nat:=(xs.map f).sum
theorem mH {α:Type}{f:α→Nat}{xs:List α}{k:Nat}(hk:k<xs.length):hI f (xs.take (k+1))=hI f (xs.take k)+f xs[k]:=by
 unfold hI;rw[List.take_succ_eq_append_getElem hk,List.map_append,List.sum_append];simp
theorem pF {α:Type}{f:α→Nat}{c:Nat}(h:∀x,f x≤c):∀(xs:List α),hI f xs≤c*xs.length
 |[]=>by simp[hI]
 |x::xs=>by
  have:=pF h xs
  have:=h x
  simp only[hI,List.map_cons,List.sum_cons,List.length_cons,Nat.mul_add]at*
  omega
def rY (x:XItem):Nat:=(kS x.key).length+(qL x.rcd).length
theorem lE (x:XItem):rY x≤110:=by have:=Bq x.key;have:=Br x.rcd;unfold rY;omega
def kK (s:XStore):Nat:=hI rY s.items
theorem o6 {s:XStore}(h:s.Ok 1048576):ag Ph aG 197 [s.v]=some (aa .i64 (kK s:Nat)):=by
 refine ae (fn:=lW) rfl ?_
 simp +contextual (maxSteps:=9999999) [lW]
 refine aB aR Cl.fin [.f,.f,.f,.t,.f,.f,.f,.t,.t,.t,.f,.f,.f,.f,.f,.f,.f,.f,.f,.f,.f,.f,.f,.f,.f,.f] (fun k=>[(3,aa .i64 (hI rY (s.items.take k):Nat)),(9,aa .i64 k)]) s.items.length (fun _=>false) rfl (by simp[hI]) (fun k hk _=> ?_) (fun _ _=> ?_)
 ·have hx:=XItem.e.eq_1 s.items[k]
  have hi:=XItem.Ok.mono (B:=maxLen) (by unfold maxLen;omega) (h.2.1.2 _ (List.getElem_mem hk))
  have e1:=wb hi.1
  have e2:=rn hi.2
  have l1:=Bq s.items[k].key
  have l2:=Br s.items[k].rcd
  have l3:=pF lE (s.items.take k)
  have l4:(s.items.take k).length≤1048576:=by rw[List.length_take];have:=h.2.1.1;omega
  have ht:hI rY (s.items.take (k+1))=hI rY (s.items.take k)+((kS s.items[k].key).length+(qL s.items[k].rcd).length):=mH hk
  rw[ht]
  generalize hI rY (s.items.take k)=A at l3⊢
  have g:=CS s.items[k].rcd
  generalize yY s.items[k].rcd=W at e2 g
  have q1:(al (kS s.items[k].key)).length=(kS s.items[k].key).length:=bp
  have q2:(al (qL s.items[k].rcd)).length=(qL s.items[k].rcd).length:=bp
  generalize (kS s.items[k].key).length=a at l1 q1⊢
  generalize (qL s.items[k].rcd).length=b at l2 q2⊢
  have w1:IntKind.i64.wrap ((a:Int)+(b:Int))=(a:Int)+(b:Int):=by rw[IntKind.wrap_i64];omega
  have w2:IntKind.i64.wrap ((A:Int)+((a:Int)+(b:Int)))=(A:Int)+((a:Int)+(b:Int)):=by rw[IntKind.wrap_i64];omega
  have w3:IntKind.i64.wrap ((A:Int)+(a:Int))=(A:Int)+(a:Int):=by rw[IntKind.wrap_i64];omega
  have w4:IntKind.i64.wrap ((A:Int)+(a:Int)+(b:Int))=(A:Int)+((a:Int)+(b:Int)):=by rw[IntKind.wrap_i64];omega
  simp(maxSteps:=9999999) [ig,hk,hx,e1,e2,EY, ↓g,q1,q2,w1,w2,w3,w4,aF (n:=s.items.length) (by have:=h.2.1.1;unfold maxLen;omega) hk,aV hk,-dL]
 ·rw[List.take_length]
  simp(maxSteps:=9999999) [ig,kK]
theorem pa {s:XStore}(h:s.Ok 1048576):ag Ph aG 194 [s.v]=some (aa .i64 (kK s:Nat)):=by
 refine ae (fn:=ml) rfl ?_
 simp +contextual (maxSteps:=9999999) [ml]
 refine aB aR Cl.fin [.f,.t,.f,.t,.t,.f,.f,.f,.f,.f,.f,.f,.f,.f,.f,.f,.f,.f,.f,.f,.f,.f,.f,.f,.f,.f,.f,.f,.f,.f,.f,.f] (fun k=>[(3,aa .i64 (hI rY (s.items.take k):Nat)),(4,aa .i64 k)]) s.items.length (fun _=>false) rfl (by simp[hI]) (fun k hk _=> ?_) (fun _ _=> ?_)
 ·have hx:=XItem.e.eq_1 s.items[k]
  have hi:=XItem.Ok.mono (B:=maxLen) (by unfold maxLen;omega) (h.2.1.2 _ (List.getElem_mem hk))
  have e1:=wH hi.1
  have e2:=r7 hi.2
  have l1:=Bq s.items[k].key
  have l2:=Br s.items[k].rcd
  have l3:=pF lE (s.items.take k)
  have l4:(s.items.take k).length≤1048576:=by rw[List.length_take];have:=h.2.1.1;omega
  have ht:hI rY (s.items.take (k+1))=hI rY (s.items.take k)+((kS s.items[k].key).length+(qL s.items[k].rcd).length):=mH hk
  rw[ht]
  generalize hI rY (s.items.take k)=A at l3⊢
  have g:=CS s.items[k].rcd
  generalize yY s.items[k].rcd=W at e2 g
  have q1:(al (kS s.items[k].key)).length=(kS s.items[k].key).length:=bp
  have q2:(al (qL s.items[k].rcd)).length=(qL s.items[k].rcd).length:=bp
  generalize (kS s.items[k].key).length=a at l1 q1⊢
  generalize (qL s.items[k].rcd).length=b at l2 q2⊢
  have w1:IntKind.i64.wrap ((a:Int)+(b:Int))=(a:Int)+(b:Int):=by rw[IntKind.wrap_i64];omega
  have w2:IntKind.i64.wrap ((A:Int)+((a:Int)+(b:Int)))=(A:Int)+((a:Int)+(b:Int)):=by rw[IntKind.wrap_i64];omega
  have w3:IntKind.i64.wrap ((A:Int)+(a:Int))=(A:Int)+(a:Int):=by rw[IntKind.wrap_i64];omega
  have w4:IntKind.i64.wrap ((A:Int)+(a:Int)+(b:Int))=(A:Int)+((a:Int)+(b:Int)):=by rw[IntKind.wrap_i64];omega
  simp(maxSteps:=9999999) [il,hk,hx,e1,e2,EY, ↓g,q1,q2,w1,w2,w3,w4,aF (n:=s.items.length) (by have:=h.2.1.1;unfold maxLen;omega) hk,aV hk,-dL]
 ·rw[List.take_length]
  simp(maxSteps:=9999999) [il,kK]
end Gi
