/- A part. -/
import Derived.Test.YtndiampmpmbfoaaGreatGkr
import Derived.Test.YtndiampmpmbfoaaGreatGka
set_option linter.all false
namespace Gi
open Go Go.RowKit
set_option maxHeartbeats 8000000
set_option maxRecDepth 4000
attribute [local simp] start qh bG cz dk eR dj eQ eW eV se sx sf sy sh sA si sB sj sC sk sD so sE sp sF su sG V.cells plain bA gv isInt isStr isBool bin cu iq cy ir eS un asList L.view al V.view viewL aZ am cD bM bS comp aO bJ cT bW bw bu bv aS aE bT aw aR aW aK br bq ba bz bB V.flat L.flat da df bD putAt thaw thawL thawT V.ow eU dx dy cB eT cC dw freezeVs freezeLs freezeL V.mut L.mut aJ eF gQ be bC aN dC bQ bj bX L.bD aY dq ca dD bU cf wp_seq wp_block bm dA cE bN cF wp_skip wp_exit wp_ret co cH cL cK cP cQ cO bV aM L.bC aV aT aU dz bt storeD bf fm ai ct aA nq L.bG L.closed V.closed PV.bare PV.flat
def Yc (m:Nat):nw .shr .i64 (m:Int) 7=some (aa .i64 ((m:Int)/128)):=by
 have e:(min (Int.toNat 7) IntKind.i64.bits)=7:=by decide
 simp only[nw]
 rw[if_neg (by omega)]
 simp only[e]
 rw[show((2:Int)^7)=128 by decide,Int.fdiv_eq_ediv_of_nonneg _ (by omega)]
def ki {b:List UInt8}(hb:b.length<=1048000){n:Nat}(hn:n<=1000000000000):ag Ph aC 244 [bY (ar b),aa .i64 (n:Int)]=some (.one (.own 1 (ar (b++t9 n)))):=by
 have e1:rg (n:Int) 0 1000000000000=true:=uG.2 ⟨by omega,by omega⟩
 have e2:=bR (n:Int) 0 1000000000000
 rw[e1]at e2
 have w1:=j3 b
 have m0:b.length<=140737488355328/\ b.length<=9223372036854775807:=by omega
 refine ae rfl ?_
 simp(maxSteps:=9^9) [kV,e2,w1,m0,bZ]
 refine PG bh Cl.fin [.f,.t,.f,.f,.f,.t,.f,.f,.f,.f,.f,.f,.f,.f,.f,.f,.f,.f,.f,.f,.f,.f,.f,.f,.f,.f,.f,.f,.f] (fun a=>[(1,aa .i64 (a.2.1:Nat)),(5, .one (.arr 0))]) (fun a=>[.arr 1 (ar a.2.2)]) CO (fun a=>a.2.1) (Xz b (b++t9 n)) (5,n,b) ⟨by show n<128^6;omega,rfl,by simp,hn⟩ rfl (Kn.of [1] (by decide) (by simp) (by simp)) (fun a a' ia ha=> ?_) (fun a ia ha=> ?_)
 ·obtain⟨f,m,o⟩:=a
  obtain⟨hm,hi,rfl⟩:=NX ia ha
  obtain⟨_,_,hl,a7⟩:=ia
  simp only at hl a7
  have a8:bO (m:Int) 128=false:=ii (by omega)
  have a2:bO 127 (m:Int)=true:=gB (by omega)
  have q:=Lw (n:=m%128+128) (by omega)
  have m1:o.length<=140737488355327/\ o.length<=9223372036854775806:=by omega
  have m2:=ez (m:=o.length+1) (z:=1) (by omega) (by omega)
  have r1:=V3 (n:=m) (by omega)
  have r2:=Yc m
  have r3:=Xq (n:=m%128) (by omega)
  have e:((m%128:Nat):Int)=(m:Int)%128:=by omega
  have e':((m%128+128:Nat):Int)=(m:Int)%128+128:=by omega
  rw[e]at r1 r3
  rw[e']at r3
  have r4:IntKind.i64.wrap ((m:Int)/128)=(m:Int)/128:=by rw[IntKind.wrap_i64];omega
  have r5:IntKind.u8.wrap ((m:Int)%128+128)=(m:Int)%128+128:=by have:=q.1;simpa using this
  have r6:((m:Int)%128+128)%256=(m:Int)%128+128:=by omega
  refine⟨by show m/128<m;omega,hi,?_⟩
  simp(maxSteps:=9^9) [gS,a8,a2, ↓r1,r2, ↓r3,r4,r5,m1,m2,lG,bZ,-eF]
  exact Kn.of [2] (by decide) (by simp[lG,r5,r6]) (by simp[r4])
 ·obtain⟨f,m,o⟩:=a
  obtain⟨hm,hi⟩:=QG ia ha
  obtain⟨_,_,hl,a7⟩:=ia
  simp only at hl a7
  have a8:bO (m:Int) 128=true:=gB (by omega)
  have a2:bO 127 (m:Int)=false:=ii (by omega)
  have q:=Lw (n:=m) (by omega)
  have m1:o.length<=140737488355327/\ o.length<=9223372036854775806:=by omega
  have m2:=ez (m:=o.length+1) (z:=1) (by omega) (by omega)
  rw[<-hi]
  simp(maxSteps:=9^9) [gS,a8,a2,q,m1,m2,lG,bZ]
def De (s u:List UInt8):ar (s++u)=ar s++ar u:=by simp[ar]
def xi {b s:List UInt8}(hb:b.length<=1048000)(hs:s.length<=1048576):ag Ph aC 248 [bY (ar b),bY (ar s)]=some (.one (.own 1 (ar (b++LB s)))):=by
 have e1:=kg hb (n:=s.length) (by omega)
 have w1:=j3 s
 have hl:=uN s.length
 have m1:b.length+(t9 s.length).length+s.length<=140737488355328/\ b.length+(t9 s.length).length+s.length<=9223372036854775807:=by omega
 rw[show b++LB s=(b++t9 s.length)++s by simp[LB]]
 have e:ar ((b++t9 s.length)++s)=ar (b++t9 s.length)++ar s:=De _ _
 rw[e]
 refine ae rfl ?_
 simp(maxSteps:=9^9) [mM,e1,w1,m1,bZ]
def xv {b s:List UInt8}(hb:b.length<=1048000)(hs:s.length<=1048576):ag Ph aC 245 [bY (ar b),bY (ar s)]=some (.one (.own 1 (ar (b++LB s)))):=by
 have e1:=ki hb (n:=s.length) (by omega)
 have w1:=j3 s
 have hl:=uN s.length
 have m1:b.length+(t9 s.length).length+s.length<=140737488355328/\ b.length+(t9 s.length).length+s.length<=9223372036854775807:=by omega
 rw[show b++LB s=(b++t9 s.length)++s by simp[LB]]
 have e:ar ((b++t9 s.length)++s)=ar (b++t9 s.length)++ar s:=De _ _
 rw[e]
 refine ae rfl ?_
 simp(maxSteps:=9^9) [mZ,e1,w1,m1,bZ]
def CY (r:Z4):V:=cond (dX r.fs) (bY (ar (vd r))) (.one (.own 1 []))
def G9 (r:Z4):da (CY r)=bY (ar (vd r)):=by
 unfold CY
 cases c:dX r.fs
 ·simp[vd,c,da,df,ar]
 ·rfl
def vE {r:Z4}(h:r.Ok maxLen):ag Ph aC 226 [r.v]=some (CY r):=by
 have e1:=lF h
 unfold CY
 refine ae rfl ?_
 cases c1:dX r.fs<;>rw[c1]at e1
 ·simp(maxSteps:=9^9) [i7,e1]
 obtain⟨hf,ho⟩:=wY (r:=r) c1
 have e2:=kg (b:=[]) (by simp) (n:=r.fs.length) (by omega)
 rw[Zi,show ar []=[]from rfl]at e2
 simp(maxSteps:=9^9) [i7,e1,e2]
 refine aB bh Cl.fin [.f,.f,.f,.t,.f,.f,.f,.f,.f,.f,.f,.f,.f,.f,.f,.t,.t,.t,.f,.f,.f,.f,.f,.f,.f,.f,.f,.f,.f,.f,.f] (fun k=>[(3,bY (ar (t9 r.fs.length++jB (r.fs.take k)))),(17,aa .i64 k)]) r.fs.length (fun _=>false) rfl (by simp[jB]) (fun k hk _=> ?_) (fun _ _=> ?_)
 ·have hx:=Y8.e.eq_1 r.fs[k]
  have hq:=ho _ (Zf hk)
  have l1:=uN r.fs.length
  have l2:=wM (r.fs.take k) (fun f hf=>ho f (ZI hf))
  have l3:(r.fs.take k).length<=6:=by rw[ZM];omega
  have l4:=uN r.fs[k].aE.length
  have e3:=xi (b:=t9 r.fs.length++jB (r.fs.take k)) (s:=r.fs[k].aE) (by rw[Zu];omega) (by have:=hq.1;omega)
  have e4:=kg (b:=t9 r.fs.length++jB (r.fs.take k)++LB r.fs[k].aE) (by simp only[Zu,LB];have:=hq.1;omega) (n:=r.fs[k].n.toNat) (by have:=hq.2.2;omega)
  rw[show((r.fs[k].n.toNat:Nat):Int)=r.fs[k].n by have:=hq.2.1;omega]at e4
  have ht:jB (r.fs.take (k+1))=jB (r.fs.take k)++(LB r.fs[k].aE++t9 r.fs[k].n.toNat):=by
   unfold jB;rw[ZX hk,List.flatMap_append];simp[UM]
  have ha:t9 r.fs.length++jB (r.fs.take (k+1))=t9 r.fs.length++jB (r.fs.take k)++LB r.fs[k].aE++t9 r.fs[k].n.toNat:=by rw[ht];simp
  rw[ha]
  generalize t9 r.fs.length++jB (r.fs.take k)=W at e3 e4⊢
  generalize W++LB r.fs[k].aE=W2 at e3 e4⊢
  generalize W2++t9 r.fs[k].n.toNat=W3 at e4⊢
  simp(maxSteps:=9^9) [ij,hk,hx,e3,e4,aL h.1 hk,bd hk]
 ·have he:vd r=t9 r.fs.length++jB r.fs:=by simp[vd,c1]
  rw[he]
  simp(maxSteps:=9^9) [ij]
def vZ {r:Z4}(h:r.Ok maxLen):ag Ph aC 222 [r.v]=some (CY r):=by
 have e1:=jv h
 unfold CY
 refine ae rfl ?_
 cases c1:dX r.fs<;>rw[c1]at e1
 ·simp(maxSteps:=9^9) [i9,e1]
 obtain⟨hf,ho⟩:=wY (r:=r) c1
 have e2:=ki (b:=[]) (by simp) (n:=r.fs.length) (by omega)
 rw[Zi,show ar []=[]from rfl]at e2
 simp(maxSteps:=9^9) [i9,e1,e2]
 refine aB bh Cl.fin [.f,.t,.f,.t,.t,.f,.f,.f,.f,.f,.f,.f,.f,.f,.f,.f,.f,.f,.f,.f,.f,.f,.f,.f,.f,.f,.f,.f,.f,.f,.f,.f,.f,.f,.f,.f,.f,.f] (fun k=>[(3,bY (ar (t9 r.fs.length++jB (r.fs.take k)))),(4,aa .i64 k)]) r.fs.length (fun _=>false) rfl (by simp[jB]) (fun k hk _=> ?_) (fun _ _=> ?_)
 ·have hx:=Y8.e.eq_1 r.fs[k]
  have hq:=ho _ (Zf hk)
  have l1:=uN r.fs.length
  have l2:=wM (r.fs.take k) (fun f hf=>ho f (ZI hf))
  have l3:(r.fs.take k).length<=6:=by rw[ZM];omega
  have l4:=uN r.fs[k].aE.length
  have e3:=xv (b:=t9 r.fs.length++jB (r.fs.take k)) (s:=r.fs[k].aE) (by rw[Zu];omega) (by have:=hq.1;omega)
  have e4:=ki (b:=t9 r.fs.length++jB (r.fs.take k)++LB r.fs[k].aE) (by simp only[Zu,LB];have:=hq.1;omega) (n:=r.fs[k].n.toNat) (by have:=hq.2.2;omega)
  rw[show((r.fs[k].n.toNat:Nat):Int)=r.fs[k].n by have:=hq.2.1;omega]at e4
  have ht:jB (r.fs.take (k+1))=jB (r.fs.take k)++(LB r.fs[k].aE++t9 r.fs[k].n.toNat):=by
   unfold jB;rw[ZX hk,List.flatMap_append];simp[UM]
  have ha:t9 r.fs.length++jB (r.fs.take (k+1))=t9 r.fs.length++jB (r.fs.take k)++LB r.fs[k].aE++t9 r.fs[k].n.toNat:=by rw[ht];simp
  rw[ha]
  generalize t9 r.fs.length++jB (r.fs.take k)=W at e3 e4⊢
  generalize W++LB r.fs[k].aE=W2 at e3 e4⊢
  generalize W2++t9 r.fs[k].n.toNat=W3 at e4⊢
  simp(maxSteps:=9^9) [il,hk,hx,e3,e4,aL h.1 hk,bd hk]
 ·have he:vd r=t9 r.fs.length++jB r.fs:=by simp[vd,c1]
  rw[he]
  simp(maxSteps:=9^9) [il]
def QK {n:Int}(h1: -9223372036854775808<=n)(h2:n<=9223372036854775807):IntKind.i64.wrap n=n:=by rw[IntKind.wrap_i64];omega
def wrap_u8 (n:Int):IntKind.u8.wrap n=n%256:=by simp[IntKind.wrap,IntKind.signed,IntKind.bits]
def Eg {x:Nat}{b:Int}{k:Nat}(hk:k<=63)(h:b=(k:Int)):nw .shr .i64 (x:Int) b=some (aa .i64 ((x/2^k:Nat):Int)):=by
 subst h
 simp only[nw]
 rw[if_neg (by omega),show min (Int.toNat (k:Int)) IntKind.i64.bits=k by rw[Int.toNat_natCast];exact Nat.min_eq_left (Nat.le_succ_of_le hk)]
 rw[Int.fdiv_eq_ediv_of_nonneg _ (Int.le_of_lt (Int.pow_pos (by decide)))]
 norm_cast
def An {k:YL}(h:k.Ok maxLen):ag Ph aC 225 [k.v]=some (.one (.own 1 (ar (nC k)))):=by
 have e1:=mc h
 refine ae rfl ?_
 cases c1:kD k<;>rw[c1]at e1
 ·rw[show nC k=[] by simp[nC,c1]]
  simp(maxSteps:=9^9) [jj,e1,show ar []=[]from rfl]
 obtain⟨h1,h2,h3,h4,h5,h6⟩:=tG c1
 have m1:1+k.aa.length<=140737488355328/\ 1+k.aa.length<=9223372036854775807/\ 7+k.aa.length<=140737488355328/\ 7+k.aa.length<=9223372036854775807/\ k.aa.length+7<=140737488355328/\ k.aa.length+7<=9223372036854775807:=by omega
 have hk:k.aS%256=k.aS:=by omega
 obtain⟨x,hx⟩:∃x:Nat,k.n+1000000000000=(x:Int):=⟨(k.n+1000000000000).toNat,by omega⟩
 have hw:IntKind.i64.wrap (k.n+1000000000000)=(x:Int):=by rw[hx,IntKind.wrap_i64];omega
 have s0:=Eg (x:=x) (b:=0) (k:=0) (by decide) rfl
 have s1:=Eg (x:=x) (b:=8) (k:=8) (by decide) rfl
 have s2:=Eg (x:=x) (b:=16) (k:=16) (by decide) rfl
 have s3:=Eg (x:=x) (b:=24) (k:=24) (by decide) rfl
 have s4:=Eg (x:=x) (b:=32) (k:=32) (by decide) rfl
 have s5:=Eg (x:=x) (b:=40) (k:=40) (by decide) rfl
 have lt:bO 5 0=false/\ bO 4 0=false/\ bO 3 0=false/\ bO 2 0=false/\ bO 1 0=false/\ bO 0 0=false/\ bO (-1) 0=true:=by decide
 have a5:(UInt8.ofNat k.aS.toNat).toNat=k.aS.toNat:=by simp;omega
 have a6:((k.aS.toNat:Nat):Int)=k.aS:=by omega
 have w1:=j3 k.aa
 by_cases hq:k.aS=2
 ·have he:ar (nC k)=[.int .u8 k.aS]::ar k.aa:=by
   rw[show nC k=UInt8.ofNat k.aS.toNat::k.aa by simp[nC,c1,hq]]
   simp only[ar,Zv,a5,a6]
  rw[he]
  have hb:(k.aS==2)=true:=by simp[hq]
  simp(maxSteps:=9^9) [jj,e1,hb,hk,wrap_u8,m1,w1,bZ,t8,jG,lt]
 ·have he:ar (nC k)=[.int .u8 k.aS]::([.int .u8 ((x/2^40:Nat)%256:Int)]::[.int .u8 ((x/2^32:Nat)%256:Int)]::[.int .u8 ((x/2^24:Nat)%256:Int)]::[.int .u8 ((x/2^16:Nat)%256:Int)]::[.int .u8 ((x/2^8:Nat)%256:Int)]::[.int .u8 ((x/2^0:Nat)%256:Int)]::ar k.aa):=by
   rw[show nC k=UInt8.ofNat k.aS.toNat::(WN x++k.aa) by simp[nC,c1,hq,hx]]
   simp[ar,WN,a5,a6]
  rw[he]
  have hb:(k.aS==2)=false:=by simp[hq]
  simp(maxSteps:=9^9) [jj,e1,hb,hk,hw,wrap_u8,QK,s0,s1,s2,s3,s4,s5,m1,w1,bZ,lt,t8,jG]
def V4 {n:Nat}:IntKind.i64.wrap ((BitVec.ofInt IntKind.i64.bits (n:Int)&&&BitVec.ofInt IntKind.i64.bits 255).toNat:Int)=(n:Int)%256:=by
 have e1:(BitVec.ofInt IntKind.i64.bits (n:Int)).toNat=n%2^64:=by
  show(BitVec.ofInt 64 (n:Int)).toNat=n%2^64
  simp[BitVec.toNat_ofInt]
 have e2:(BitVec.ofInt IntKind.i64.bits 255).toNat=255:=by decide
 rw[BitVec.toNat_and,e1,e2,show(255:Nat)=2^8-1 from rfl,Nat.and_two_pow_sub_one_eq_mod]
 rw[IntKind.wrap_i64];omega
def wx (y:Nat):IntKind.i64.wrap (((((y:Int)%2^IntKind.i64.bits).toNat&&&255%2^IntKind.i64.bits:Nat)):Int)%256=(y:Int)%256:=by
 have h:=V4 (n:=y)
 rw[BitVec.toNat_and,BitVec.toNat_ofInt,BitVec.toNat_ofInt]at h
 have e:(255%((2^IntKind.i64.bits:Nat):Int)).toNat=255%2^IntKind.i64.bits:=by decide
 rw[e]at h
 have e3:((2^IntKind.i64.bits:Nat):Int)=(2:Int)^IntKind.i64.bits:=by decide
 rw[e3]at h
 rw[h];omega
def AO {k:YL}(h:k.Ok maxLen):ag Ph aC 221 [k.v]=some (.one (.own 1 (ar (nC k)))):=by
 have e1:=mi h
 refine ae rfl ?_
 cases c1:kD k<;>rw[c1]at e1
 ·rw[show nC k=[] by simp[nC,c1]]
  simp(maxSteps:=9^9) [jo,e1,show ar []=[]from rfl]
 obtain⟨h1,h2,h3,h4,h5,h6⟩:=tG c1
 have m1:1+k.aa.length<=140737488355328/\ 1+k.aa.length<=9223372036854775807/\ 7+k.aa.length<=140737488355328/\ 7+k.aa.length<=9223372036854775807/\ k.aa.length+7<=140737488355328/\ k.aa.length+7<=9223372036854775807:=by omega
 have hk:k.aS%256=k.aS:=by omega
 obtain⟨x,hx⟩:∃x:Nat,k.n+1000000000000=(x:Int):=⟨(k.n+1000000000000).toNat,by omega⟩
 have hw:IntKind.i64.wrap (k.n+1000000000000)=(x:Int):=by rw[hx,IntKind.wrap_i64];omega
 have s0:=Eg (x:=x) (b:=0) (k:=0) (by decide) rfl
 have s1:=Eg (x:=x) (b:=8) (k:=8) (by decide) rfl
 have s2:=Eg (x:=x) (b:=16) (k:=16) (by decide) rfl
 have s3:=Eg (x:=x) (b:=24) (k:=24) (by decide) rfl
 have s4:=Eg (x:=x) (b:=32) (k:=32) (by decide) rfl
 have s5:=Eg (x:=x) (b:=40) (k:=40) (by decide) rfl
 have lt:bO 5 0=false/\ bO 4 0=false/\ bO 3 0=false/\ bO 2 0=false/\ bO 1 0=false/\ bO 0 0=false/\ bO (-1) 0=true:=by decide
 have a5:(UInt8.ofNat k.aS.toNat).toNat=k.aS.toNat:=by simp;omega
 have a6:((k.aS.toNat:Nat):Int)=k.aS:=by omega
 have w1:=j3 k.aa
 by_cases hq:k.aS=2
 ·have he:ar (nC k)=[.int .u8 k.aS]::ar k.aa:=by
   rw[show nC k=UInt8.ofNat k.aS.toNat::k.aa by simp[nC,c1,hq]]
   simp only[ar,Zv,a5,a6]
  rw[he]
  have hb:(k.aS==2)=true:=by simp[hq]
  simp(maxSteps:=9^9) [jo,e1,hb,hk,wrap_u8,m1,w1,bZ,t8,jK,lt]
 ·have he:ar (nC k)=[.int .u8 k.aS]::([.int .u8 ((x/2^40:Nat)%256:Int)]::[.int .u8 ((x/2^32:Nat)%256:Int)]::[.int .u8 ((x/2^24:Nat)%256:Int)]::[.int .u8 ((x/2^16:Nat)%256:Int)]::[.int .u8 ((x/2^8:Nat)%256:Int)]::[.int .u8 ((x/2^0:Nat)%256:Int)]::ar k.aa):=by
   rw[show nC k=UInt8.ofNat k.aS.toNat::(WN x++k.aa) by simp[nC,c1,hq,hx]]
   simp[ar,WN,a5,a6]
  rw[he]
  have hb:(k.aS==2)=false:=by simp[hq]
  simp(maxSteps:=9^9) [jo,e1,hb,hk,hw,wrap_u8,QK,s0,s1,s2,s3,s4,s5,m1,w1,bZ,lt,t8,jK]
  have k5:=wx (x/1099511627776)
  have k4:=wx (x/4294967296)
  have k3:=wx (x/16777216)
  have k2:=wx (x/65536)
  have k1:=wx (x/256)
  simp only[Int.natCast_ediv,Int.cast_ofNat_Int]at k5 k4 k3 k2 k1
  have k0:=wx x
  rw[show(x:Int)%2^IntKind.i64.bits=((x%2^IntKind.i64.bits:Nat):Int) by norm_cast,Int.toNat_natCast]at k0
  exact⟨k5,k4,k3,k2,k1,k0⟩
end Gi
namespace Gi
open Go Go.RowKit
def YL.Ok.mono {A B:Nat}(a1:A<=B){x:YL}(h:x.Ok A):x.Ok B:=by
 obtain⟨h0,h1,h2⟩:=h
 exact⟨h0,h1,Zc h2 a1⟩
def Y8.Ok.mono {A B:Nat}(a1:A<=B){x:Y8}(h:x.Ok A):x.Ok B:=by
 obtain⟨h0,h1⟩:=h
 exact⟨Zc h0 a1,h1⟩
def Z4.Ok.mono {A B:Nat}(a1:A<=B){x:Z4}(h:x.Ok A):x.Ok B:=by
 have h0:=h
 exact⟨Zc h0.1 a1,fun y m=>Y8.Ok.mono a1 (h0.2 y m)⟩
def Y1.Ok.mono {A B:Nat}(a1:A<=B){x:Y1}(h:x.Ok A):x.Ok B:=by
 obtain⟨h0,h1⟩:=h
 exact⟨YL.Ok.mono a1 h0,Z4.Ok.mono a1 h1⟩
def Y7.Ok.mono {A B:Nat}(a1:A<=B){x:Y7}(h:x.Ok A):x.Ok B:=by
 obtain⟨h0,h1,h2⟩:=h
 exact⟨Zc h0 a1,⟨Zc h1.1 a1,fun y m=>Y1.Ok.mono a1 (h1.2 y m)⟩,h2⟩
def Y2.Ok.mono {A B:Nat}(a1:A<=B){x:Y2}(h:x.Ok A):x.Ok B:=by
 obtain⟨h0,h1,h2,h3,h4⟩:=h
 exact⟨h0,h1,YL.Ok.mono a1 h2,Zc h3 a1,h4⟩
def Y6.Ok.mono {A B:Nat}(a1:A<=B){x:Y6}(h:x.Ok A):x.Ok B:=by
 obtain⟨h0,h1⟩:=h
 exact⟨h0,h1⟩
def Y3.Ok.mono {A B:Nat}(a1:A<=B){x:Y3}(h:x.Ok A):x.Ok B:=by
 obtain⟨h0,h1,h2⟩:=h
 exact⟨Y7.Ok.mono a1 h0,⟨Zc h1.1 a1,fun y m=>Y6.Ok.mono a1 (h1.2 y m)⟩,⟨Zc h2.1 a1,fun y m=>Y2.Ok.mono a1 (h2.2 y m)⟩⟩
def YD.Ok.mono {A B:Nat}(a1:A<=B){x:YD}(h:x.Ok A):x.Ok B:=by
 obtain⟨h0,h1,h2⟩:=h
 exact⟨h0,h1,⟨Zc h2.1 a1,fun y m=>Y2.Ok.mono a1 (h2.2 y m)⟩⟩
def YP.Ok.mono {A B:Nat}(a1:A<=B){x:YP}(h:x.Ok A):x.Ok B:=by
 obtain⟨h0,h1,h2⟩:=h
 exact⟨YD.Ok.mono a1 h0,h1,h2⟩
def YO.Ok.mono {A B:Nat}(a1:A<=B){x:YO}(h:x.Ok A):x.Ok B:=by
 obtain⟨h0,h1,h2⟩:=h
 exact⟨Y7.Ok.mono a1 h0,h1,YP.Ok.mono a1 h2⟩
def YJ.Ok.mono {A B:Nat}(a1:A<=B){x:YJ}(h:x.Ok A):x.Ok B:=by
 obtain⟨h0,h1,h2,h3⟩:=h
 exact⟨h0,h1,h2,Zc h3 a1⟩
def Z3.Ok.mono {A B:Nat}(a1:A<=B){x:Z3}(h:x.Ok A):x.Ok B:=by
 obtain⟨h0,h1,h2⟩:=h
 exact⟨Zc h0 a1,Zc h1 a1,YJ.Ok.mono a1 h2⟩
def Z5.Ok.mono {A B:Nat}(a1:A<=B){x:Z5}(h:x.Ok A):x.Ok B:=by
 obtain⟨h0,h1⟩:=h
 exact⟨h0,⟨Zc h1.1 a1,fun y m=>Z3.Ok.mono a1 (h1.2 y m)⟩⟩
def YK.Ok.mono {A B:Nat}(a1:A<=B){x:YK}(h:x.Ok A):x.Ok B:=by
 have h0:=h
 exact⟨Zc h0.1 a1,fun y m=>Z5.Ok.mono a1 (h0.2 y m)⟩
def YE.Ok.mono {A B:Nat}(a1:A<=B){x:YE}(h:x.Ok A):x.Ok B:=by
 obtain⟨h0,h1,h2,h3⟩:=h
 exact⟨Zc h0 a1,h1,h2,h3⟩
def YH.Ok.mono {A B:Nat}(a1:A<=B){x:YH}(h:x.Ok A):x.Ok B:=by
 obtain⟨h0,h1⟩:=h
 exact⟨Zc h0 a1,h1⟩
def YM.Ok.mono {A B:Nat}(a1:A<=B){x:YM}(h:x.Ok A):x.Ok B:=by
 obtain⟨h0,h1,h2,h3⟩:=h
 exact⟨h0,h1,h2,Zc h3 a1⟩
def YS.Ok.mono {A B:Nat}(a1:A<=B){x:YS}(h:x.Ok A):x.Ok B:=by
 obtain⟨h0,h1,h2,h3⟩:=h
 exact⟨⟨Zc h0.1 a1,fun y m=>YM.Ok.mono a1 (h0.2 y m)⟩,h1,⟨Zc h2.1 a1,h2.2⟩,h3⟩
def Z8.Ok.mono {A B:Nat}(a1:A<=B){x:Z8}(h:x.Ok A):x.Ok B:=by
 obtain⟨h0,h1,h2,h3,h4,h5⟩:=h
 exact⟨h0,Zc h1 a1,Zc h2 a1,h3,⟨Zc h4.1 a1,fun y m=>YH.Ok.mono a1 (h4.2 y m)⟩,YS.Ok.mono a1 h5⟩
def Y9.Ok.mono {A B:Nat}(a1:A<=B){x:Y9}(h:x.Ok A):x.Ok B:=by
 obtain⟨h0,h1⟩:=h
 exact⟨Zc h0 a1,Zc h1 a1⟩
def YF.Ok.mono {A B:Nat}(a1:A<=B){x:YF}(h:x.Ok A):x.Ok B:=by
 obtain⟨h0,h1,h2,h3⟩:=h
 exact⟨Zc h0 a1,h1,⟨Zc h2.1 a1,fun y m=>Y7.Ok.mono a1 (h2.2 y m)⟩,⟨Zc h3.1 a1,fun y m=>Y9.Ok.mono a1 (h3.2 y m)⟩⟩
def YV.Ok.mono {A B:Nat}(a1:A<=B){x:YV}(h:x.Ok A):x.Ok B:=by
 obtain⟨h0,h1,h2⟩:=h
 exact⟨YF.Ok.mono a1 h0,Zc h1 a1,h2⟩
def Y4.Ok.mono {A B:Nat}(a1:A<=B){x:Y4}(h:x.Ok A):x.Ok B:=by
 obtain⟨h0,h1,h2,h3,h4,h5,h6⟩:=h
 exact⟨Zc h0 a1,Zc h1 a1,YE.Ok.mono a1 h2,YK.Ok.mono a1 h3,YV.Ok.mono a1 h4,YO.Ok.mono a1 h5,h6⟩
def YQ.Ok.mono {A B:Nat}(a1:A<=B){x:YQ}(h:x.Ok A):x.Ok B:=by
 have h0:=h
 exact⟨Zc h0.1 a1,fun y m=>Y4.Ok.mono a1 (h0.2 y m)⟩
def Z6.Ok.mono {A B:Nat}(a1:A<=B){x:Z6}(h:x.Ok A):x.Ok B:=by
 obtain⟨h0,h1⟩:=h
 exact⟨Zc h0 a1,h1⟩
def YN.Ok.mono {A B:Nat}(a1:A<=B){x:YN}(h:x.Ok A):x.Ok B:=by
 have h0:=h
 exact⟨Zc h0.1 a1,fun y m=>Z6.Ok.mono a1 (h0.2 y m)⟩
def Z9.Ok.mono {A B:Nat}(a1:A<=B){x:Z9}(h:x.Ok A):x.Ok B:=by
 obtain⟨h0,h1,h2⟩:=h
 exact⟨h0,h1,h2⟩
def YR.Ok.mono {A B:Nat}(a1:A<=B){x:YR}(h:x.Ok A):x.Ok B:=by
 have h0:=h
 exact⟨Zc h0.1 a1,fun y m=>Z9.Ok.mono a1 (h0.2 y m)⟩
def Z7.Ok.mono {A B:Nat}(a1:A<=B){x:Z7}(h:x.Ok A):x.Ok B:=by
 obtain⟨h0,h1,h2⟩:=h
 exact⟨Zc h0 a1,h1,⟨Zc h2.1 a1,fun y m=>Zc (h2.2 y m) a1⟩⟩
def YI.Ok.mono {A B:Nat}(a1:A<=B){x:YI}(h:x.Ok A):x.Ok B:=by
 obtain⟨h0,h2,h3,h4,h5,h6,h7,h8,h9⟩:=h
 exact⟨h0,h2,YQ.Ok.mono a1 h3,⟨Zc h4.1 a1,fun y m=>Z8.Ok.mono a1 (h4.2 y m)⟩,h5,YN.Ok.mono a1 h6,YR.Ok.mono a1 h7,⟨Zc h8.1 a1,fun y m=>Z7.Ok.mono a1 (h8.2 y m)⟩,⟨Zc h9.1 a1,fun y m=>Y3.Ok.mono a1 (h9.2 y m)⟩⟩
end Gi
namespace Gi
open Go Go.RowKit
set_option maxHeartbeats 8000000
set_option maxRecDepth 4000
attribute [local simp] start qh bG cz dk eR dj eQ eW eV se sx sf sy sh sA si sB sj sC sk sD so sE sp sF su sG V.cells plain bA gv isInt isStr isBool bin cu iq cy ir eS un asList L.view al V.view viewL aZ am cD bM bS comp aO bJ cT bW bw bu bv aS aE bT aw aR aW aK br bq ba bz bB V.flat L.flat da df bD putAt thaw thawL thawT V.ow eU dx dy cB eT cC dw freezeVs freezeLs freezeL V.mut L.mut aJ eF gQ be bC aN dC bQ bj bX L.bD aY dq ca dD bU cf wp_seq wp_block bm dA cE bN cF wp_skip wp_exit wp_ret co cH cL cK cP cQ cO bV aM L.bC aV aT aU dz bt storeD bf fm ai ct aA nq L.bG L.closed V.closed PV.bare PV.flat
def Jn {z:Nat}{r:List (List PV)}:da (.one (.own z r))=bY r:=rfl
def jy {α:Type}(f:α->Nat)(xs:List α):Nat:=(xs.map f).sum
def pt {α:Type}{f:α->Nat}{xs:List α}{k:Nat}(hk:k<xs.length):jy f (xs.take (k+1))=jy f (xs.take k)+f xs[k]:=by
 unfold jy;rw[ZX hk,List.map_append,List.sum_append];simp
def tf {α:Type}{f:α->Nat}{c:Nat}(h:∀x,f x<=c):∀(xs:List α),jy f xs<=c*xs.length
 |[]=>by simp[jy]
 |x::xs=>by
  have:=tf h xs
  have:=h x
  simp only[jy,Zv,List.sum_cons,Zo,Nat.mul_add]at*
  omega
def vY (x:Y1):Nat:=(nC x.aX).length+(vd x.aq).length
def og (x:Y1):vY x<=110:=by have:=Ft x.aX;have:=Fu x.aq;unfold vY;omega
def nn (s:Y7):Nat:=jy vY s.a0
def r7 {s:Y7}(h:s.Ok 1048576):ag Ph aC 197 [s.v]=some (aa .i64 (nn s:Nat)):=by
 refine ae rfl ?_
 simp +contextual (maxSteps:=9^9) [oK]
 refine aB bh Cl.fin [.f,.f,.f,.t,.f,.f,.f,.t,.t,.t,.f,.f,.f,.f,.f,.f,.f,.f,.f,.f,.f,.f,.f,.f,.f,.f] (fun k=>[(3,aa .i64 (jy vY (s.a0.take k):Nat)),(9,aa .i64 k)]) s.a0.length (fun _=>false) rfl (by simp[jy]) (fun k hk _=> ?_) (fun _ _=> ?_)
 ·have hx:=Y1.e.eq_1 s.a0[k]
  have hi:=Y1.Ok.mono (B:=maxLen) (by unfold maxLen;omega) (h.2.1.2 _ (Zf hk))
  have e1:=An hi.1
  have e2:=vE hi.2
  have l1:=Ft s.a0[k].aX
  have l2:=Fu s.a0[k].aq
  have l3:=tf og (s.a0.take k)
  have l4:(s.a0.take k).length<=1048576:=by rw[ZM];have:=h.2.1.1;omega
  have ht:jy vY (s.a0.take (k+1))=jy vY (s.a0.take k)+((nC s.a0[k].aX).length+(vd s.a0[k].aq).length):=pt hk
  rw[ht]
  generalize jy vY (s.a0.take k)=A at l3⊢
  have g:=G9 s.a0[k].aq
  generalize CY s.a0[k].aq=W at e2 g
  have q1:(ar (nC s.a0[k].aX)).length=(nC s.a0[k].aX).length:=bZ
  have q2:(ar (vd s.a0[k].aq)).length=(vd s.a0[k].aq).length:=bZ
  generalize (nC s.a0[k].aX).length=a at l1 q1⊢
  generalize (vd s.a0[k].aq).length=b at l2 q2⊢
  have w1:IntKind.i64.wrap ((a:Int)+(b:Int))=(a:Int)+(b:Int):=by rw[IntKind.wrap_i64];omega
  have w2:IntKind.i64.wrap ((A:Int)+((a:Int)+(b:Int)))=(A:Int)+((a:Int)+(b:Int)):=by rw[IntKind.wrap_i64];omega
  have w3:IntKind.i64.wrap ((A:Int)+(a:Int))=(A:Int)+(a:Int):=by rw[IntKind.wrap_i64];omega
  have w4:IntKind.i64.wrap ((A:Int)+(a:Int)+(b:Int))=(A:Int)+((a:Int)+(b:Int)):=by rw[IntKind.wrap_i64];omega
  simp(maxSteps:=9^9) [jH,hk,hx,e1,e2,Jn, ↓g,q1,q2,w1,w2,w3,w4,aL (n:=s.a0.length) (by have:=h.2.1.1;unfold maxLen;omega) hk,bd hk,-da]
 ·rw[F']
  simp(maxSteps:=9^9) [jH,nn]
def sd {s:Y7}(h:s.Ok 1048576):ag Ph aC 194 [s.v]=some (aa .i64 (nn s:Nat)):=by
 refine ae rfl ?_
 simp +contextual (maxSteps:=9^9) [oX]
 refine aB bh Cl.fin [.f,.t,.f,.t,.t,.f,.f,.f,.f,.f,.f,.f,.f,.f,.f,.f,.f,.f,.f,.f,.f,.f,.f,.f,.f,.f,.f,.f,.f,.f,.f,.f] (fun k=>[(3,aa .i64 (jy vY (s.a0.take k):Nat)),(4,aa .i64 k)]) s.a0.length (fun _=>false) rfl (by simp[jy]) (fun k hk _=> ?_) (fun _ _=> ?_)
 ·have hx:=Y1.e.eq_1 s.a0[k]
  have hi:=Y1.Ok.mono (B:=maxLen) (by unfold maxLen;omega) (h.2.1.2 _ (Zf hk))
  have e1:=AO hi.1
  have e2:=vZ hi.2
  have l1:=Ft s.a0[k].aX
  have l2:=Fu s.a0[k].aq
  have l3:=tf og (s.a0.take k)
  have l4:(s.a0.take k).length<=1048576:=by rw[ZM];have:=h.2.1.1;omega
  have ht:jy vY (s.a0.take (k+1))=jy vY (s.a0.take k)+((nC s.a0[k].aX).length+(vd s.a0[k].aq).length):=pt hk
  rw[ht]
  generalize jy vY (s.a0.take k)=A at l3⊢
  have g:=G9 s.a0[k].aq
  generalize CY s.a0[k].aq=W at e2 g
  have q1:(ar (nC s.a0[k].aX)).length=(nC s.a0[k].aX).length:=bZ
  have q2:(ar (vd s.a0[k].aq)).length=(vd s.a0[k].aq).length:=bZ
  generalize (nC s.a0[k].aX).length=a at l1 q1⊢
  generalize (vd s.a0[k].aq).length=b at l2 q2⊢
  have w1:IntKind.i64.wrap ((a:Int)+(b:Int))=(a:Int)+(b:Int):=by rw[IntKind.wrap_i64];omega
  have w2:IntKind.i64.wrap ((A:Int)+((a:Int)+(b:Int)))=(A:Int)+((a:Int)+(b:Int)):=by rw[IntKind.wrap_i64];omega
  have w3:IntKind.i64.wrap ((A:Int)+(a:Int))=(A:Int)+(a:Int):=by rw[IntKind.wrap_i64];omega
  have w4:IntKind.i64.wrap ((A:Int)+(a:Int)+(b:Int))=(A:Int)+((a:Int)+(b:Int)):=by rw[IntKind.wrap_i64];omega
  simp(maxSteps:=9^9) [jM,hk,hx,e1,e2,Jn, ↓g,q1,q2,w1,w2,w3,w4,aL (n:=s.a0.length) (by have:=h.2.1.1;unfold maxLen;omega) hk,bd hk,-da]
 ·rw[F']
  simp(maxSteps:=9^9) [jM,nn]
def ph {α:Type}{f:α->Nat}{c:Nat}:∀{xs:List α},(∀x∈xs,f x<=c)->jy f xs<=c*xs.length
 |[],_=>by simp[jy]
 |x::xs,h=>by
  have h1:=ph (xs:=xs) (fun y hy=>h y (by simp[hy]))
  have h2:=h x (by simp)
  simp only[jy,Zv,List.sum_cons,Zo,Nat.mul_add]at*
  omega
def uU (d:YF):Nat:=jy nn d.aA
def AL {d:YF}(h:d.Ok 1048576):uU d<=115343360*1048576:=Zc (ph (c:=115343360) fun s hs=>Zc (tf og _) (by have:=(h.2.2.1.2 s hs).2.1.1;omega)) (Nat.mul_le_mul_left _ h.2.2.1.1)
def vG {d:YF}(h:d.Ok 1048576):ag Ph aC 224 [d.v]=some (aa .i64 (uU d:Nat)):=by
 refine ae rfl ?_
 simp +contextual (maxSteps:=9^9) [lP]
 refine aB bh Cl.fin [.f,.f,.f,.t,.f,.f,.f,.t,.t,.t,.f,.f,.f,.f,.f,.f,.f,.f,.f] (fun k=>[(3,aa .i64 (jy nn (d.aA.take k):Nat)),(9,aa .i64 k)]) d.aA.length (fun _=>false) rfl (by simp[jy]) (fun k hk _=> ?_) (fun _ _=> ?_)
 ·have hx:=Y7.e.eq_1 d.aA[k]
  have hi:=h.2.2.1.2 _ (Zf hk)
  have e1:=r7 hi
  have l1:nn d.aA[k]<=115343360:=Zc (tf og _) (by have:=hi.2.1.1;omega)
  have l3:=ph (f:=nn) (c:=115343360) (xs:=d.aA.take k) (fun s hs=>Zc (tf og _) (by have:=(h.2.2.1.2 s (ZI hs)).2.1.1;omega))
  have l4:(d.aA.take k).length<=1048576:=by rw[ZM];have:=h.2.2.1.1;omega
  rw[pt hk]
  generalize jy nn (d.aA.take k)=A at l3⊢
  generalize nn d.aA[k]=a at l1 e1⊢
  have w1:IntKind.i64.wrap ((A:Int)+(a:Int))=(A:Int)+(a:Int):=by rw[IntKind.wrap_i64];omega
  simp(maxSteps:=9^9) [ik,hk,hx,e1,w1,aL (n:=d.aA.length) (by have:=h.2.2.1.1;unfold maxLen;omega) hk,bd hk]
 ·rw[F']
  simp(maxSteps:=9^9) [ik,uU]
def B9 {x:YV}(h:x.Ok 1048576):ag Ph aC 196 [x.v]=some (aa .i64 (uU x.aF+x.az.length:Nat)):=by
 have e1:=vG h.1
 have l1:=AL h.1
 have l2:=h.2.1
 generalize uU x.aF=A at e1 l1⊢
 have w1:IntKind.i64.wrap ((A:Int)+(x.az.length:Int))=(A:Int)+(x.az.length:Int):=by rw[IntKind.wrap_i64];omega
 refine ae rfl ?_
 simp +contextual (maxSteps:=9^9) [pH,e1,w1,bZ]
def wb {d:YF}(h:d.Ok 1048576):ag Ph aC 220 [d.v]=some (aa .i64 (uU d:Nat)):=by
 refine ae rfl ?_
 simp +contextual (maxSteps:=9^9) [lV]
 refine aB bh Cl.fin [.f,.t,.f,.t,.t,.f,.f,.f,.f,.f,.f,.f,.f,.f,.f,.f,.f,.f,.f,.f,.f] (fun k=>[(3,aa .i64 (jy nn (d.aA.take k):Nat)),(4,aa .i64 k)]) d.aA.length (fun _=>false) rfl (by simp[jy]) (fun k hk _=> ?_) (fun _ _=> ?_)
 ·have hx:=Y7.e.eq_1 d.aA[k]
  have hi:=h.2.2.1.2 _ (Zf hk)
  have e1:=sd hi
  have l1:nn d.aA[k]<=115343360:=Zc (tf og _) (by have:=hi.2.1.1;omega)
  have l3:=ph (f:=nn) (c:=115343360) (xs:=d.aA.take k) (fun s hs=>Zc (tf og _) (by have:=(h.2.2.1.2 s (ZI hs)).2.1.1;omega))
  have l4:(d.aA.take k).length<=1048576:=by rw[ZM];have:=h.2.2.1.1;omega
  rw[pt hk]
  generalize jy nn (d.aA.take k)=A at l3⊢
  generalize nn d.aA[k]=a at l1 e1⊢
  have w1:IntKind.i64.wrap ((A:Int)+(a:Int))=(A:Int)+(a:Int):=by rw[IntKind.wrap_i64];omega
  simp(maxSteps:=9^9) [io,hk,hx,e1,w1,aL (n:=d.aA.length) (by have:=h.2.2.1.1;unfold maxLen;omega) hk,bd hk]
 ·rw[F']
  simp(maxSteps:=9^9) [io,uU]
def CE {x:YV}(h:x.Ok 1048576):ag Ph aC 193 [x.v]=some (aa .i64 (uU x.aF+x.az.length:Nat)):=by
 have e1:=wb h.1
 have l1:=AL h.1
 have l2:=h.2.1
 generalize uU x.aF=A at e1 l1⊢
 have w1:IntKind.i64.wrap ((A:Int)+(x.az.length:Int))=(A:Int)+(x.az.length:Int):=by rw[IntKind.wrap_i64];omega
 refine ae rfl ?_
 simp +contextual (maxSteps:=9^9) [pT,e1,w1,bZ]
end Gi
