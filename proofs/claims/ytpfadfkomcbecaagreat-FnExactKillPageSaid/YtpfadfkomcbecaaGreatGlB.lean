/- Of this proof. -/
import Derived.Test.YtpfadfkomcbecaaGreatGkt
import Derived.Test.YtpfadfkomcbecaaGreatGxt
set_option linter.unusedSimpArgs false
set_option linter.unusedVariables false
namespace Gi
open Go Go.RowKit
set_option maxHeartbeats 8000000
set_option maxRecDepth 4000
attribute [local simp] start sj bf bU dQ fY dP fX f7 f6 uH uQ uI uR uJ uS uK uT uL uU uM uV uN uW uO uX uP uY V.cells plain bm gu isInt isStr isBool bin cQ jJ cR jK fZ un asList L.view ap V.view viewL aV au cU bX bN comp aK bq dw co bz bw bx bI bi cq aW bD aR aX bG cr bF bC bH V.flat L.flat dG dk bt putAt thaw thawL thawT V.ow f5 dU dV cS f4 cT dS freezeVs freezeLs freezeL V.mut L.mut aJ eS iO aN bd aG dj bK bg bQ L.ren aT dH ca dL bO bB wp_seq wp_block bv dY cW bY cX wp_skip wp_exit wp_ret cG cE cP cH dd de db cj aU L.notArr aQ aO aP dX bn storeD a9 fR bo cD be nX L.mov L.closed V.closed PV.bare PV.flat
theorem M4 {n:Int}(h1: -9223372036854775808≤n)(h2:n≤9223372036854775807):IntKind.i64.wrap n=n:=by rw[IntKind.wrap_i64];omega
theorem wrap_u8 (n:Int):IntKind.u8.wrap n=n%256:=by simp[IntKind.wrap,IntKind.signed,IntKind.bits]
theorem BG {x:Nat}{b:Int}{k:Nat}(hk:k≤63)(h:b=(k:Int)):lw .shr .i64 (x:Int) b=some (aa .i64 ((x/2^k:Nat):Int)):=by
 subst h
 simp only[lw]
 rw[if_neg (by omega),show min (Int.toNat (k:Int)) IntKind.i64.bits=k by rw[Int.toNat_natCast];exact Nat.min_eq_left (Nat.le_succ_of_le hk)]
 rw[Int.fdiv_eq_ediv_of_nonneg _ (Int.le_of_lt (Int.pow_pos (by decide)))]
 norm_cast
theorem xl {k:XKey}(h:k.Ok maxLen):ag Ph aF 225 [k.v]=some (.one (.own 1 (al (lC k)))):=by
 have e1:=nh h
 refine ae (fn:=hZ) rfl ?_
 cases c1:qE k<;>rw[c1]at e1
 ·rw[show lC k=[] by simp[lC,c1]]
  simp(maxSteps:=9999999) [hZ,e1,show al []=[]from rfl]
 obtain⟨h1,h2,h3,h4,h5,h6⟩:=zI c1
 have m1:1+k.text.length≤140737488355328∧1+k.text.length≤9223372036854775807∧7+k.text.length≤140737488355328∧7+k.text.length≤9223372036854775807∧k.text.length+7≤140737488355328∧k.text.length+7≤9223372036854775807:=by omega
 have hk:k.kind%256=k.kind:=by omega
 obtain⟨x,hx⟩:∃x:Nat,k.n+1000000000000=(x:Int):=⟨(k.n+1000000000000).toNat,by omega⟩
 have hw:IntKind.i64.wrap (k.n+1000000000000)=(x:Int):=by rw[hx,IntKind.wrap_i64];omega
 have s0:=BG (x:=x) (b:=0) (k:=0) (by decide) rfl
 have s1:=BG (x:=x) (b:=8) (k:=8) (by decide) rfl
 have s2:=BG (x:=x) (b:=16) (k:=16) (by decide) rfl
 have s3:=BG (x:=x) (b:=24) (k:=24) (by decide) rfl
 have s4:=BG (x:=x) (b:=32) (k:=32) (by decide) rfl
 have s5:=BG (x:=x) (b:=40) (k:=40) (by decide) rfl
 have lt:dK 5 0=false∧dK 4 0=false∧dK 3 0=false∧dK 2 0=false∧dK 1 0=false∧dK 0 0=false∧dK (-1) 0=true:=by decide
 have hkb:(UInt8.ofNat k.kind.toNat).toNat=k.kind.toNat:=by simp;omega
 have hkt:((k.kind.toNat:Nat):Int)=k.kind:=by omega
 have w1:=iT k.text
 by_cases hq:k.kind=2
 ·have he:al (lC k)=[.int .u8 k.kind]::al k.text:=by
   rw[show lC k=UInt8.ofNat k.kind.toNat::k.text by simp[lC,c1,hq]]
   simp only[al,List.map_cons,hkb,hkt]
  rw[he]
  have hb:(k.kind==2)=true:=by simp[hq]
  simp(maxSteps:=9999999) [hZ,e1,hb,hk,wrap_u8,m1,w1,bp,yd,iz,lt]
 ·have he:al (lC k)=[.int .u8 k.kind]::([.int .u8 ((x/2^40:Nat)%256:Int)]::[.int .u8 ((x/2^32:Nat)%256:Int)]::[.int .u8 ((x/2^24:Nat)%256:Int)]::[.int .u8 ((x/2^16:Nat)%256:Int)]::[.int .u8 ((x/2^8:Nat)%256:Int)]::[.int .u8 ((x/2^0:Nat)%256:Int)]::al k.text):=by
   rw[show lC k=UInt8.ofNat k.kind.toNat::(Sa x++k.text) by simp[lC,c1,hq,hx]]
   simp[al,Sa,hkb,hkt]
  rw[he]
  have hb:(k.kind==2)=false:=by simp[hq]
  simp(maxSteps:=9999999) [hZ,e1,hb,hk,hw,wrap_u8,M4,s0,s1,s2,s3,s4,s5,m1,w1,bp,lt,yd,iz]
theorem RB {n:Nat}:IntKind.i64.wrap ((BitVec.ofInt IntKind.i64.bits (n:Int)&&&BitVec.ofInt IntKind.i64.bits 255).toNat:Int)=(n:Int)%256:=by
 have e1:(BitVec.ofInt IntKind.i64.bits (n:Int)).toNat=n%2^64:=by
  show(BitVec.ofInt 64 (n:Int)).toNat=n%2^64
  simp[BitVec.toNat_ofInt]
 have e2:(BitVec.ofInt IntKind.i64.bits 255).toNat=255:=by decide
 rw[BitVec.toNat_and,e1,e2,show(255:Nat)=2^8-1 from rfl,Nat.and_two_pow_sub_one_eq_mod]
 rw[IntKind.wrap_i64];omega
theorem tt (y:Nat):IntKind.i64.wrap (((((y:Int)%2^IntKind.i64.bits).toNat&&&255%2^IntKind.i64.bits:Nat)):Int)%256=(y:Int)%256:=by
 have h:=RB (n:=y)
 rw[BitVec.toNat_and,BitVec.toNat_ofInt,BitVec.toNat_ofInt]at h
 have e:(255%((2^IntKind.i64.bits:Nat):Int)).toNat=255%2^IntKind.i64.bits:=by decide
 rw[e]at h
 have e3:((2^IntKind.i64.bits:Nat):Int)=(2:Int)^IntKind.i64.bits:=by decide
 rw[e3]at h
 rw[h];omega
theorem xP {k:XKey}(h:k.Ok maxLen):ag Ph aF 221 [k.v]=some (.one (.own 1 (al (lC k)))):=by
 have e1:=ni h
 refine ae (fn:=ie) rfl ?_
 cases c1:qE k<;>rw[c1]at e1
 ·rw[show lC k=[] by simp[lC,c1]]
  simp(maxSteps:=9999999) [ie,e1,show al []=[]from rfl]
 obtain⟨h1,h2,h3,h4,h5,h6⟩:=zI c1
 have m1:1+k.text.length≤140737488355328∧1+k.text.length≤9223372036854775807∧7+k.text.length≤140737488355328∧7+k.text.length≤9223372036854775807∧k.text.length+7≤140737488355328∧k.text.length+7≤9223372036854775807:=by omega
 have hk:k.kind%256=k.kind:=by omega
 obtain⟨x,hx⟩:∃x:Nat,k.n+1000000000000=(x:Int):=⟨(k.n+1000000000000).toNat,by omega⟩
 have hw:IntKind.i64.wrap (k.n+1000000000000)=(x:Int):=by rw[hx,IntKind.wrap_i64];omega
 have s0:=BG (x:=x) (b:=0) (k:=0) (by decide) rfl
 have s1:=BG (x:=x) (b:=8) (k:=8) (by decide) rfl
 have s2:=BG (x:=x) (b:=16) (k:=16) (by decide) rfl
 have s3:=BG (x:=x) (b:=24) (k:=24) (by decide) rfl
 have s4:=BG (x:=x) (b:=32) (k:=32) (by decide) rfl
 have s5:=BG (x:=x) (b:=40) (k:=40) (by decide) rfl
 have lt:dK 5 0=false∧dK 4 0=false∧dK 3 0=false∧dK 2 0=false∧dK 1 0=false∧dK 0 0=false∧dK (-1) 0=true:=by decide
 have hkb:(UInt8.ofNat k.kind.toNat).toNat=k.kind.toNat:=by simp;omega
 have hkt:((k.kind.toNat:Nat):Int)=k.kind:=by omega
 have w1:=iT k.text
 by_cases hq:k.kind=2
 ·have he:al (lC k)=[.int .u8 k.kind]::al k.text:=by
   rw[show lC k=UInt8.ofNat k.kind.toNat::k.text by simp[lC,c1,hq]]
   simp only[al,List.map_cons,hkb,hkt]
  rw[he]
  have hb:(k.kind==2)=true:=by simp[hq]
  simp(maxSteps:=9999999) [ie,e1,hb,hk,wrap_u8,m1,w1,bp,yd,iC,lt]
 ·have he:al (lC k)=[.int .u8 k.kind]::([.int .u8 ((x/2^40:Nat)%256:Int)]::[.int .u8 ((x/2^32:Nat)%256:Int)]::[.int .u8 ((x/2^24:Nat)%256:Int)]::[.int .u8 ((x/2^16:Nat)%256:Int)]::[.int .u8 ((x/2^8:Nat)%256:Int)]::[.int .u8 ((x/2^0:Nat)%256:Int)]::al k.text):=by
   rw[show lC k=UInt8.ofNat k.kind.toNat::(Sa x++k.text) by simp[lC,c1,hq,hx]]
   simp[al,Sa,hkb,hkt]
  rw[he]
  have hb:(k.kind==2)=false:=by simp[hq]
  simp(maxSteps:=9999999) [ie,e1,hb,hk,hw,wrap_u8,M4,s0,s1,s2,s3,s4,s5,m1,w1,bp,lt,yd,iC]
  have k5:=tt (x/1099511627776)
  have k4:=tt (x/4294967296)
  have k3:=tt (x/16777216)
  have k2:=tt (x/65536)
  have k1:=tt (x/256)
  simp only[Int.natCast_ediv,Int.cast_ofNat_Int]at k5 k4 k3 k2 k1
  have k0:=tt x
  rw[show(x:Int)%2^IntKind.i64.bits=((x%2^IntKind.i64.bits:Nat):Int) by norm_cast,Int.toNat_natCast]at k0
  exact⟨k5,k4,k3,k2,k1,k0⟩
end Gi
namespace Gi
open Go Go.RowKit
theorem XKey.Ok.mono {A B:Nat}(hAB:A≤B){x:XKey}(h:x.Ok A):x.Ok B:=by
 obtain⟨h0,h1,h2⟩:=h
 exact⟨h0,h1,Nat.le_trans h2 hAB⟩
theorem XField.Ok.mono {A B:Nat}(hAB:A≤B){x:XField}(h:x.Ok A):x.Ok B:=by
 obtain⟨h0,h1⟩:=h
 exact⟨Nat.le_trans h0 hAB,h1⟩
theorem XRecord.Ok.mono {A B:Nat}(hAB:A≤B){x:XRecord}(h:x.Ok A):x.Ok B:=by
 have h0:=h
 exact⟨Nat.le_trans h0.1 hAB,fun y m=>XField.Ok.mono hAB (h0.2 y m)⟩
theorem XItem.Ok.mono {A B:Nat}(hAB:A≤B){x:XItem}(h:x.Ok A):x.Ok B:=by
 obtain⟨h0,h1⟩:=h
 exact⟨XKey.Ok.mono hAB h0,XRecord.Ok.mono hAB h1⟩
theorem XStore.Ok.mono {A B:Nat}(hAB:A≤B){x:XStore}(h:x.Ok A):x.Ok B:=by
 obtain⟨h0,h1,h2⟩:=h
 exact⟨Nat.le_trans h0 hAB,⟨Nat.le_trans h1.1 hAB,fun y m=>XItem.Ok.mono hAB (h1.2 y m)⟩,h2⟩
theorem XWrite.Ok.mono {A B:Nat}(hAB:A≤B){x:XWrite}(h:x.Ok A):x.Ok B:=by
 obtain⟨h0,h1,h2,h3,h4⟩:=h
 exact⟨h0,h1,XKey.Ok.mono hAB h2,Nat.le_trans h3 hAB,h4⟩
theorem XApplied.Ok.mono {A B:Nat}(hAB:A≤B){x:XApplied}(h:x.Ok A):x.Ok B:=by
 obtain⟨h0,h1⟩:=h
 exact⟨h0,h1⟩
theorem XServer.Ok.mono {A B:Nat}(hAB:A≤B){x:XServer}(h:x.Ok A):x.Ok B:=by
 obtain⟨h0,h1,h2⟩:=h
 exact⟨XStore.Ok.mono hAB h0,⟨Nat.le_trans h1.1 hAB,fun y m=>XApplied.Ok.mono hAB (h1.2 y m)⟩,⟨Nat.le_trans h2.1 hAB,fun y m=>XWrite.Ok.mono hAB (h2.2 y m)⟩⟩
theorem XOutbox.Ok.mono {A B:Nat}(hAB:A≤B){x:XOutbox}(h:x.Ok A):x.Ok B:=by
 obtain⟨h0,h1,h2⟩:=h
 exact⟨h0,h1,⟨Nat.le_trans h2.1 hAB,fun y m=>XWrite.Ok.mono hAB (h2.2 y m)⟩⟩
theorem XSync.Ok.mono {A B:Nat}(hAB:A≤B){x:XSync}(h:x.Ok A):x.Ok B:=by
 obtain⟨h0,h1,h2⟩:=h
 exact⟨XOutbox.Ok.mono hAB h0,h1,h2⟩
theorem XReplica.Ok.mono {A B:Nat}(hAB:A≤B){x:XReplica}(h:x.Ok A):x.Ok B:=by
 obtain⟨h0,h1,h2⟩:=h
 exact⟨XStore.Ok.mono hAB h0,h1,XSync.Ok.mono hAB h2⟩
theorem XResponse.Ok.mono {A B:Nat}(hAB:A≤B){x:XResponse}(h:x.Ok A):x.Ok B:=by
 obtain⟨h0,h1,h2,h3⟩:=h
 exact⟨h0,h1,h2,Nat.le_trans h3 hAB⟩
theorem XCached.Ok.mono {A B:Nat}(hAB:A≤B){x:XCached}(h:x.Ok A):x.Ok B:=by
 obtain⟨h0,h1,h2⟩:=h
 exact⟨Nat.le_trans h0 hAB,Nat.le_trans h1 hAB,XResponse.Ok.mono hAB h2⟩
theorem XCache.Ok.mono {A B:Nat}(hAB:A≤B){x:XCache}(h:x.Ok A):x.Ok B:=by
 obtain⟨h0,h1⟩:=h
 exact⟨h0,⟨Nat.le_trans h1.1 hAB,fun y m=>XCached.Ok.mono hAB (h1.2 y m)⟩⟩
theorem XCacheSet.Ok.mono {A B:Nat}(hAB:A≤B){x:XCacheSet}(h:x.Ok A):x.Ok B:=by
 have h0:=h
 exact⟨Nat.le_trans h0.1 hAB,fun y m=>XCache.Ok.mono hAB (h0.2 y m)⟩
theorem XRegistration.Ok.mono {A B:Nat}(hAB:A≤B){x:XRegistration}(h:x.Ok A):x.Ok B:=by
 obtain⟨h0,h1,h2,h3⟩:=h
 exact⟨Nat.le_trans h0 hAB,h1,h2,h3⟩
theorem XLoaded.Ok.mono {A B:Nat}(hAB:A≤B){x:XLoaded}(h:x.Ok A):x.Ok B:=by
 obtain⟨h0,h1⟩:=h
 exact⟨Nat.le_trans h0 hAB,h1⟩
theorem XInstr.Ok.mono {A B:Nat}(hAB:A≤B){x:XInstr}(h:x.Ok A):x.Ok B:=by
 obtain⟨h0,h1,h2,h3⟩:=h
 exact⟨h0,h1,h2,Nat.le_trans h3 hAB⟩
theorem XMachine.Ok.mono {A B:Nat}(hAB:A≤B){x:XMachine}(h:x.Ok A):x.Ok B:=by
 obtain⟨h0,h1,h2,h3⟩:=h
 exact⟨⟨Nat.le_trans h0.1 hAB,fun y m=>XInstr.Ok.mono hAB (h0.2 y m)⟩,h1,⟨Nat.le_trans h2.1 hAB,h2.2⟩,h3⟩
theorem XPage.Ok.mono {A B:Nat}(hAB:A≤B){x:XPage}(h:x.Ok A):x.Ok B:=by
 obtain⟨h0,h1,h2,h3,h4,h5⟩:=h
 exact⟨h0,Nat.le_trans h1 hAB,Nat.le_trans h2 hAB,h3,⟨Nat.le_trans h4.1 hAB,fun y m=>XLoaded.Ok.mono hAB (h4.2 y m)⟩,XMachine.Ok.mono hAB h5⟩
theorem XIndexDef.Ok.mono {A B:Nat}(hAB:A≤B){x:XIndexDef}(h:x.Ok A):x.Ok B:=by
 obtain⟨h0,h1⟩:=h
 exact⟨Nat.le_trans h0 hAB,Nat.le_trans h1 hAB⟩
theorem XDatabase.Ok.mono {A B:Nat}(hAB:A≤B){x:XDatabase}(h:x.Ok A):x.Ok B:=by
 obtain⟨h0,h1,h2,h3⟩:=h
 exact⟨Nat.le_trans h0 hAB,h1,⟨Nat.le_trans h2.1 hAB,fun y m=>XStore.Ok.mono hAB (h2.2 y m)⟩,⟨Nat.le_trans h3.1 hAB,fun y m=>XIndexDef.Ok.mono hAB (h3.2 y m)⟩⟩
theorem XDisk.Ok.mono {A B:Nat}(hAB:A≤B){x:XDisk}(h:x.Ok A):x.Ok B:=by
 obtain⟨h0,h1,h2⟩:=h
 exact⟨XDatabase.Ok.mono hAB h0,Nat.le_trans h1 hAB,h2⟩
theorem XBucket.Ok.mono {A B:Nat}(hAB:A≤B){x:XBucket}(h:x.Ok A):x.Ok B:=by
 obtain⟨h0,h1,h2,h3,h4,h5,h6⟩:=h
 exact⟨Nat.le_trans h0 hAB,Nat.le_trans h1 hAB,XRegistration.Ok.mono hAB h2,XCacheSet.Ok.mono hAB h3,XDisk.Ok.mono hAB h4,XReplica.Ok.mono hAB h5,h6⟩
theorem XStorage.Ok.mono {A B:Nat}(hAB:A≤B){x:XStorage}(h:x.Ok A):x.Ok B:=by
 have h0:=h
 exact⟨Nat.le_trans h0.1 hAB,fun y m=>XBucket.Ok.mono hAB (h0.2 y m)⟩
theorem XLock.Ok.mono {A B:Nat}(hAB:A≤B){x:XLock}(h:x.Ok A):x.Ok B:=by
 obtain⟨h0,h1⟩:=h
 exact⟨Nat.le_trans h0 hAB,h1⟩
theorem XLockTable.Ok.mono {A B:Nat}(hAB:A≤B){x:XLockTable}(h:x.Ok A):x.Ok B:=by
 have h0:=h
 exact⟨Nat.le_trans h0.1 hAB,fun y m=>XLock.Ok.mono hAB (h0.2 y m)⟩
theorem XMail.Ok.mono {A B:Nat}(hAB:A≤B){x:XMail}(h:x.Ok A):x.Ok B:=by
 obtain⟨h0,h1,h2⟩:=h
 exact⟨h0,h1,h2⟩
theorem XChannel.Ok.mono {A B:Nat}(hAB:A≤B){x:XChannel}(h:x.Ok A):x.Ok B:=by
 have h0:=h
 exact⟨Nat.le_trans h0.1 hAB,fun y m=>XMail.Ok.mono hAB (h0.2 y m)⟩
theorem XSite.Ok.mono {A B:Nat}(hAB:A≤B){x:XSite}(h:x.Ok A):x.Ok B:=by
 obtain⟨h0,h1,h2⟩:=h
 exact⟨Nat.le_trans h0 hAB,h1,⟨Nat.le_trans h2.1 hAB,fun y m=>Nat.le_trans (h2.2 y m) hAB⟩⟩
theorem XWorld.Ok.mono {A B:Nat}(hAB:A≤B){x:XWorld}(h:x.Ok A):x.Ok B:=by
 obtain⟨h0,h2,h3,h4,h5,h6,h7,h8,h9⟩:=h
 exact⟨h0,h2,XStorage.Ok.mono hAB h3,⟨Nat.le_trans h4.1 hAB,fun y m=>XPage.Ok.mono hAB (h4.2 y m)⟩,h5,XLockTable.Ok.mono hAB h6,XChannel.Ok.mono hAB h7,⟨Nat.le_trans h8.1 hAB,fun y m=>XSite.Ok.mono hAB (h8.2 y m)⟩,⟨Nat.le_trans h9.1 hAB,fun y m=>XServer.Ok.mono hAB (h9.2 y m)⟩⟩
end Gi
namespace Gi
open Go Go.RowKit
set_option maxHeartbeats 8000000
set_option maxRecDepth 4000
attribute [local simp] start sj bf bU dQ fY dP fX f7 f6 uH uQ uI uR uJ uS uK uT uL uU uM uV uN uW uO uX uP uY V.cells plain bm gu isInt isStr isBool bin cQ jJ cR jK fZ un asList L.view ap V.view viewL aV au cU bX bN comp aK bq dw co bz bw bx bI bi cq aW bD aR aX bG cr bF bC bH V.flat L.flat dG dk bt putAt thaw thawL thawT V.ow f5 dU dV cS f4 cT dS freezeVs freezeLs freezeL V.mut L.mut aJ eS iO aN bd aG dj bK bg bQ L.ren aT dH ca dL bO bB wp_seq wp_block bv dY cW bY cX wp_skip wp_exit wp_ret cG cE cP cH dd de db cj aU L.notArr aQ aO aP dX bn storeD a9 fR bo cD be nX L.mov L.closed V.closed PV.bare PV.flat
theorem GA {z:Nat}{r:List (List PV)}:dG (.one (.own z r))=bu r:=rfl
def iq {α:Type}(f:α→Nat)(xs:List α):Nat:=(xs.map f).sum
theorem nn {α:Type}{f:α→Nat}{xs:List α}{k:Nat}(hk:k<xs.length):iq f (xs.take (k+1))=iq f (xs.take k)+f xs[k]:=by
 unfold iq;rw[List.take_succ_eq_append_getElem hk,List.map_append,List.sum_append];simp
theorem qm {α:Type}{f:α→Nat}{c:Nat}(h:∀x,f x≤c):∀(xs:List α),iq f xs≤c*xs.length
 |[]=>by simp[iq]
 |x::xs=>by
  have:=qm h xs
  have:=h x
  simp only[iq,List.map_cons,List.sum_cons,List.length_cons,Nat.mul_add]at*
  omega
def sV (x:XItem):Nat:=(lC x.key).length+(sa x.rcd).length
theorem mq (x:XItem):sV x≤110:=by have:=CC x.key;have:=CE x.rcd;unfold sV;omega
def lm (s:XStore):Nat:=iq sV s.items
theorem pS {s:XStore}(h:s.Ok 1048576):ag Ph aF 197 [s.v]=some (aa .i64 (lm s:Nat)):=by
 refine ae (fn:=mQ) rfl ?_
 simp +contextual (maxSteps:=9999999) [mQ]
 refine aA aM Cl.fin [.f,.f,.f,.t,.f,.f,.f,.t,.t,.t,.f,.f,.f,.f,.f,.f,.f,.f,.f,.f,.f,.f,.f,.f,.f,.f] (fun k=>[(3,aa .i64 (iq sV (s.items.take k):Nat)),(9,aa .i64 k)]) s.items.length (fun _=>false) rfl (by simp[iq]) (fun k hk _=> ?_) (fun _ _=> ?_)
 ·have hx:=XItem.e.eq_1 s.items[k]
  have hi:=XItem.Ok.mono (B:=maxLen) (by unfold maxLen;omega) (h.2.1.2 _ (List.getElem_mem hk))
  have e1:=xl hi.1
  have e2:=sC hi.2
  have l1:=CC s.items[k].key
  have l2:=CE s.items[k].rcd
  have l3:=qm mq (s.items.take k)
  have l4:(s.items.take k).length≤1048576:=by rw[List.length_take];have:=h.2.1.1;omega
  have ht:iq sV (s.items.take (k+1))=iq sV (s.items.take k)+((lC s.items[k].key).length+(sa s.items[k].rcd).length):=nn hk
  rw[ht]
  generalize iq sV (s.items.take k)=A at l3⊢
  have g:=Ed s.items[k].rcd
  generalize As s.items[k].rcd=W at e2 g
  have q1:(al (lC s.items[k].key)).length=(lC s.items[k].key).length:=bp
  have q2:(al (sa s.items[k].rcd)).length=(sa s.items[k].rcd).length:=bp
  generalize (lC s.items[k].key).length=a at l1 q1⊢
  generalize (sa s.items[k].rcd).length=b at l2 q2⊢
  have w1:IntKind.i64.wrap ((a:Int)+(b:Int))=(a:Int)+(b:Int):=by rw[IntKind.wrap_i64];omega
  have w2:IntKind.i64.wrap ((A:Int)+((a:Int)+(b:Int)))=(A:Int)+((a:Int)+(b:Int)):=by rw[IntKind.wrap_i64];omega
  have w3:IntKind.i64.wrap ((A:Int)+(a:Int))=(A:Int)+(a:Int):=by rw[IntKind.wrap_i64];omega
  have w4:IntKind.i64.wrap ((A:Int)+(a:Int)+(b:Int))=(A:Int)+((a:Int)+(b:Int)):=by rw[IntKind.wrap_i64];omega
  simp(maxSteps:=9999999) [iA,hk,hx,e1,e2,GA, ↓g,q1,q2,w1,w2,w3,w4,aD (n:=s.items.length) (by have:=h.2.1.1;unfold maxLen;omega) hk,aS hk,-dG]
 ·rw[List.take_length]
  simp(maxSteps:=9999999) [iA,lm]
theorem pU {s:XStore}(h:s.Ok 1048576):ag Ph aF 194 [s.v]=some (aa .i64 (lm s:Nat)):=by
 refine ae (fn:=m8) rfl ?_
 simp +contextual (maxSteps:=9999999) [m8]
 refine aA aM Cl.fin [.f,.t,.f,.t,.t,.f,.f,.f,.f,.f,.f,.f,.f,.f,.f,.f,.f,.f,.f,.f,.f,.f,.f,.f,.f,.f,.f,.f,.f,.f,.f,.f] (fun k=>[(3,aa .i64 (iq sV (s.items.take k):Nat)),(4,aa .i64 k)]) s.items.length (fun _=>false) rfl (by simp[iq]) (fun k hk _=> ?_) (fun _ _=> ?_)
 ·have hx:=XItem.e.eq_1 s.items[k]
  have hi:=XItem.Ok.mono (B:=maxLen) (by unfold maxLen;omega) (h.2.1.2 _ (List.getElem_mem hk))
  have e1:=xP hi.1
  have e2:=sX hi.2
  have l1:=CC s.items[k].key
  have l2:=CE s.items[k].rcd
  have l3:=qm mq (s.items.take k)
  have l4:(s.items.take k).length≤1048576:=by rw[List.length_take];have:=h.2.1.1;omega
  have ht:iq sV (s.items.take (k+1))=iq sV (s.items.take k)+((lC s.items[k].key).length+(sa s.items[k].rcd).length):=nn hk
  rw[ht]
  generalize iq sV (s.items.take k)=A at l3⊢
  have g:=Ed s.items[k].rcd
  generalize As s.items[k].rcd=W at e2 g
  have q1:(al (lC s.items[k].key)).length=(lC s.items[k].key).length:=bp
  have q2:(al (sa s.items[k].rcd)).length=(sa s.items[k].rcd).length:=bp
  generalize (lC s.items[k].key).length=a at l1 q1⊢
  generalize (sa s.items[k].rcd).length=b at l2 q2⊢
  have w1:IntKind.i64.wrap ((a:Int)+(b:Int))=(a:Int)+(b:Int):=by rw[IntKind.wrap_i64];omega
  have w2:IntKind.i64.wrap ((A:Int)+((a:Int)+(b:Int)))=(A:Int)+((a:Int)+(b:Int)):=by rw[IntKind.wrap_i64];omega
  have w3:IntKind.i64.wrap ((A:Int)+(a:Int))=(A:Int)+(a:Int):=by rw[IntKind.wrap_i64];omega
  have w4:IntKind.i64.wrap ((A:Int)+(a:Int)+(b:Int))=(A:Int)+((a:Int)+(b:Int)):=by rw[IntKind.wrap_i64];omega
  simp(maxSteps:=9999999) [iE,hk,hx,e1,e2,GA, ↓g,q1,q2,w1,w2,w3,w4,aD (n:=s.items.length) (by have:=h.2.1.1;unfold maxLen;omega) hk,aS hk,-dG]
 ·rw[List.take_length]
  simp(maxSteps:=9999999) [iE,lm]
theorem nj {α:Type}{f:α→Nat}{c:Nat}:∀{xs:List α},(∀x∈xs,f x≤c)→iq f xs≤c*xs.length
 |[],_=>by simp[iq]
 |x::xs,h=>by
  have h1:=nj (xs:=xs) (fun y hy=>h y (by simp[hy]))
  have h2:=h x (by simp)
  simp only[iq,List.map_cons,List.sum_cons,List.length_cons,Nat.mul_add]at*
  omega
def rZ (d:XDatabase):Nat:=iq lm d.stores
theorem xO {d:XDatabase}(h:d.Ok 1048576):rZ d≤115343360*1048576:=Nat.le_trans (nj (c:=115343360) fun s hs=>Nat.le_trans (qm mq _) (by have:=(h.2.2.1.2 s hs).2.1.1;omega)) (Nat.mul_le_mul_left _ h.2.2.1.1)
theorem sE {d:XDatabase}(h:d.Ok 1048576):ag Ph aF 224 [d.v]=some (aa .i64 (rZ d:Nat)):=by
 refine ae (fn:=jZ) rfl ?_
 simp +contextual (maxSteps:=9999999) [jZ]
 refine aA aM Cl.fin [.f,.f,.f,.t,.f,.f,.f,.t,.t,.t,.f,.f,.f,.f,.f,.f,.f,.f,.f] (fun k=>[(3,aa .i64 (iq lm (d.stores.take k):Nat)),(9,aa .i64 k)]) d.stores.length (fun _=>false) rfl (by simp[iq]) (fun k hk _=> ?_) (fun _ _=> ?_)
 ·have hx:=XStore.e.eq_1 d.stores[k]
  have hi:=h.2.2.1.2 _ (List.getElem_mem hk)
  have e1:=pS hi
  have l1:lm d.stores[k]≤115343360:=Nat.le_trans (qm mq _) (by have:=hi.2.1.1;omega)
  have l3:=nj (f:=lm) (c:=115343360) (xs:=d.stores.take k) (fun s hs=>Nat.le_trans (qm mq _) (by have:=(h.2.2.1.2 s (List.mem_of_mem_take hs)).2.1.1;omega))
  have l4:(d.stores.take k).length≤1048576:=by rw[List.length_take];have:=h.2.2.1.1;omega
  rw[nn hk]
  generalize iq lm (d.stores.take k)=A at l3⊢
  generalize lm d.stores[k]=a at l1 e1⊢
  have w1:IntKind.i64.wrap ((A:Int)+(a:Int))=(A:Int)+(a:Int):=by rw[IntKind.wrap_i64];omega
  simp(maxSteps:=9999999) [gn,hk,hx,e1,w1,aD (n:=d.stores.length) (by have:=h.2.2.1.1;unfold maxLen;omega) hk,aS hk]
 ·rw[List.take_length]
  simp(maxSteps:=9999999) [gn,rZ]
theorem zC {x:XDisk}(h:x.Ok 1048576):ag Ph aF 196 [x.v]=some (aa .i64 (rZ x.base+x.log.length:Nat)):=by
 have e1:=sE h.1
 have l1:=xO h.1
 have l2:=h.2.1
 generalize rZ x.base=A at e1 l1⊢
 have w1:IntKind.i64.wrap ((A:Int)+(x.log.length:Int))=(A:Int)+(x.log.length:Int):=by rw[IntKind.wrap_i64];omega
 refine ae (fn:=nD) rfl ?_
 simp +contextual (maxSteps:=9999999) [nD,e1,w1,bp]
theorem sZ {d:XDatabase}(h:d.Ok 1048576):ag Ph aF 220 [d.v]=some (aa .i64 (rZ d:Nat)):=by
 refine ae (fn:=j7) rfl ?_
 simp +contextual (maxSteps:=9999999) [j7]
 refine aA aM Cl.fin [.f,.t,.f,.t,.t,.f,.f,.f,.f,.f,.f,.f,.f,.f,.f,.f,.f,.f,.f,.f,.f] (fun k=>[(3,aa .i64 (iq lm (d.stores.take k):Nat)),(4,aa .i64 k)]) d.stores.length (fun _=>false) rfl (by simp[iq]) (fun k hk _=> ?_) (fun _ _=> ?_)
 ·have hx:=XStore.e.eq_1 d.stores[k]
  have hi:=h.2.2.1.2 _ (List.getElem_mem hk)
  have e1:=pU hi
  have l1:lm d.stores[k]≤115343360:=Nat.le_trans (qm mq _) (by have:=hi.2.1.1;omega)
  have l3:=nj (f:=lm) (c:=115343360) (xs:=d.stores.take k) (fun s hs=>Nat.le_trans (qm mq _) (by have:=(h.2.2.1.2 s (List.mem_of_mem_take hs)).2.1.1;omega))
  have l4:(d.stores.take k).length≤1048576:=by rw[List.length_take];have:=h.2.2.1.1;omega
  rw[nn hk]
  generalize iq lm (d.stores.take k)=A at l3⊢
  generalize lm d.stores[k]=a at l1 e1⊢
  have w1:IntKind.i64.wrap ((A:Int)+(a:Int))=(A:Int)+(a:Int):=by rw[IntKind.wrap_i64];omega
  simp(maxSteps:=9999999) [gr,hk,hx,e1,w1,aD (n:=d.stores.length) (by have:=h.2.2.1.1;unfold maxLen;omega) hk,aS hk]
 ·rw[List.take_length]
  simp(maxSteps:=9999999) [gr,rZ]
theorem Ad {x:XDisk}(h:x.Ok 1048576):ag Ph aF 193 [x.v]=some (aa .i64 (rZ x.base+x.log.length:Nat)):=by
 have e1:=sZ h.1
 have l1:=xO h.1
 have l2:=h.2.1
 generalize rZ x.base=A at e1 l1⊢
 have w1:IntKind.i64.wrap ((A:Int)+(x.log.length:Int))=(A:Int)+(x.log.length:Int):=by rw[IntKind.wrap_i64];omega
 refine ae (fn:=nM) rfl ?_
 simp +contextual (maxSteps:=9999999) [nM,e1,w1,bp]
def AN (b:Bool)(x:XResponse):Nat:=cond b 76 (16+x.body.length)
def qL (e:XCached):Nat:=AN (e.resp.type==3) e.resp
theorem sU {e:XCached}(h:e.Ok 1048576):qL e≤1048592:=by
 have:=h.2.2.2.2.2
 unfold qL AN
 cases(e.resp.type==3)<;>simp only[cond_true,cond_false]<;>omega
def uF (c:XCache):Nat:=iq qL c.entries
theorem Ef {c:XCache}(h:c.Ok 1048576):uF c≤1048592*1048576:=Nat.le_trans (nj fun e he=>sU (h.2.2 e he)) (Nat.mul_le_mul_left _ h.2.1)
def AM (s:XCacheSet):Nat:=iq uF s.caches
theorem vN {x:XResponse}(h:x.body.length≤1048576)(b:Bool):ag Ph aF 223 [x.v,ar b]=some (aa .i64 (AN b x:Nat)):=by
 have w1:IntKind.i64.wrap (16+(x.body.length:Int))=16+(x.body.length:Int):=by rw[IntKind.wrap_i64];omega
 refine ae (fn:=lK) rfl ?_
 cases b<;>simp(maxSteps:=9999999) [lK,AN,w1,bp]
theorem vM {s:XCacheSet}(h:s.Ok 1048576):ag Ph aF 195 [s.v]=some (aa .i64 (AM s:Nat)):=by
 refine ae (fn:=lJ) rfl ?_
 simp +contextual (maxSteps:=9999999) [lJ]
 refine aA aM Cl.fin [.f,.f,.f,.t,.f,.f,.f,.f,.f,.t,.t,.t,.f,.f,.f,.f,.f,.f,.f,.f,.f,.f,.f,.f,.f,.f,.f,.f,.f,.f,.f,.f,.f,.f] (fun k=>[(3,aa .i64 (iq uF (s.caches.take k):Nat)),(11,aa .i64 k)]) s.caches.length (fun _=>false) rfl (by simp[iq]) (fun k hk _=> ?_) (fun _ _=> ?_)
 ·have hx:=XCache.e.eq_1 s.caches[k]
  have hc:=h.2 _ (List.getElem_mem hk)
  have wk:=aD (n:=s.caches.length) (by have:=h.1;unfold maxLen;omega) hk
  have l4:=nj (f:=uF) (c:=1048592*1048576) (xs:=s.caches.take k) (fun c hm=>Ef (h.2 c (List.mem_of_mem_take hm)))
  have l5:(s.caches.take k).length≤1048576:=by rw[List.length_take];have:=h.1;omega
  rw[nn hk]
  generalize iq uF (s.caches.take k)=A at l4⊢
  simp(maxSteps:=9999999) [gR,hk,hx,aS hk]
  refine aA aM Cl.kn [.f,.f,.f,.t,.f,.f,.f,.f,.f,.t,.t,.t,.f,.f,.f,.f,.t,.t,.t,.f,.f,.f,.f,.f,.f,.f,.f,.f,.f,.f,.f,.f,.f,.f] (fun j=>[(3,aa .i64 (A+iq qL (s.caches[k].entries.take j):Nat)),(18,aa .i64 j)]) s.caches[k].entries.length (fun _=>false) rfl (by simp[iq]) (fun j hj _=> ?_) (fun _ _=> ?_)
  ·have hy:=XCached.e.eq_1 s.caches[k].entries[j]
   have he:=hc.2.2 _ (List.getElem_mem hj)
   have e1:=fun b=>vN (x:=s.caches[k].entries[j].resp) he.2.2.2.2.2 b
   have wj:=aD (n:=s.caches[k].entries.length) (by have:=hc.2.1;unfold maxLen;omega) hj
   have l1:=sU he
   have l2:=nj (f:=qL) (c:=1048592) (xs:=s.caches[k].entries.take j) (fun c hm=>sU (hc.2.2 c (List.mem_of_mem_take hm)))
   have l3:(s.caches[k].entries.take j).length≤1048576:=by rw[List.length_take];have:=hc.2.1;omega
   have hs:AN (s.caches[k].entries[j].resp.type==3) s.caches[k].entries[j].resp=qL s.caches[k].entries[j]:=rfl
   have e2:=e1 (s.caches[k].entries[j].resp.type==3)
   rw[hs]at e2
   rw[nn hj]
   generalize iq qL (s.caches[k].entries.take j)=D at l2⊢
   generalize qL s.caches[k].entries[j]=a at l1 e2⊢
   have w1:IntKind.i64.wrap ((A:Int)+(D:Int)+(a:Int))=(A:Int)+((D:Int)+(a:Int)):=by rw[IntKind.wrap_i64];omega
   simp(maxSteps:=9999999) [fO,hk,hj,hx,hy,e2,w1,wj,aS hj]
  ·rw[List.take_length]
   simp(maxSteps:=9999999) [fO,hk,hx,wk,uF]
 ·rw[List.take_length]
  simp(maxSteps:=9999999) [gR,AM]
theorem we {x:XResponse}(h:x.body.length≤1048576)(b:Bool):ag Ph aF 219 [x.v,ar b]=some (aa .i64 (AN b x:Nat)):=by
 have w1:IntKind.i64.wrap (16+(x.body.length:Int))=16+(x.body.length:Int):=by rw[IntKind.wrap_i64];omega
 refine ae (fn:=lX) rfl ?_
 cases b<;>simp(maxSteps:=9999999) [lX,AN,w1,bp]
theorem wd {s:XCacheSet}(h:s.Ok 1048576):ag Ph aF 192 [s.v]=some (aa .i64 (AM s:Nat)):=by
 refine ae (fn:=lW) rfl ?_
 simp +contextual (maxSteps:=9999999) [lW]
 refine aA aM Cl.fin [.f,.t,.f,.t,.t,.f,.f,.f,.f,.f,.f,.f,.f,.f,.f,.f,.f,.f,.f,.f,.f,.f,.f,.f,.f,.f,.f,.f,.f,.f,.f,.f,.f,.f,.f,.f,.f,.f,.f,.f,.f,.f,.f] (fun k=>[(3,aa .i64 (iq uF (s.caches.take k):Nat)),(4,aa .i64 k)]) s.caches.length (fun _=>false) rfl (by simp[iq]) (fun k hk _=> ?_) (fun _ _=> ?_)
 ·have hx:=XCache.e.eq_1 s.caches[k]
  have hc:=h.2 _ (List.getElem_mem hk)
  have wk:=aD (n:=s.caches.length) (by have:=h.1;unfold maxLen;omega) hk
  have l4:=nj (f:=uF) (c:=1048592*1048576) (xs:=s.caches.take k) (fun c hm=>Ef (h.2 c (List.mem_of_mem_take hm)))
  have l5:(s.caches.take k).length≤1048576:=by rw[List.length_take];have:=h.1;omega
  rw[nn hk]
  generalize iq uF (s.caches.take k)=A at l4⊢
  simp(maxSteps:=9999999) [gV,hk,hx,aS hk]
  refine aA aM Cl.kn [.f,.t,.f,.t,.t,.t,.f,.f,.f,.f,.f,.f,.f,.f,.f,.f,.f,.f,.f,.f,.f,.f,.f,.f,.f,.f,.f,.f,.f,.f,.f,.f,.f,.f,.f,.f,.f,.f,.f,.f,.f,.f,.f] (fun j=>[(3,aa .i64 (A+iq qL (s.caches[k].entries.take j):Nat)),(5,aa .i64 j)]) s.caches[k].entries.length (fun _=>false) rfl (by simp[iq]) (fun j hj _=> ?_) (fun _ _=> ?_)
  ·have hy:=XCached.e.eq_1 s.caches[k].entries[j]
   have he:=hc.2.2 _ (List.getElem_mem hj)
   have e1:=fun b=>we (x:=s.caches[k].entries[j].resp) he.2.2.2.2.2 b
   have wj:=aD (n:=s.caches[k].entries.length) (by have:=hc.2.1;unfold maxLen;omega) hj
   have l1:=sU he
   have l2:=nj (f:=qL) (c:=1048592) (xs:=s.caches[k].entries.take j) (fun c hm=>sU (hc.2.2 c (List.mem_of_mem_take hm)))
   have l3:(s.caches[k].entries.take j).length≤1048576:=by rw[List.length_take];have:=hc.2.1;omega
   have hs:AN (s.caches[k].entries[j].resp.type==3) s.caches[k].entries[j].resp=qL s.caches[k].entries[j]:=rfl
   have e2:=e1 (s.caches[k].entries[j].resp.type==3)
   rw[hs]at e2
   rw[nn hj]
   generalize iq qL (s.caches[k].entries.take j)=D at l2⊢
   generalize qL s.caches[k].entries[j]=a at l1 e2⊢
   have w1:IntKind.i64.wrap ((A:Int)+(D:Int)+(a:Int))=(A:Int)+((D:Int)+(a:Int)):=by rw[IntKind.wrap_i64];omega
   simp(maxSteps:=9999999) [fP,hk,hj,hx,hy,e2,w1,wj,aS hj]
  ·rw[List.take_length]
   simp(maxSteps:=9999999) [fP,hk,hx,wk,uF]
 ·rw[List.take_length]
  simp(maxSteps:=9999999) [gV,AM]
theorem J0 {s:XCacheSet}(h:s.Ok 1048576):AM s≤1048592*1048576*1048576:=Nat.le_trans (nj fun c hm=>Ef (h.2 c hm)) (Nat.mul_le_mul_left _ h.1)
def Kz (x:XBucket):Nat:=AM x.caches+(rZ x.disk.base+x.disk.log.length)+lm x.replica.base+40*x.replica.sync.outbox.writes.length
theorem BB {x:XBucket}(h:x.Ok 1048576):ag Ph aF 162 [x.v]=some (aa .i64 (Kz x:Nat)):=by
 obtain⟨_,_,_,hc,hd,hr,_⟩:=h
 have e1:=vM hc
 have e2:=zC hd
 have e3:=pS hr.1
 have l1:=J0 hc
 have l2:=xO hd.1
 have l3:lm x.replica.base≤115343360:=Nat.le_trans (qm mq _) (by have:=hr.1.2.1.1;omega)
 have l4:=hd.2.1
 have l5:x.replica.sync.outbox.writes.length≤1048576:=hr.2.2.1.2.2.1
 unfold Kz
 generalize AM x.caches=A at e1 l1⊢
 generalize rZ x.disk.base=B at e2 l2⊢
 generalize lm x.replica.base=C at e3 l3⊢
 have w1:IntKind.i64.wrap ((A:Int)+((B:Int)+(x.disk.log.length:Int)))=(A:Int)+((B:Int)+(x.disk.log.length:Int)):=by rw[IntKind.wrap_i64];omega
 have w2:IntKind.i64.wrap ((A:Int)+((B:Int)+(x.disk.log.length:Int))+(C:Int))=(A:Int)+((B:Int)+(x.disk.log.length:Int))+(C:Int):=by rw[IntKind.wrap_i64];omega
 have w3:IntKind.i64.wrap (40*(x.replica.sync.outbox.writes.length:Int))=40*(x.replica.sync.outbox.writes.length:Int):=by rw[IntKind.wrap_i64];omega
 have w4:IntKind.i64.wrap ((A:Int)+((B:Int)+(x.disk.log.length:Int))+(C:Int)+40*(x.replica.sync.outbox.writes.length:Int))=(A:Int)+((B:Int)+(x.disk.log.length:Int))+(C:Int)+40*(x.replica.sync.outbox.writes.length:Int):=by rw[IntKind.wrap_i64];omega
 refine ae (fn:=oI) rfl ?_
 simp +contextual (maxSteps:=9999999) [oI,e1,e2,e3,w1,w2,w3,w4]
theorem BJ {x:XBucket}(h:x.Ok 1048576):ag Ph aF 161 [x.v]=some (aa .i64 (Kz x:Nat)):=by
 obtain⟨_,_,_,hc,hd,hr,_⟩:=h
 have e1:=wd hc
 have e2:=Ad hd
 have e3:=pU hr.1
 have l1:=J0 hc
 have l2:=xO hd.1
 have l3:lm x.replica.base≤115343360:=Nat.le_trans (qm mq _) (by have:=hr.1.2.1.1;omega)
 have l4:=hd.2.1
 have l5:x.replica.sync.outbox.writes.length≤1048576:=hr.2.2.1.2.2.1
 unfold Kz
 generalize AM x.caches=A at e1 l1⊢
 generalize rZ x.disk.base=B at e2 l2⊢
 generalize lm x.replica.base=C at e3 l3⊢
 have w1:IntKind.i64.wrap ((A:Int)+((B:Int)+(x.disk.log.length:Int)))=(A:Int)+((B:Int)+(x.disk.log.length:Int)):=by rw[IntKind.wrap_i64];omega
 have w2:IntKind.i64.wrap ((A:Int)+((B:Int)+(x.disk.log.length:Int))+(C:Int))=(A:Int)+((B:Int)+(x.disk.log.length:Int))+(C:Int):=by rw[IntKind.wrap_i64];omega
 have w3:IntKind.i64.wrap (40*(x.replica.sync.outbox.writes.length:Int))=40*(x.replica.sync.outbox.writes.length:Int):=by rw[IntKind.wrap_i64];omega
 have w4:IntKind.i64.wrap ((A:Int)+((B:Int)+(x.disk.log.length:Int))+(C:Int)+40*(x.replica.sync.outbox.writes.length:Int))=(A:Int)+((B:Int)+(x.disk.log.length:Int))+(C:Int)+40*(x.replica.sync.outbox.writes.length:Int):=by rw[IntKind.wrap_i64];omega
 refine ae (fn:=oO) rfl ?_
 simp +contextual (maxSteps:=9999999) [oO,e1,e2,e3,w1,w2,w3,w4]
end Gi
