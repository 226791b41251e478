/- Of this proof. -/
import Derived.Test.YtbeaonmepfkmmaaGreatGoDd
import Derived.Test.YtbeaonmepfkmmaaGreatGxtd
import Derived.Test.YtbeaonmepfkmmaaGreatGkdd
import Derived.Test.YtbeaonmepfkmmaaGreatGksd
set_option linter.unusedSimpArgs false
set_option linter.unusedVariables false
namespace Gi
open Go Go.RowKit
set_option maxHeartbeats 8000000
set_option maxRecDepth 4000
attribute [local simp] start pa a9 b6 cP dS cO dR d5 dZ pR p5 pS p6 pT p7 pU p8 pV p9 pW qa pX qb pY qc pZ qd V.cells plain bf fO isInt isStr isBool bin bN gA bO gB dV un asList L.view av V.view viewL aR aw bS bq bE comp aK bv cL bK bj bh bi aB aq aH am az aW ap aY bH aI bm bo V.flat L.flat cX cN br putAt thaw thawL thawT V.ow dY cR cS bQ dX bR cQ freezeVs freezeLs freezeL V.mut L.mut aJ cy fQ aX bu aP dN co bG cJ L.ren aM dd bP dq bF bB wp_seq wp_block aV cV bT bt bU wp_skip wp_exit wp_ret ce b9 ct cf cF cG cE bJ aL L.notArr bA bw bz cT b8 storeD aT eS bc bZ aU mf L.mov L.closed V.closed PV.bare PV.flat
def Og (b:List UInt8):V:=match Jl b with
 |none=> .tup [(true,[.nil]),(false,[.pv (.int .i64 0)]),(false,[.pv (.bool false)])]
 |some (r,k)=> .tup [(true,[m9 2 (r.fs.map XField.e)]),(false,[.pv (.int .i64 (k:Nat))]),(false,[.pv (.bool (cI r.fs))])]
theorem Qp {z:Nat}:m9 z []= .nil:=rfl
theorem R4 {z:Nat}{rows:List (List PV)}(h:rows≠[]):m9 z rows= .own z rows:=by
 cases rows with
 |nil=>exact absurd rfl h
 |cons r rs=>rfl
theorem Gt {b:List UInt8}(h:Jl b=none):Og b= .tup [(true,[.nil]),(false,[.pv (.int .i64 0)]),(false,[.pv (.bool false)])]:=by unfold Og;rw[h]
theorem Db {b:List UInt8}(hl:b.length≤1048576):ah Ph aN 600 [aQ (ag b),aa .i64 0]=some (Og b):=by
 have e1:ah Ph aN 573 [aQ (ag b),aa .i64 0]=some (qE b 0):=dx hl (a:=0) (by omega)
 cases e:qS b with
 |none=>
  rw[Gt (by unfold Jl;rw[e])]
  simp only[qE,e]at e1
  refine ae (fn:=gW) rfl ?_
  simp(maxSteps:=9999999) [gW,e1]
 |some p=>
  obtain⟨n,k⟩:=p
  simp only[qE,e,Nat.zero_add]at e1
  obtain⟨k1,k2,k3⟩:=kC e
  have b1:bX 6 (n:Int)=decide (6<n):=decide_eq_decide.2 (by omega)
  by_cases hn:n≤6
  rotate_left
  ·have d1:6<n:=by omega
   rw[Gt (Sy e hn)]
   refine ae (fn:=gW) rfl ?_
   simp(maxSteps:=9999999) [gW,e1,b1,d1]
  have d1:¬6<n:=by omega
  refine ae (fn:=gW) rfl ?_
  simp(maxSteps:=9999999) [gW,e1,b1,d1]
  refine nK cC Cl.fin [.t,.f,.f,.f,.t,.f,.f,.t,.t,.f,.t,.t,.f,.f,.f,.f,.f,.f,.f,.f,.f,.f,.f,.f,.f,.f,.f,.f,.f,.f,.f,.f,.f,.f,.f,.f,.f,.f,.f,.f,.f,.f,.f,.f,.f,.f,.f,.f,.f,.f,.f,.f,.f,.f,.f,.f,.f,.f,.f,.f,.f,.f,.f,.f,.f,.f,.f,.f,.f,.f,.f,.f] (fun a=>[(8,aa .i64 (a.1:Nat)),(11,aa .i64 (a.2.length:Nat))]) (fun a=>Te a.2) (yp b n) (fun a=>b.length-a.1) (Tt b n k) (k,[]) (Sr k2) rfl (by simp[Te]) (fun a a' ia ha=> ?_) (fun a ia ha=> ?_)
  ·obtain⟨a,l⟩:=a
   obtain⟨d,kk,x,j,q0,q1,q2,rfl,q3,q4,q5,q6,q7⟩:=IB ia ha
   refine⟨q6,q7,?_⟩
   have h1:=ia.1
   simp only at h1 q0 q1 q2 q5⊢
   have r1:ah Ph aN 572 [aQ (ag b),aa .i64 a,aa .i64 8]=some (qR (b.drop a) a 8):=dP hl h1 (m:=8) (by omega)
   have r2:=dx hl (a:=a+kk) (by omega)
   rw[Int.natCast_add]at r2
   simp only[qR,q1]at r1
   simp only[qE,q2]at r2
   have c1:bX (l.length:Int) (n:Int)=true:=dW (by omega)
   have w1:IntKind.i64.wrap ((l.length:Int)+1)=(l.length:Int)+1:=by rw[IntKind.wrap_i64];omega
   have m1:=iz (m:=l.length+1) (z:=24) (by omega) (by omega)
   rw[Jh]
   have hl2:(l++[(⟨d,x⟩:XField)]).length=l.length+1:=by simp
   rw[hl2]
   rcases rB l with⟨rfl,hH⟩|⟨_,hH⟩<;>rw[hH]
   ·have c0:bX 0 (n:Int)=true:=dW (by simp at q0;omega)
    simp(maxSteps:=9999999) [eP,r1,r2,c0,ma,fg,XField.e.eq_1,aj,-cy]
    exact Kn.of [0,1,3] (by decide) (by simp) (by simp)
   ·have hW:(l.map XField.e).length=l.length:=by simp
    generalize l.map XField.e=W at*
    simp(maxSteps:=9999999) [eP,r1,r2,c1,w1,m1,hW,fg,XField.e.eq_1,aj,-cy]
    exact Kn.of [0,1,4] (by decide) (by simp) (by simp)
  ·obtain⟨a,l⟩:=a
   have h1:=ia.1
   have h0:=ia.2.1
   simp only at h0 h1⊢
   have c1:bX (l.length:Int) (n:Int)=decide (l.length<n):=decide_eq_decide.2 (by omega)
   have c0:bX 0 (n:Int)=decide (0<n):=decide_eq_decide.2 (by omega)
   rcases L9 ia ha with⟨g1,g2⟩|⟨g1,g2,g3⟩
   ·simp only at g1 g2
    have c2:¬l.length<n:=by omega
    have e3:=SA e hn g2
    have ok:=Qw g2 hn
    have e4:ah Ph aN 243 [.agg [.pv (.lst (l.map XField.e))]]=some (aD (cI l)):=fj ok
    have e5:Og b= .tup [(true,[m9 2 (l.map XField.e)]),(false,[.pv (.int .i64 (a:Int))]),(false,[.pv (.bool (cI l))])]:=by
     unfold Og;rw[e3];simp;omega
    rw[e5]
    generalize cI l=q at*
    rcases rB l with⟨rfl,hH⟩|⟨hne,hH⟩<;>rw[hH]
    ·simp only[List.map_nil]at e4
     simp(maxSteps:=9999999) [eP,c0,c1,c2,g1,e4,Qp]
    ·have hz:=R4 (z:=2) (by simpa using hne:l.map XField.e≠[])
     rw[hz]
     generalize l.map XField.e=W at*
     simp(maxSteps:=9999999) [eP,c1,c2,g1,e4]
   ·simp only at g1 g2 g3
    have g0:0<n:=by omega
    rw[Gt (Sz e g2)]
    have r1:ah Ph aN 572 [aQ (ag b),aa .i64 a,aa .i64 8]=some (qR (b.drop a) a 8):=dP hl h1 (m:=8) (by omega)
    rcases g3 with g3|⟨d,kk,g3,g4,g5⟩
    ·simp only[qR,g3]at r1
     rcases rB l with⟨rfl,hH⟩|⟨_,hH⟩<;>rw[hH]<;>simp(maxSteps:=9999999) [eP,c0,c1,g1,g0,r1,aj]
    ·have r2:=dx hl (a:=a+kk) (by omega)
     rw[Int.natCast_add]at r2
     simp only[qR,g3]at r1
     simp only[qE,g5]at r2
     rcases rB l with⟨rfl,hH⟩|⟨_,hH⟩<;>rw[hH]<;>simp(maxSteps:=9999999) [eP,c0,c1,g1,g0,r1,r2,aj]
theorem sX {b:List UInt8}(hl:b.length≤1048576):ah Ph aN 592 [aQ (ag b)]=some (qq (tP b)):=by
 have e1:=Db hl
 cases e:Jl b with
 |none=>
  rw[FL e]
  rw[Gt e]at e1
  refine ae (fn:=dM) rfl ?_
  simp(maxSteps:=9999999) [dM,e1,qq,lu]
 |some p=>
  obtain⟨r,k⟩:=p
  unfold Og at e1
  rw[e]at e1
  simp only at e1
  have e2:tP b=if k=b.length∧cI r.fs=true then(r,true)else(⟨[]⟩,false):=by unfold tP;rw[e]
  have b1:((k:Int)==(b.length:Int))=decide (k=b.length):=by rw[Bool.eq_iff_iff];simp;omega
  rw[e2]
  generalize hq:cI r.fs=q at*
  by_cases c:k=b.length
  ·cases q<;>(refine ae (fn:=dM) rfl ?_;simp(maxSteps:=9999999) [dM,e1,b1,c, ↓aY, ↓aq, ↓aB, ↓az,aj,qq,lu])
  ·cases q<;>(refine ae (fn:=dM) rfl ?_;simp(maxSteps:=9999999) [dM,e1,b1,c, ↓aY, ↓aq, ↓aB, ↓az,aj,qq,lu])
end Gi
namespace Gi
open Go Go.RowKit
theorem XKey.Ok.mono {A B:Nat}(hAB:A≤B){x:XKey}(h:x.Ok A):x.Ok B:=by
 obtain⟨h0,h1,h2⟩:=h
 exact⟨h0,h1,Nat.le_trans h2 hAB⟩
theorem XField.Ok.mono {A B:Nat}(hAB:A≤B){x:XField}(h:x.Ok A):x.Ok B:=by
 obtain⟨h0,h1⟩:=h
 exact⟨Nat.le_trans h0 hAB,h1⟩
theorem XRecord.Ok.mono {A B:Nat}(hAB:A≤B){x:XRecord}(h:x.Ok A):x.Ok B:=by
 have h0:=h
 exact⟨Nat.le_trans h0.1 hAB,fun y m=>XField.Ok.mono hAB (h0.2 y m)⟩
theorem XItem.Ok.mono {A B:Nat}(hAB:A≤B){x:XItem}(h:x.Ok A):x.Ok B:=by
 obtain⟨h0,h1⟩:=h
 exact⟨XKey.Ok.mono hAB h0,XRecord.Ok.mono hAB h1⟩
theorem XStore.Ok.mono {A B:Nat}(hAB:A≤B){x:XStore}(h:x.Ok A):x.Ok B:=by
 obtain⟨h0,h1,h2⟩:=h
 exact⟨Nat.le_trans h0 hAB,⟨Nat.le_trans h1.1 hAB,fun y m=>XItem.Ok.mono hAB (h1.2 y m)⟩,h2⟩
theorem XWrite.Ok.mono {A B:Nat}(hAB:A≤B){x:XWrite}(h:x.Ok A):x.Ok B:=by
 obtain⟨h0,h1,h2,h3,h4⟩:=h
 exact⟨h0,h1,XKey.Ok.mono hAB h2,Nat.le_trans h3 hAB,h4⟩
theorem XApplied.Ok.mono {A B:Nat}(hAB:A≤B){x:XApplied}(h:x.Ok A):x.Ok B:=by
 obtain⟨h0,h1⟩:=h
 exact⟨h0,h1⟩
theorem XServer.Ok.mono {A B:Nat}(hAB:A≤B){x:XServer}(h:x.Ok A):x.Ok B:=by
 obtain⟨h0,h1,h2⟩:=h
 exact⟨XStore.Ok.mono hAB h0,⟨Nat.le_trans h1.1 hAB,fun y m=>XApplied.Ok.mono hAB (h1.2 y m)⟩,⟨Nat.le_trans h2.1 hAB,fun y m=>XWrite.Ok.mono hAB (h2.2 y m)⟩⟩
theorem XOutbox.Ok.mono {A B:Nat}(hAB:A≤B){x:XOutbox}(h:x.Ok A):x.Ok B:=by
 obtain⟨h0,h1,h2⟩:=h
 exact⟨h0,h1,⟨Nat.le_trans h2.1 hAB,fun y m=>XWrite.Ok.mono hAB (h2.2 y m)⟩⟩
theorem XSync.Ok.mono {A B:Nat}(hAB:A≤B){x:XSync}(h:x.Ok A):x.Ok B:=by
 obtain⟨h0,h1,h2⟩:=h
 exact⟨XOutbox.Ok.mono hAB h0,h1,h2⟩
theorem XReplica.Ok.mono {A B:Nat}(hAB:A≤B){x:XReplica}(h:x.Ok A):x.Ok B:=by
 obtain⟨h0,h1,h2⟩:=h
 exact⟨XStore.Ok.mono hAB h0,h1,XSync.Ok.mono hAB h2⟩
theorem XResponse.Ok.mono {A B:Nat}(hAB:A≤B){x:XResponse}(h:x.Ok A):x.Ok B:=by
 obtain⟨h0,h1,h2,h3⟩:=h
 exact⟨h0,h1,h2,Nat.le_trans h3 hAB⟩
theorem XCached.Ok.mono {A B:Nat}(hAB:A≤B){x:XCached}(h:x.Ok A):x.Ok B:=by
 obtain⟨h0,h1,h2⟩:=h
 exact⟨Nat.le_trans h0 hAB,Nat.le_trans h1 hAB,XResponse.Ok.mono hAB h2⟩
theorem XCache.Ok.mono {A B:Nat}(hAB:A≤B){x:XCache}(h:x.Ok A):x.Ok B:=by
 obtain⟨h0,h1⟩:=h
 exact⟨h0,⟨Nat.le_trans h1.1 hAB,fun y m=>XCached.Ok.mono hAB (h1.2 y m)⟩⟩
theorem XCacheSet.Ok.mono {A B:Nat}(hAB:A≤B){x:XCacheSet}(h:x.Ok A):x.Ok B:=by
 have h0:=h
 exact⟨Nat.le_trans h0.1 hAB,fun y m=>XCache.Ok.mono hAB (h0.2 y m)⟩
theorem XRegistration.Ok.mono {A B:Nat}(hAB:A≤B){x:XRegistration}(h:x.Ok A):x.Ok B:=by
 obtain⟨h0,h1,h2,h3⟩:=h
 exact⟨Nat.le_trans h0 hAB,h1,h2,h3⟩
theorem XLoaded.Ok.mono {A B:Nat}(hAB:A≤B){x:XLoaded}(h:x.Ok A):x.Ok B:=by
 obtain⟨h0,h1⟩:=h
 exact⟨Nat.le_trans h0 hAB,h1⟩
theorem XInstr.Ok.mono {A B:Nat}(hAB:A≤B){x:XInstr}(h:x.Ok A):x.Ok B:=by
 obtain⟨h0,h1,h2,h3⟩:=h
 exact⟨h0,h1,h2,Nat.le_trans h3 hAB⟩
theorem XMachine.Ok.mono {A B:Nat}(hAB:A≤B){x:XMachine}(h:x.Ok A):x.Ok B:=by
 obtain⟨h0,h1,h2,h3⟩:=h
 exact⟨⟨Nat.le_trans h0.1 hAB,fun y m=>XInstr.Ok.mono hAB (h0.2 y m)⟩,h1,⟨Nat.le_trans h2.1 hAB,h2.2⟩,h3⟩
theorem XPage.Ok.mono {A B:Nat}(hAB:A≤B){x:XPage}(h:x.Ok A):x.Ok B:=by
 obtain⟨h0,h1,h2,h3,h4,h5⟩:=h
 exact⟨h0,Nat.le_trans h1 hAB,Nat.le_trans h2 hAB,h3,⟨Nat.le_trans h4.1 hAB,fun y m=>XLoaded.Ok.mono hAB (h4.2 y m)⟩,XMachine.Ok.mono hAB h5⟩
theorem XIndexDef.Ok.mono {A B:Nat}(hAB:A≤B){x:XIndexDef}(h:x.Ok A):x.Ok B:=by
 obtain⟨h0,h1⟩:=h
 exact⟨Nat.le_trans h0 hAB,Nat.le_trans h1 hAB⟩
theorem XDatabase.Ok.mono {A B:Nat}(hAB:A≤B){x:XDatabase}(h:x.Ok A):x.Ok B:=by
 obtain⟨h0,h1,h2,h3⟩:=h
 exact⟨Nat.le_trans h0 hAB,h1,⟨Nat.le_trans h2.1 hAB,fun y m=>XStore.Ok.mono hAB (h2.2 y m)⟩,⟨Nat.le_trans h3.1 hAB,fun y m=>XIndexDef.Ok.mono hAB (h3.2 y m)⟩⟩
theorem XDisk.Ok.mono {A B:Nat}(hAB:A≤B){x:XDisk}(h:x.Ok A):x.Ok B:=by
 obtain⟨h0,h1,h2⟩:=h
 exact⟨XDatabase.Ok.mono hAB h0,Nat.le_trans h1 hAB,h2⟩
theorem XBucket.Ok.mono {A B:Nat}(hAB:A≤B){x:XBucket}(h:x.Ok A):x.Ok B:=by
 obtain⟨h0,h1,h2,h3,h4,h5,h6⟩:=h
 exact⟨Nat.le_trans h0 hAB,Nat.le_trans h1 hAB,XRegistration.Ok.mono hAB h2,XCacheSet.Ok.mono hAB h3,XDisk.Ok.mono hAB h4,XReplica.Ok.mono hAB h5,h6⟩
theorem XStorage.Ok.mono {A B:Nat}(hAB:A≤B){x:XStorage}(h:x.Ok A):x.Ok B:=by
 have h0:=h
 exact⟨Nat.le_trans h0.1 hAB,fun y m=>XBucket.Ok.mono hAB (h0.2 y m)⟩
theorem XLock.Ok.mono {A B:Nat}(hAB:A≤B){x:XLock}(h:x.Ok A):x.Ok B:=by
 obtain⟨h0,h1⟩:=h
 exact⟨Nat.le_trans h0 hAB,h1⟩
theorem XLockTable.Ok.mono {A B:Nat}(hAB:A≤B){x:XLockTable}(h:x.Ok A):x.Ok B:=by
 have h0:=h
 exact⟨Nat.le_trans h0.1 hAB,fun y m=>XLock.Ok.mono hAB (h0.2 y m)⟩
theorem XMail.Ok.mono {A B:Nat}(hAB:A≤B){x:XMail}(h:x.Ok A):x.Ok B:=by
 obtain⟨h0,h1,h2⟩:=h
 exact⟨h0,h1,h2⟩
theorem XChannel.Ok.mono {A B:Nat}(hAB:A≤B){x:XChannel}(h:x.Ok A):x.Ok B:=by
 have h0:=h
 exact⟨Nat.le_trans h0.1 hAB,fun y m=>XMail.Ok.mono hAB (h0.2 y m)⟩
theorem XSite.Ok.mono {A B:Nat}(hAB:A≤B){x:XSite}(h:x.Ok A):x.Ok B:=by
 obtain⟨h0,h1,h2⟩:=h
 exact⟨Nat.le_trans h0 hAB,h1,⟨Nat.le_trans h2.1 hAB,fun y m=>Nat.le_trans (h2.2 y m) hAB⟩⟩
theorem XWorld.Ok.mono {A B:Nat}(hAB:A≤B){x:XWorld}(h:x.Ok A):x.Ok B:=by
 obtain⟨h0,h2,h3,h4,h5,h6,h7,h8,h9⟩:=h
 exact⟨h0,h2,XStorage.Ok.mono hAB h3,⟨Nat.le_trans h4.1 hAB,fun y m=>XPage.Ok.mono hAB (h4.2 y m)⟩,h5,XLockTable.Ok.mono hAB h6,XChannel.Ok.mono hAB h7,⟨Nat.le_trans h8.1 hAB,fun y m=>XSite.Ok.mono hAB (h8.2 y m)⟩,⟨Nat.le_trans h9.1 hAB,fun y m=>XServer.Ok.mono hAB (h9.2 y m)⟩⟩
end Gi
namespace Gi
open Go Go.RowKit
set_option maxHeartbeats 8000000
set_option maxRecDepth 4000
attribute [local simp] start pa a9 b6 cP dS cO dR d5 dZ pR p5 pS p6 pT p7 pU p8 pV p9 pW qa pX qb pY qc pZ qd V.cells plain bf fO isInt isStr isBool bin bN gA bO gB dV un asList L.view av V.view viewL aR aw bS bq bE comp aK bv cL bK bj bh bi aB aq aH am az aW ap aY bH aI bm bo V.flat L.flat cX cN br putAt thaw thawL thawT V.ow dY cR cS bQ dX bR cQ freezeVs freezeLs freezeL V.mut L.mut aJ cy fQ aX bu aP dN co bG cJ L.ren aM dd bP dq bF bB wp_seq wp_block aV cV bT bt bU wp_skip wp_exit wp_ret ce b9 ct cf cF cG cE bJ aL L.notArr bA bw bz cT b8 storeD aT eS bc bZ aU mf L.mov L.closed V.closed PV.bare PV.flat
def sQ (fs:List XField)(nm:List UInt8):Nat:=fs.findIdx fun f=> !(Op.bytesLess f.name nm)
theorem GJ (fs:List XField)(nm:List UInt8):sQ fs nm≤fs.length:=List.findIdx_le_length
theorem La {fs:List XField}{nm:List UInt8}{k:Nat}(h:k<sQ fs nm)(hk:k<fs.length):Op.bytesLess fs[k].name nm=true:=by
 have:=List.not_of_lt_findIdx h
 simpa using this
theorem K9 {fs:List XField}{nm:List UInt8}(h:sQ fs nm<fs.length):Op.bytesLess fs[sQ fs nm].name nm=false:=by
 have:=List.findIdx_getElem (w:=h)
 unfold sQ
 simpa using this
def rR (fs:List XField)(nm:List UInt8)(n:Int):List XField:=match fs[sQ fs nm]? with
 |some f=>if f.name=nm then fs.set (sQ fs nm) ⟨nm,n⟩else fs.take (sQ fs nm)++(⟨nm,n⟩::fs.drop (sQ fs nm))
 |none=>fs.take (sQ fs nm)++(⟨nm,n⟩::fs.drop (sQ fs nm))
theorem QH (fs:List XField)(nm:List UInt8)(n:Int):(rR fs nm n).length≤fs.length+1:=by
 have:=GJ fs nm
 unfold rR
 split
 ·split
  ·simp
  ·simp;omega
 ·simp;omega
theorem QI {fs:List XField}{nm:List UInt8}{n:Int}{f:XField}(h:f∈rR fs nm n):f∈fs∨f=⟨nm,n⟩:=by
 have key:f∈fs.take (sQ fs nm)++(⟨nm,n⟩::fs.drop (sQ fs nm))→f∈fs∨f=⟨nm,n⟩:=fun h=>by
  rw[List.mem_append,List.mem_cons]at h
  rcases h with h|h|h
  ·exact .inl (List.mem_of_mem_take h)
  ·exact .inr h
  ·exact .inl (List.mem_of_mem_drop h)
 unfold rR at h
 split at h
 ·split at h
  ·exact List.mem_or_eq_of_mem_set h
  ·exact key h
 ·exact key h
theorem MY {B:Nat}{fs:List XField}(h:fs.length≤B∧∀f∈fs,f.Ok B){nm:List UInt8}(hn:nm.length≤B){n:Int}(hi:iy n):(rR fs nm n).length≤B+1∧∀f∈rR fs nm n,f.Ok (B+1):=by
 refine⟨by have:=QH fs nm n;omega,fun f hf=> ?_⟩
 rcases QI hf with h1|rfl
 ·exact XField.Ok.mono (by omega) (h.2 f h1)
 ·exact⟨by simp only;omega,hi⟩
theorem uY :∀{a b c:List UInt8},Op.bytesLess a b=true→Op.bytesLess b c=true→Op.bytesLess a c=true
 |[],[],_,h,_=>by cases h
 |[],_::_,[],_,h=>by cases h
 |[],_::_,_::_,_,_=>rfl
 |_::_,[],_,h,_=>by cases h
 |_::_,_::_,[],_,h=>by cases h
 |a::x,b::y,c::z,h,k=>by
  simp only[Op.bytesLess,Bool.or_eq_true,Bool.and_eq_true,decide_eq_true_eq,beq_iff_eq]at h k⊢
  rcases h with h|⟨rfl,h⟩
  ·rcases k with k|⟨rfl,k⟩
   ·exact .inl (UInt8.lt_trans h k)
   ·exact .inl h
  ·rcases k with k|⟨rfl,k⟩
   ·exact .inl k
   ·exact .inr ⟨rfl,uY h k⟩
theorem Cz :∀(a:List UInt8),Op.bytesLess a a=false
 |[]=>rfl
 |a::x=>by simp[Op.bytesLess,UInt8.lt_irrefl,Cz x]
def T9 :List XField→Prop
 |[]=>True
 |f::t=>(∀g∈t,Op.bytesLess f.name g.name=true)∧T9 t
theorem QO :∀{fs:List XField},(∀j(h:j+1<fs.length),Op.bytesLess fs[j].name fs[j+1].name=true)→T9 fs
 |[],_=>trivial
 |[f],_=>⟨by simp,trivial⟩
 |f::g::t,h=>by
  have ih:=QO (fs:=g::t) (fun j hj=>by have:=h (j+1) (by simpa using hj);simpa using this)
  refine⟨fun x hx=> ?_,ih⟩
  have h0:=h 0 (by simp)
  simp at h0
  rcases List.mem_cons.1 hx with rfl|hx
  ·exact h0
  ·exact uY h0 (ih.1 x hx)
theorem QN :∀{fs:List XField},T9 fs→∀{i j:Nat}(h:i<j)(hj:j<fs.length),Op.bytesLess (fs[i]'(by omega)).name fs[j].name=true
 |[],_,_,_,_,hj=>by simp at hj
 |f::t,h,0,j+1,_,hj=>by
  simp only[List.getElem_cons_zero,List.getElem_cons_succ]
  exact h.1 _ (List.getElem_mem _)
 |f::t,h,i+1,j+1,hij,hj=>by
  simp only[List.getElem_cons_succ]
  exact QN h.2 (by omega) _
 |f::t,h,i+1,0,hij,hj=>by omega
theorem Ol {a b:List UInt8}(h1:Op.bytesLess a b=false)(h2:a≠b):Op.bytesLess b a=true:=by
 have:=oM a b
 rw[h1,beq_eq_false_iff_ne.2 h2]at this
 simpa using this
theorem R8 {fs:List XField}(h:cI fs=true):T9 fs:=by
 refine QO fun j hj=> ?_
 simp only[cI,Bool.and_eq_true,Bool.not_eq_true']at h
 have:=sn h.1 hj
 simp only[Kg,hj,List.getElem?_eq_getElem,Nat.add_sub_cancel,show j<fs.length by omega,Bool.or_eq_false_iff,Bool.and_eq_false_iff,Bool.not_eq_false']at this
 rcases this.2.2 with q|q
 ·rw[dW (by omega)]at q;cases q
 ·exact q
theorem PQ {nm:List UInt8}{fs:List XField}(h:T9 fs):dE (isF nm) fs=(match fs[sQ fs nm]? with
 |some f=>if f.name=nm then((sQ fs nm:Nat):Int)else-1
 |none=> -1):=by
 have before:∀j,j<sQ fs nm→nR (isF nm) fs j=false:=fun j hj=>by
  have h1:j<fs.length:=Nat.lt_of_lt_of_le hj (GJ _ _)
  have:=La hj h1
  simp only[nR,h1,List.getElem?_eq_getElem,isF,beq_eq_false_iff_ne]
  intro e
  rw[e,Cz]at this;cases this
 by_cases hp:sQ fs nm<fs.length
 ·simp only[hp,List.getElem?_eq_getElem]
  split
  ·rename_i e
   exact yr hp before (by simp[isF,e])
  ·rename_i e
   refine uR fun j hj=> ?_
   by_cases q:j<sQ fs nm
   ·exact before j q
   ·have h2:=Ol (K9 hp) e
    simp only[nR,hj,List.getElem?_eq_getElem,isF,beq_eq_false_iff_ne]
    by_cases q2:j=sQ fs nm
    ·subst q2;exact e
    ·intro e3
     have:=QN h (i:=sQ fs nm) (j:=j) (by omega) hj
     rw[e3]at this
     have:=uY h2 this
     rw[Cz]at this;cases this
 ·have:fs[sQ fs nm]? =none:=List.getElem?_eq_none (by omega)
  rw[this]
  exact uR fun j hj=>before j (by omega)
def setR (fs:List XField)(nm:List UInt8)(n:Int):List XField×Bool:=cond (cI fs&&cI (rR fs nm n)) (rR fs nm n,true) (fs,false)
abbrev vi (x:List XField×Bool):V:= .tup [(true,[.own 2 (x.1.map XField.e)]),(false,[.pv (.bool x.2)])]
theorem wO (fs:List XField)(nm:List UInt8)(n:Int)(h:∀f,fs[sQ fs nm]? =some f→f.name≠nm):(rR fs nm n).map XField.e=(fs.map XField.e).take (sQ fs nm)++([.str nm, .int .i64 n]::(fs.map XField.e).drop (sQ fs nm)):=by
 have:rR fs nm n=fs.take (sQ fs nm)++(⟨nm,n⟩::fs.drop (sQ fs nm)):=by
  unfold rR
  split
  ·rename_i f hf;rw[if_neg (h f hf)]
  ·rfl
 rw[this];simp[XField.e]
theorem wP {fs:List XField}{nm:List UInt8}{n:Int}(hk:sQ fs nm<fs.length)(h:fs[sQ fs nm].name=nm):(rR fs nm n).map XField.e=(fs.map XField.e).set (sQ fs nm) [.str fs[sQ fs nm].name, .int .i64 n]:=by
 have:rR fs nm n=fs.set (sQ fs nm) ⟨nm,n⟩:=by
  unfold rR
  simp[hk,h]
 rw[this,List.map_set,h];rfl
theorem yw {B:Nat}(hB:B≤1048576){r:XRecord}(h:r.Ok B){nm:List UInt8}(hn:nm.length≤B){n:Int}(hi:iy n):ah Ph aN 341 [r.v,dv nm,aa .i64 n]=some (vi (setR r.fs nm n)):=by
 have hM:B+1≤maxLen:=by unfold maxLen;omega
 have e1:=kW hB h
 have e2:=ir (XRecord.Ok.mono (by omega) h)
 have e3:=ir (r:=⟨rR r.fs nm n⟩) (XRecord.Ok.mono hM (MY h hn hi))
 have hl:r.fs.length≤1048576:=Nat.le_trans h.1 hB
 have e4:=r7 (r:=r) (by unfold maxLen;omega) nm
 have fp:=fun hv=>PQ (nm:=nm) (fs:=r.fs) (R8 hv)
 have hs:=wP (fs:=r.fs) (nm:=nm) (n:=n)
 have hins:=wO r.fs nm n
 unfold setR
 generalize rR r.fs nm n=F at e3 hs hins⊢
 refine ae (fn:=gD) rfl ?_
 have hp:=GJ r.fs nm
 have m1:=iz (m:=r.fs.length+1) (z:=24) (by omega) (by omega)
 rcases wa (isF nm) r.fs with hf|⟨j,hj,hf,hq⟩<;>rw[hf]at e4 fp
 ·simp +contextual (maxSteps:=9999999) [gD,e1,e4,bX]
  have b1:= @La r.fs nm
  have b2:= @K9 r.fs nm
  generalize sQ r.fs nm=k at fp hins hp b1 b2
  refine bD cC Cl.fin [.f,.t,.t,.t,.f,.f,.t,.f,.t,.f,.t,.f,.f,.f,.f,.f,.f,.f,.f,.f,.f,.f,.f,.f,.f,.f,.f,.f,.f,.f,.f,.f,.f,.f,.f,.f,.f,.f,.f,.f,.f,.f,.f,.f,.f,.f,.f,.f,.f,.f,.f,.f,.f,.f,.f,.f,.f,.f,.f,.f,.f] (fun k=>[(10,aa .i64 k)]) k (fun _=>false) rfl (by simp) (fun j hj _=> ?_) (fun _ _=> ?_)
  ·have hj2:j<r.fs.length:=by omega
   have l1:=b1 hj hj2
   simp +contextual (maxSteps:=9999999) [dz,hj2,l1,bW (n:=r.fs.length) (by unfold maxLen;omega) hj2,cB hj2,XField.e.eq_1 r.fs[j]]
  ·have hm:cI r.fs=true→_:=fun hv=>(hins fun f hff e=>by
    have:=fp hv
    rw[hff]at this
    simp only[e,if_true]at this
    omega).symm
   by_cases hlt:k<r.fs.length
   ·have l1:=b2 hlt
    have hx:=XField.e.eq_1 r.fs[k]
    cases c1:cI r.fs<;>rw[c1]at e2
    ·simp +contextual (maxSteps:=9999999) [dz,hlt,hx,l1,hp,m1,e2,e1,cB hlt]
    ·have hm:=hm c1
     cases c2:cI F<;>rw[c2]at e3
     ·simp +contextual (maxSteps:=9999999) [dz,hlt,hx,l1,hp,m1,hm,e2,e3,e1,cB hlt]
     ·simp +contextual (maxSteps:=9999999) [dz,hlt,hx,l1,hp,m1,hm,e2,e3,cB hlt]
   ·obtain rfl:k=r.fs.length:=by omega
    cases c1:cI r.fs<;>rw[c1]at e2
    ·simp +contextual (maxSteps:=9999999) [dz,m1,e2,e1]
    ·have hm:=hm c1
     cases c2:cI F<;>rw[c2]at e3
     ·simp +contextual (maxSteps:=9999999) [dz,m1, ↓hm,e2,e3,e1]
     ·simp +contextual (maxSteps:=9999999) [dz,m1, ↓hm,e2,e3]
 ·have hx:=XField.e.eq_1 r.fs[j]
  cases c1:cI r.fs<;>rw[c1]at e2
  ·simp +contextual (maxSteps:=9999999) [gD,e1,e4,bX,hj,hx,e2]
  ·have fp:=fp c1
   have hm:(r.fs.map XField.e).set j [.str r.fs[j].name, .int .i64 n]=F.map XField.e:=by
    cases hc:r.fs[sQ r.fs nm]? with
    |none=>rw[hc]at fp;simp only at fp;omega
    |some f=>
     rw[hc]at fp
     by_cases e:f.name=nm
     ·simp only[e,if_true]at fp
      obtain rfl:j=sQ r.fs nm:=by omega
      rw[List.getElem?_eq_getElem hj]at hc
      cases hc
      exact(hs hj e).symm
     ·simp only[e,if_false]at fp;omega
   cases c2:cI F<;>rw[c2]at e3
   ·simp +contextual (maxSteps:=9999999) [gD,e1,e4,bX,hj,hx,hm,e2,e3]
   ·simp +contextual (maxSteps:=9999999) [gD,e1,e4,bX,hj,hx,hm,e2,e3]
theorem yT {B:Nat}(hB:B≤1048576){r:XRecord}(h:r.Ok B){nm:List UInt8}(hn:nm.length≤B){n:Int}(hi:iy n):ah Ph aN 338 [r.v,dv nm,aa .i64 n]=some (vi (setR r.fs nm n)):=by
 have hM:B+1≤maxLen:=by unfold maxLen;omega
 have e1:=oU hB h
 have e2:=fj (XRecord.Ok.mono (by omega) h)
 have e3:=fj (r:=⟨rR r.fs nm n⟩) (XRecord.Ok.mono hM (MY h hn hi))
 have hl:r.fs.length≤1048576:=Nat.le_trans h.1 hB
 have hs:=wP (fs:=r.fs) (nm:=nm) (n:=n)
 have hins:=wO r.fs nm n
 unfold setR
 generalize rR r.fs nm n=F at e3 hs hins⊢
 refine ae (fn:=nF) rfl ?_
 have hp:=GJ r.fs nm
 have m1:=iz (m:=r.fs.length+1) (z:=24) (by omega) (by omega)
 simp +contextual (maxSteps:=9999999) [nF,e1]
 have b1:= @La r.fs nm
 have b2:= @K9 r.fs nm
 generalize sQ r.fs nm=k at hs hins hp b1 b2
 have m2:=iz (m:=k) (z:=24) (by omega) (by omega)
 have m3:=iz (m:=k+1) (z:=24) (by omega) (by omega)
 have w2:((r.fs.map XField.e).take k).all (fun e=>e.length==2)=true:=by rw[←List.map_take];exact gS (e:=XField.e) (z:=2) (fun _=>rfl) _
 have w3:((r.fs.map XField.e).drop k).all (fun e=>e.length==2)=true:=by rw[←List.map_drop];exact gS (e:=XField.e) (z:=2) (fun _=>rfl) _
 have t1:List.take (r.fs.length-k) ((r.fs.map XField.e).drop k)=(r.fs.map XField.e).drop k:=List.take_of_length_le (by simp)
 have t2:k+1+(r.fs.length-k)=r.fs.length+1:=by omega
 have w4:=gS (e:=XField.e) (z:=2) (fun _=>rfl) r.fs
 refine bD cC Cl.fin [.f,.t,.t,.t,.f,.f,.t,.f,.t,.t,.f,.f,.f,.f,.f,.f,.f,.f,.f,.f,.f,.f,.f,.f,.f,.f,.f,.f,.f,.f,.f,.f,.f,.f,.f,.f,.f,.f,.f,.f,.f,.f,.f,.f,.f,.f,.f,.f,.f,.f,.f,.f,.f,.f,.f,.f,.f,.f,.f,.f,.f,.f,.f,.f,.f,.f,.f,.f,.f,.f,.f,.f,.f,.f,.f,.f,.f,.f] (fun k=>[(9,aa .i64 k)]) k (fun _=>false) rfl (by simp) (fun j hj _=> ?_) (fun _ _=> ?_)
 ·have hj2:j<r.fs.length:=by omega
  have l1:=b1 hj hj2
  simp +contextual (maxSteps:=9999999) [fA,hj2,l1,bW (n:=r.fs.length) (by unfold maxLen;omega) hj2,cB hj2,XField.e.eq_1 r.fs[j]]
 ·by_cases hlt:k<r.fs.length
  ·have l1:=b2 hlt
   have hx:=XField.e.eq_1 r.fs[k]
   by_cases hq:r.fs[k].name=nm
   ·have hm:=(hs hlt hq).symm
    have hb:(r.fs[k].name==nm)=true:=by simp[hq]
    cases c1:cI r.fs<;>rw[c1]at e2<;>cases c2:cI F<;>rw[c2]at e3<;>simp +contextual (maxSteps:=9999999) [fA,hlt,hx,l1,hb,hm,e2,e3,e1,cB hlt]
   ·have hm:=(hins fun f hf e=>hq (by rw[List.getElem?_eq_getElem hlt]at hf;cases hf;exact e)).symm
    have hb:(r.fs[k].name==nm)=false:=by simp[hq]
    cases c1:cI r.fs<;>rw[c1]at e2<;>cases c2:cI F<;>rw[c2]at e3<;>simp +contextual (maxSteps:=9999999) [fA,hlt,hx,l1,hb,hm,e2,e3,e1,cB hlt,m1,m2,m3,w2,w3,w4,hp,t1,t2]
  ·obtain rfl:k=r.fs.length:=by omega
   have hm:=(hins fun f hf e=>by rw[List.getElem?_eq_none (Nat.le_refl _)]at hf;cases hf).symm
   have hm2:(r.fs.map XField.e).take r.fs.length++[[.str nm, .int .i64 n]]=F.map XField.e:=by rw[←hm];simp
   have hF:F.length=r.fs.length+1:=by have:=congrArg List.length hm2;simpa using this.symm
   cases c1:cI r.fs<;>rw[c1]at e2<;>cases c2:cI F<;>rw[c2]at e3<;>simp +contextual (maxSteps:=9999999) [fA,hm,hm2,hF,e2,e3,e1,m1,m2,m3,w2,w3,w4,t1,t2]
def RY (x:XItem):Bool:=eZ x.key&&cI x.rcd.fs
def qU :List XItem→Bool
 |[]=>true
 |[_]=>true
 |a::b::t=>decide (nS a.key b.key<0)&&qU (b::t)
def Cy :Option XItem→Option XItem→Bool
 |some a,some b=>decide (nS a.key b.key<0)
 |_,_=>true
theorem Ft :∀{xs:List XItem},qU xs=true↔∀j(h:j+1<xs.length),nS xs[j].key xs[j+1].key<0
 |[]=>by simp[qU]
 |[_]=>by simp[qU]
 |a::b::t=>by
  have ih:=Ft (xs:=b::t)
  simp only[qU,Bool.and_eq_true,decide_eq_true_eq,ih]
  constructor
  ·intro⟨h1,h2⟩ j hj
   cases j with
   |zero=>simpa using h1
   |succ j=>have:=h2 j (by simpa using hj);simpa using this
  ·intro h
   refine⟨by have:=h 0 (by simp);simpa using this,fun j hj=> ?_⟩
   have:=h (j+1) (by simpa using hj)
   simpa using this
def rp (xs:List XItem):Bool:= !(mj xs.length (DD xs))
theorem Cw (xs:List XItem):rp xs=(xs.all RY&&qU xs):=by
 rw[Bool.eq_iff_iff]
 unfold rp
 simp only[Bool.not_eq_true',Bool.and_eq_true,Ft,List.all_eq_true]
 have at':∀k(hk:k<xs.length),DD xs k=(!(eZ xs[k].key)||(!(cI xs[k].rcd.fs)||(bX 0 k&& !(bX (nS (xs[k-1]'(by omega)).key xs[k].key) 0)))):=fun k hk=>by simp[DD,hk,show k-1<xs.length by omega]
 constructor
 ·intro h
  refine⟨fun x hx=> ?_,fun j hj=> ?_⟩
  ·obtain⟨k,hk,rfl⟩:=List.mem_iff_getElem.1 hx
   have:=sn h hk
   rw[at' k hk]at this
   simp only[Bool.or_eq_false_iff,Bool.not_eq_false']at this
   simp[RY,this.1,this.2.1]
  ·have:=sn h hj
   rw[at' _ hj]at this
   simp only[Bool.or_eq_false_iff,Bool.and_eq_false_iff,Bool.not_eq_false',Nat.add_sub_cancel]at this
   rcases this.2.2 with q|q
   ·rw[dW (by omega)]at q;cases q
   ·exact of_decide_eq_true q
 ·intro⟨h1,h2⟩
  refine A8 fun k hk=> ?_
  rw[at' k hk]
  have h3:=h1 _ (List.getElem_mem hk)
  simp only[RY,Bool.and_eq_true]at h3
  rw[h3.1,h3.2]
  cases k with
  |zero=>rw[fK (by simp)];rfl
  |succ j=>
   have:=h2 j hk
   simp only[Nat.add_sub_cancel,dW this];simp
theorem vz :∀(l m:List XItem),qU (l++m)=(qU l&&(qU m&&Cy l.getLast? m.head?))
 |[],m=>by cases m<;>simp[qU,Cy]
 |[a],[]=>by simp[qU,Cy]
 |[a],b::m=>by simp[qU,Cy,Bool.and_comm]
 |a::b::t,m=>by
  have ih:=vz (b::t) m
  simp only[List.cons_append]at ih⊢
  simp only[qU,ih,Bool.and_assoc]
  have:(a::b::t).getLast? =(b::t).getLast?:=by simp[List.getLast?_cons_cons]
  rw[this]
theorem Nh (x:XItem)(m:List XItem):qU (x::m)=(qU m&&Cy (some x) m.head?):=by
 have:=vz [x] m
 simpa[qU]using this
def tV (xs:List XItem)(k:XKey):Nat:=xs.findIdx fun x=> !(decide (nS x.key k<0))
theorem wH (xs:List XItem)(k:XKey):tV xs k≤xs.length:=List.findIdx_le_length
theorem GI {xs:List XItem}{k:XKey}{j:Nat}(h:j<tV xs k)(hj:j<xs.length):nS xs[j].key k<0:=by
 have:=List.not_of_lt_findIdx h
 simpa using this
theorem GH {xs:List XItem}{k:XKey}(h:tV xs k<xs.length):¬nS xs[tV xs k].key k<0:=by
 have:=List.findIdx_getElem (w:=h)
 unfold tV
 simpa using this
theorem Nz {a b:List UInt8}(h:Lib.compareBytes a b=0):a=b:=by
 rw[gJ]at h
 have ht:=oM a b
 cases q:Op.bytesLess a b<;>cases q2:Op.bytesLess b a<;>simp[q,q2]at h ht⊢
 exact ht
theorem NA {a b:XKey}(ha:eZ a=true)(hb:eZ b=true)(hne:a≠b)(h:¬nS a b<0):nS b a<0:=by
 have h1:=H5 a b
 have hz:nS a b≠0:=fun e=>by
  obtain⟨ak,an,ax⟩:=a
  obtain⟨bk,bn,bx⟩:=b
  simp only[ne_eq,XKey.mk.injEq]at hne
  have hc:= @Nz ax bx
  simp only[nS,ha,hb]at e
  grind [SE,bX]
 omega
theorem KP {k:XKey}{x:XItem}:pd k x=true↔x.key=k:=by
 obtain⟨⟨a,b,c⟩,r⟩:=x
 obtain⟨d,e,f⟩:=k
 simp[pd]
theorem Mb {α:Type}{p:α→Bool}{xs:List α}(h:dE p xs= -1):∀x∈xs,p x=false:=fun x hx=>by
 unfold dE at h
 cases q:xs.findIdx? p with
 |none=>rw[List.findIdx?_eq_none_iff]at q;exact q x hx
 |some i=>rw[q]at h;simp only at h;omega
def t8 (s:XStore)(k:XKey):Int:=if k.kind=1∧s.auto<k.n∧k.n≤1000000 then k.n else s.auto
def nW (s:XStore)(k:XKey)(r:XRecord):List XItem:=s.items.take (tV s.items k)++(⟨k,r⟩::s.items.drop (tV s.items k))
def ph (s:XStore)(k:XKey)(r:XRecord):XStore×Bool:=
 cond (d7 s&&(eZ k&&cI r.fs))
  (if 0≤dE (pd k) s.items then(⟨s.name,s.items.set (dE (pd k) s.items).toNat ⟨k,r⟩,s.auto⟩,true)
   else if 16≤s.items.length then(s,false)else(⟨s.name,nW s k r,t8 s k⟩,true))
  (s,false)
theorem Pn {xs:List XItem}{j:Nat}{x:XItem}(hj:j<xs.length)(hk:xs[j].key=x.key)(h:qU xs=true):qU (xs.set j x)=true:=by
 have hkey:∀i(hi:i<xs.length),((xs.set j x)[i]'(by simpa using hi)).key=xs[i].key:=fun i hi=>by
  rw[List.getElem_set]
  split
  ·rename_i e;subst e;exact hk.symm
  ·rfl
 rw[Ft]at h⊢
 intro i hi
 have hi':i+1<xs.length:=by simpa using hi
 rw[hkey i (by omega),hkey (i+1) hi']
 exact h i hi'
theorem IT {s:XStore}{k:XKey}{r:XRecord}{j:Nat}(hs:d7 s=true)(hj:j<s.items.length)(hk:s.items[j].key=k):d7 ⟨s.name,s.items.set j ⟨k,r⟩,s.auto⟩=cI r.fs:=by
 unfold d7 at hs⊢
 simp only[Bool.and_eq_true]at hs
 obtain⟨h1,h2,h3,h4⟩:=hs
 simp only[h2,h3,h4,List.length_set,Bool.and_self,Bool.and_true,Bool.true_and]
 change rp _=true at h1
 have e:(!mj s.items.length (DD (s.items.set j ⟨k,r⟩)))=rp (s.items.set j ⟨k,r⟩):=by unfold rp;rw[List.length_set]
 rw[e]
 rw[Cw]at h1⊢
 simp only[Bool.and_eq_true]at h1
 rw[Pn hj hk h1.2,Bool.and_true]
 cases hr:cI r.fs with
 |true=>
  rw[List.all_eq_true]
  intro x hx
  rcases List.mem_or_eq_of_mem_set hx with hx|rfl
  ·exact List.all_eq_true.1 h1.1 x hx
  ·have:=List.all_eq_true.1 h1.1 _ (List.getElem_mem hj)
   simp only[RY,hk,Bool.and_eq_true]at this
   simp[RY,hr,this.1]
 |false=>
  rw[List.all_eq_false]
  refine⟨⟨k,r⟩,List.mem_iff_getElem.2 ⟨j,by simpa using hj,by simp⟩,by simp[RY,hr]⟩
theorem IS {s:XStore}{k:XKey}{r:XRecord}(hs:d7 s=true)(hk:eZ k=true)(hf:dE (pd k) s.items= -1):d7 ⟨s.name,nW s k r,t8 s k⟩=(cI r.fs&&decide (s.items.length+1≤16)):=by
 unfold d7 at hs⊢
 simp only[Bool.and_eq_true]at hs
 obtain⟨h1,h2,h3,h4⟩:=hs
 change rp _=true at h1
 change (rp _&&_)=_
 rw[Cw]at h1⊢
 simp only[Bool.and_eq_true,rg,bX,decide_eq_true_eq,Bool.not_eq_true',decide_eq_false_iff_not]at h1 h4
 have hp:=wH s.items k
 have hlen:(nW s k r).length=s.items.length+1:=by unfold nW;simp;omega
 have ha:rg (t8 s k) 0 1000000=true:=by
  unfold t8 rg bX
  split<;>simp<;>omega
 have hl:(!(bX 16 ((nW s k r).length:Nat)))=decide (s.items.length+1≤16):=by rw[hlen,Bool.eq_iff_iff];simp[bX];omega
 simp only[h2,ha,hl,Bool.and_true,Bool.true_and]
 congr 1
 have hadj:qU (nW s k r)=true:=by
  unfold nW
  rw[vz,Nh]
  have hsp:=vz (s.items.take (tV s.items k)) (s.items.drop (tV s.items k))
  rw[List.take_append_drop,h1.2]at hsp
  simp only[Bool.true_eq,Bool.and_eq_true]at hsp
  rw[hsp.1,hsp.2.1]
  simp only[Bool.true_and,List.head?_cons,Bool.and_eq_true]
  constructor
  ·cases hq:(s.items.drop (tV s.items k)).head? with
   |none=>rfl
   |some y=>
    rw[List.head?_drop]at hq
    obtain⟨hlt,rfl⟩:=List.getElem?_eq_some_iff.1 hq
    have hy:=List.all_eq_true.1 h1.1 _ (List.getElem_mem hlt)
    simp only[RY,Bool.and_eq_true]at hy
    have:=NA hy.1 hk (fun e=>by have:=Mb hf _ (List.getElem_mem hlt);rw[KP.2 e]at this;cases this) (GH hlt)
    simp[Cy,this]
  ·cases hq:(s.items.take (tV s.items k)).getLast? with
   |none=>rfl
   |some y=>
    rw[List.getLast?_eq_getElem?]at hq
    obtain⟨hlt,rfl⟩:=List.getElem?_eq_some_iff.1 hq
    simp only[List.length_take]at hlt⊢
    rw[List.getElem_take]
    have:=GI (xs:=s.items) (k:=k) (j:=min (tV s.items k) s.items.length-1) (by omega) (by omega)
    simp[Cy,this]
 rw[hadj,Bool.and_true]
 cases hr:cI r.fs with
 |true=>
  rw[List.all_eq_true]
  intro x hx
  unfold nW at hx
  rw[List.mem_append,List.mem_cons]at hx
  rcases hx with hx|rfl|hx
  ·exact List.all_eq_true.1 h1.1 x (List.mem_of_mem_take hx)
  ·simp[RY,hr,hk]
  ·exact List.all_eq_true.1 h1.1 x (List.mem_of_mem_drop hx)
 |false=>
  rw[List.all_eq_false]
  exact⟨⟨k,r⟩,by unfold nW;simp,by simp[RY,hr]⟩
end Gi
