/- Of this proof. -/
import Derived.Test.YtbeaonmepfkmmaaGreatGoD
import Derived.Test.YtbeaonmepfkmmaaGreatGxt
import Derived.Test.YtbeaonmepfkmmaaGreatGkd
import Derived.Test.YtbeaonmepfkmmaaGreatGks
set_option linter.unusedSimpArgs false
set_option linter.unusedVariables false
namespace Gi
open Go Go.RowKit
set_option maxHeartbeats 8000000
set_option maxRecDepth 4000
attribute [local simp] start nx bZ cJ cB dB cA dA dG dF og oA oh oB ol oC om oD oq oE ot oF ou oG ov oH oz oI V.cells plain bt gD isInt isStr isBool bin bM fF bN fG dC un asList L.view au V.view viewL aT az bQ bd b6 comp aN bU cy bI aY aW aX ar aj aE ah aq aO am aR bw aA aZ a9 V.flat L.flat cZ cV br putAt thaw thawL thawT V.ow dE cD cE bO dD bP cC freezeVs freezeLs freezeL V.mut L.mut aH cd eW bg bF aP dN cu bK cH L.ren aJ cS bX cY bW bE wp_seq wp_block aM cG bR bf bS wp_skip wp_exit wp_ret b9 b8 cj ca cr ct cq bH aF L.notArr bq bo bp cF b7 storeD aS eB ba bY aQ kX L.mov L.closed V.closed PV.bare PV.flat
def OQ (b:List UInt8):V:=match Kp b with
 |none=> .tup [(true,[.nil]),(false,[.pv (.int .i64 0)]),(false,[.pv (.bool false)])]
 |some (r,k)=> .tup [(true,[pF 2 (r.fs.map XField.e)]),(false,[.pv (.int .i64 (k:Nat))]),(false,[.pv (.bool (db r.fs))])]
theorem QS {z:Nat}:pF z []= .nil:=rfl
theorem Sp {z:Nat}{rows:List (List PV)}(h:rows≠[]):pF z rows= .own z rows:=by
 cases rows with
 |nil=>exact absurd rfl h
 |cons r rs=>rfl
theorem HZ {b:List UInt8}(h:Kp b=none):OQ b= .tup [(true,[.nil]),(false,[.pv (.int .i64 0)]),(false,[.pv (.bool false)])]:=by unfold OQ;rw[h]
theorem EF {b:List UInt8}(hl:b.length≤1048576):ag Ph aC 600 [bi (ae b),ai .i64 0]=some (OQ b):=by
 have e1:ag Ph aC 573 [bi (ae b),ai .i64 0]=some (sL b 0):=dQ hl (a:=0) (by omega)
 cases e:te b with
 |none=>
  rw[HZ (by unfold Kp;rw[e])]
  simp only[sL,e]at e1
  refine aa (fn:=iE) rfl ?_
  simp(maxSteps:=9999999) [iE,e1]
 |some p=>
  obtain⟨n,k⟩:=p
  simp only[sL,e,Nat.zero_add]at e1
  obtain⟨k1,k2,k3⟩:=lG e
  have b1:cw 6 (n:Int)=decide (6<n):=decide_eq_decide.2 (by omega)
  by_cases hn:n≤6
  rotate_left
  ·have d1:6<n:=by omega
   rw[HZ (SQ e hn)]
   refine aa (fn:=iE) rfl ?_
   simp(maxSteps:=9999999) [iE,e1,b1,d1]
  have d1:¬6<n:=by omega
  refine aa (fn:=iE) rfl ?_
  simp(maxSteps:=9999999) [iE,e1,b1,d1]
  refine pk bG Cl.fin [.t,.f,.f,.f,.t,.f,.f,.t,.t,.f,.t,.t,.f,.f,.f,.f,.f,.f,.f,.f,.f,.f,.f,.f,.f,.f,.f,.f,.f,.f,.f,.f,.f,.f,.f,.f,.f,.f,.f,.f,.f,.f,.f,.f,.f,.f,.f,.f,.f,.f,.f,.f,.f,.f,.f,.f,.f,.f,.f,.f,.f,.f,.f,.f,.f,.f,.f,.f,.f,.f,.f,.f] (fun a=>[(8,ai .i64 (a.1:Nat)),(11,ai .i64 (a.2.length:Nat))]) (fun a=>Ts a.2) (Aw b n) (fun a=>b.length-a.1) (TH b n k) (k,[]) (SK k2) rfl (by simp[Ts]) (fun a a' ia ha=> ?_) (fun a ia ha=> ?_)
  ·obtain⟨a,l⟩:=a
   obtain⟨d,kk,x,j,q0,q1,q2,rfl,q3,q4,q5,q6,q7⟩:=JH ia ha
   refine⟨q6,q7,?_⟩
   have h1:=ia.1
   simp only at h1 q0 q1 q2 q5⊢
   have r1:ag Ph aC 572 [bi (ae b),ai .i64 a,ai .i64 8]=some (td (b.drop a) a 8):=eE hl h1 (m:=8) (by omega)
   have r2:=dQ hl (a:=a+kk) (by omega)
   rw[Int.natCast_add]at r2
   simp only[td,q1]at r1
   simp only[sL,q2]at r2
   have c1:cw (l.length:Int) (n:Int)=true:=eJ (by omega)
   have w1:IntKind.i64.wrap ((l.length:Int)+1)=(l.length:Int)+1:=by rw[IntKind.wrap_i64];omega
   have m1:=gV (m:=l.length+1) (z:=24) (by omega) (by omega)
   rw[Kk]
   have hl2:(l++[(⟨d,x⟩:XField)]).length=l.length+1:=by simp
   rw[hl2]
   rcases tL l with⟨rfl,hH⟩|⟨_,hH⟩<;>rw[hH]
   ·have c0:cw 0 (n:Int)=true:=eJ (by simp at q0;omega)
    simp(maxSteps:=9999999) [fw,r1,r2,c0,nu,fL,XField.e.eq_1,al,-cd]
    exact Kn.of [0,1,3] (by decide) (by simp) (by simp)
   ·have hW:(l.map XField.e).length=l.length:=by simp
    generalize l.map XField.e=W at*
    simp(maxSteps:=9999999) [fw,r1,r2,c1,w1,m1,hW,fL,XField.e.eq_1,al,-cd]
    exact Kn.of [0,1,4] (by decide) (by simp) (by simp)
  ·obtain⟨a,l⟩:=a
   have h1:=ia.1
   have h0:=ia.2.1
   simp only at h0 h1⊢
   have c1:cw (l.length:Int) (n:Int)=decide (l.length<n):=decide_eq_decide.2 (by omega)
   have c0:cw 0 (n:Int)=decide (0<n):=decide_eq_decide.2 (by omega)
   rcases M7 ia ha with⟨g1,g2⟩|⟨g1,g2,g3⟩
   ·simp only at g1 g2
    have c2:¬l.length<n:=by omega
    have e3:=SU e hn g2
    have ok:=QY g2 hn
    have e4:ag Ph aC 243 [.agg [.pv (.lst (l.map XField.e))]]=some (aD (db l)):=fR ok
    have e5:OQ b= .tup [(true,[pF 2 (l.map XField.e)]),(false,[.pv (.int .i64 (a:Int))]),(false,[.pv (.bool (db l))])]:=by
     unfold OQ;rw[e3];simp;omega
    rw[e5]
    generalize db l=q at*
    rcases tL l with⟨rfl,hH⟩|⟨hne,hH⟩<;>rw[hH]
    ·simp only[List.map_nil]at e4
     simp(maxSteps:=9999999) [fw,c0,c1,c2,g1,e4,QS]
    ·have hz:=Sp (z:=2) (by simpa using hne:l.map XField.e≠[])
     rw[hz]
     generalize l.map XField.e=W at*
     simp(maxSteps:=9999999) [fw,c1,c2,g1,e4]
   ·simp only at g1 g2 g3
    have g0:0<n:=by omega
    rw[HZ (SS e g2)]
    have r1:ag Ph aC 572 [bi (ae b),ai .i64 a,ai .i64 8]=some (td (b.drop a) a 8):=eE hl h1 (m:=8) (by omega)
    rcases g3 with g3|⟨d,kk,g3,g4,g5⟩
    ·simp only[td,g3]at r1
     rcases tL l with⟨rfl,hH⟩|⟨_,hH⟩<;>rw[hH]<;>simp(maxSteps:=9999999) [fw,c0,c1,g1,g0,r1,al]
    ·have r2:=dQ hl (a:=a+kk) (by omega)
     rw[Int.natCast_add]at r2
     simp only[td,g3]at r1
     simp only[sL,g5]at r2
     rcases tL l with⟨rfl,hH⟩|⟨_,hH⟩<;>rw[hH]<;>simp(maxSteps:=9999999) [fw,c0,c1,g1,g0,r1,r2,al]
theorem u0 {b:List UInt8}(hl:b.length≤1048576):ag Ph aC 592 [bi (ae b)]=some (sp (v5 b)):=by
 have e1:=EF hl
 cases e:Kp b with
 |none=>
  rw[Hi e]
  rw[HZ e]at e1
  refine aa (fn:=eD) rfl ?_
  simp(maxSteps:=9999999) [eD,e1,sp,mE]
 |some p=>
  obtain⟨r,k⟩:=p
  unfold OQ at e1
  rw[e]at e1
  simp only at e1
  have e2:v5 b=if k=b.length∧db r.fs=true then(r,true)else(⟨[]⟩,false):=by unfold v5;rw[e]
  have b1:((k:Int)==(b.length:Int))=decide (k=b.length):=by rw[Bool.eq_iff_iff];simp;omega
  rw[e2]
  generalize hq:db r.fs=q at*
  by_cases c:k=b.length
  ·cases q<;>(refine aa (fn:=eD) rfl ?_;simp(maxSteps:=9999999) [eD,e1,b1,c, ↓aR, ↓aj, ↓ar, ↓aq,al,sp,mE])
  ·cases q<;>(refine aa (fn:=eD) rfl ?_;simp(maxSteps:=9999999) [eD,e1,b1,c, ↓aR, ↓aj, ↓ar, ↓aq,al,sp,mE])
end Gi
namespace Gi
open Go Go.RowKit
theorem XKey.Ok.mono {A B:Nat}(hAB:A≤B){x:XKey}(h:x.Ok A):x.Ok B:=by
 obtain⟨h0,h1,h2⟩:=h
 exact⟨h0,h1,Nat.le_trans h2 hAB⟩
theorem XField.Ok.mono {A B:Nat}(hAB:A≤B){x:XField}(h:x.Ok A):x.Ok B:=by
 obtain⟨h0,h1⟩:=h
 exact⟨Nat.le_trans h0 hAB,h1⟩
theorem XRecord.Ok.mono {A B:Nat}(hAB:A≤B){x:XRecord}(h:x.Ok A):x.Ok B:=by
 have h0:=h
 exact⟨Nat.le_trans h0.1 hAB,fun y m=>XField.Ok.mono hAB (h0.2 y m)⟩
theorem XItem.Ok.mono {A B:Nat}(hAB:A≤B){x:XItem}(h:x.Ok A):x.Ok B:=by
 obtain⟨h0,h1⟩:=h
 exact⟨XKey.Ok.mono hAB h0,XRecord.Ok.mono hAB h1⟩
theorem XStore.Ok.mono {A B:Nat}(hAB:A≤B){x:XStore}(h:x.Ok A):x.Ok B:=by
 obtain⟨h0,h1,h2⟩:=h
 exact⟨Nat.le_trans h0 hAB,⟨Nat.le_trans h1.1 hAB,fun y m=>XItem.Ok.mono hAB (h1.2 y m)⟩,h2⟩
theorem XWrite.Ok.mono {A B:Nat}(hAB:A≤B){x:XWrite}(h:x.Ok A):x.Ok B:=by
 obtain⟨h0,h1,h2,h3,h4⟩:=h
 exact⟨h0,h1,XKey.Ok.mono hAB h2,Nat.le_trans h3 hAB,h4⟩
theorem XApplied.Ok.mono {A B:Nat}(hAB:A≤B){x:XApplied}(h:x.Ok A):x.Ok B:=by
 obtain⟨h0,h1⟩:=h
 exact⟨h0,h1⟩
theorem XServer.Ok.mono {A B:Nat}(hAB:A≤B){x:XServer}(h:x.Ok A):x.Ok B:=by
 obtain⟨h0,h1,h2⟩:=h
 exact⟨XStore.Ok.mono hAB h0,⟨Nat.le_trans h1.1 hAB,fun y m=>XApplied.Ok.mono hAB (h1.2 y m)⟩,⟨Nat.le_trans h2.1 hAB,fun y m=>XWrite.Ok.mono hAB (h2.2 y m)⟩⟩
theorem XOutbox.Ok.mono {A B:Nat}(hAB:A≤B){x:XOutbox}(h:x.Ok A):x.Ok B:=by
 obtain⟨h0,h1,h2⟩:=h
 exact⟨h0,h1,⟨Nat.le_trans h2.1 hAB,fun y m=>XWrite.Ok.mono hAB (h2.2 y m)⟩⟩
theorem XSync.Ok.mono {A B:Nat}(hAB:A≤B){x:XSync}(h:x.Ok A):x.Ok B:=by
 obtain⟨h0,h1,h2⟩:=h
 exact⟨XOutbox.Ok.mono hAB h0,h1,h2⟩
theorem XReplica.Ok.mono {A B:Nat}(hAB:A≤B){x:XReplica}(h:x.Ok A):x.Ok B:=by
 obtain⟨h0,h1,h2⟩:=h
 exact⟨XStore.Ok.mono hAB h0,h1,XSync.Ok.mono hAB h2⟩
theorem XResponse.Ok.mono {A B:Nat}(hAB:A≤B){x:XResponse}(h:x.Ok A):x.Ok B:=by
 obtain⟨h0,h1,h2,h3⟩:=h
 exact⟨h0,h1,h2,Nat.le_trans h3 hAB⟩
theorem XCached.Ok.mono {A B:Nat}(hAB:A≤B){x:XCached}(h:x.Ok A):x.Ok B:=by
 obtain⟨h0,h1,h2⟩:=h
 exact⟨Nat.le_trans h0 hAB,Nat.le_trans h1 hAB,XResponse.Ok.mono hAB h2⟩
theorem XCache.Ok.mono {A B:Nat}(hAB:A≤B){x:XCache}(h:x.Ok A):x.Ok B:=by
 obtain⟨h0,h1⟩:=h
 exact⟨h0,⟨Nat.le_trans h1.1 hAB,fun y m=>XCached.Ok.mono hAB (h1.2 y m)⟩⟩
theorem XCacheSet.Ok.mono {A B:Nat}(hAB:A≤B){x:XCacheSet}(h:x.Ok A):x.Ok B:=by
 have h0:=h
 exact⟨Nat.le_trans h0.1 hAB,fun y m=>XCache.Ok.mono hAB (h0.2 y m)⟩
theorem XRegistration.Ok.mono {A B:Nat}(hAB:A≤B){x:XRegistration}(h:x.Ok A):x.Ok B:=by
 obtain⟨h0,h1,h2,h3⟩:=h
 exact⟨Nat.le_trans h0 hAB,h1,h2,h3⟩
theorem XLoaded.Ok.mono {A B:Nat}(hAB:A≤B){x:XLoaded}(h:x.Ok A):x.Ok B:=by
 obtain⟨h0,h1⟩:=h
 exact⟨Nat.le_trans h0 hAB,h1⟩
theorem XInstr.Ok.mono {A B:Nat}(hAB:A≤B){x:XInstr}(h:x.Ok A):x.Ok B:=by
 obtain⟨h0,h1,h2,h3⟩:=h
 exact⟨h0,h1,h2,Nat.le_trans h3 hAB⟩
theorem XMachine.Ok.mono {A B:Nat}(hAB:A≤B){x:XMachine}(h:x.Ok A):x.Ok B:=by
 obtain⟨h0,h1,h2,h3⟩:=h
 exact⟨⟨Nat.le_trans h0.1 hAB,fun y m=>XInstr.Ok.mono hAB (h0.2 y m)⟩,h1,⟨Nat.le_trans h2.1 hAB,h2.2⟩,h3⟩
theorem XPage.Ok.mono {A B:Nat}(hAB:A≤B){x:XPage}(h:x.Ok A):x.Ok B:=by
 obtain⟨h0,h1,h2,h3,h4,h5⟩:=h
 exact⟨h0,Nat.le_trans h1 hAB,Nat.le_trans h2 hAB,h3,⟨Nat.le_trans h4.1 hAB,fun y m=>XLoaded.Ok.mono hAB (h4.2 y m)⟩,XMachine.Ok.mono hAB h5⟩
theorem XIndexDef.Ok.mono {A B:Nat}(hAB:A≤B){x:XIndexDef}(h:x.Ok A):x.Ok B:=by
 obtain⟨h0,h1⟩:=h
 exact⟨Nat.le_trans h0 hAB,Nat.le_trans h1 hAB⟩
theorem XDatabase.Ok.mono {A B:Nat}(hAB:A≤B){x:XDatabase}(h:x.Ok A):x.Ok B:=by
 obtain⟨h0,h1,h2,h3⟩:=h
 exact⟨Nat.le_trans h0 hAB,h1,⟨Nat.le_trans h2.1 hAB,fun y m=>XStore.Ok.mono hAB (h2.2 y m)⟩,⟨Nat.le_trans h3.1 hAB,fun y m=>XIndexDef.Ok.mono hAB (h3.2 y m)⟩⟩
theorem XDisk.Ok.mono {A B:Nat}(hAB:A≤B){x:XDisk}(h:x.Ok A):x.Ok B:=by
 obtain⟨h0,h1,h2⟩:=h
 exact⟨XDatabase.Ok.mono hAB h0,Nat.le_trans h1 hAB,h2⟩
theorem XBucket.Ok.mono {A B:Nat}(hAB:A≤B){x:XBucket}(h:x.Ok A):x.Ok B:=by
 obtain⟨h0,h1,h2,h3,h4,h5,h6⟩:=h
 exact⟨Nat.le_trans h0 hAB,Nat.le_trans h1 hAB,XRegistration.Ok.mono hAB h2,XCacheSet.Ok.mono hAB h3,XDisk.Ok.mono hAB h4,XReplica.Ok.mono hAB h5,h6⟩
theorem XStorage.Ok.mono {A B:Nat}(hAB:A≤B){x:XStorage}(h:x.Ok A):x.Ok B:=by
 have h0:=h
 exact⟨Nat.le_trans h0.1 hAB,fun y m=>XBucket.Ok.mono hAB (h0.2 y m)⟩
theorem XLock.Ok.mono {A B:Nat}(hAB:A≤B){x:XLock}(h:x.Ok A):x.Ok B:=by
 obtain⟨h0,h1⟩:=h
 exact⟨Nat.le_trans h0 hAB,h1⟩
theorem XLockTable.Ok.mono {A B:Nat}(hAB:A≤B){x:XLockTable}(h:x.Ok A):x.Ok B:=by
 have h0:=h
 exact⟨Nat.le_trans h0.1 hAB,fun y m=>XLock.Ok.mono hAB (h0.2 y m)⟩
theorem XMail.Ok.mono {A B:Nat}(hAB:A≤B){x:XMail}(h:x.Ok A):x.Ok B:=by
 obtain⟨h0,h1,h2⟩:=h
 exact⟨h0,h1,h2⟩
theorem XChannel.Ok.mono {A B:Nat}(hAB:A≤B){x:XChannel}(h:x.Ok A):x.Ok B:=by
 have h0:=h
 exact⟨Nat.le_trans h0.1 hAB,fun y m=>XMail.Ok.mono hAB (h0.2 y m)⟩
theorem XSite.Ok.mono {A B:Nat}(hAB:A≤B){x:XSite}(h:x.Ok A):x.Ok B:=by
 obtain⟨h0,h1,h2⟩:=h
 exact⟨Nat.le_trans h0 hAB,h1,⟨Nat.le_trans h2.1 hAB,fun y m=>Nat.le_trans (h2.2 y m) hAB⟩⟩
theorem XWorld.Ok.mono {A B:Nat}(hAB:A≤B){x:XWorld}(h:x.Ok A):x.Ok B:=by
 obtain⟨h0,h2,h3,h4,h5,h6,h7,h8,h9⟩:=h
 exact⟨h0,h2,XStorage.Ok.mono hAB h3,⟨Nat.le_trans h4.1 hAB,fun y m=>XPage.Ok.mono hAB (h4.2 y m)⟩,h5,XLockTable.Ok.mono hAB h6,XChannel.Ok.mono hAB h7,⟨Nat.le_trans h8.1 hAB,fun y m=>XSite.Ok.mono hAB (h8.2 y m)⟩,⟨Nat.le_trans h9.1 hAB,fun y m=>XServer.Ok.mono hAB (h9.2 y m)⟩⟩
end Gi
namespace Gi
open Go Go.RowKit
set_option maxHeartbeats 8000000
set_option maxRecDepth 4000
attribute [local simp] start nx bZ cJ cB dB cA dA dG dF og oA oh oB ol oC om oD oq oE ot oF ou oG ov oH oz oI V.cells plain bt gD isInt isStr isBool bin bM fF bN fG dC un asList L.view au V.view viewL aT az bQ bd b6 comp aN bU cy bI aY aW aX ar aj aE ah aq aO am aR bw aA aZ a9 V.flat L.flat cZ cV br putAt thaw thawL thawT V.ow dE cD cE bO dD bP cC freezeVs freezeLs freezeL V.mut L.mut aH cd eW bg bF aP dN cu bK cH L.ren aJ cS bX cY bW bE wp_seq wp_block aM cG bR bf bS wp_skip wp_exit wp_ret b9 b8 cj ca cr ct cq bH aF L.notArr bq bo bp cF b7 storeD aS eB ba bY aQ kX L.mov L.closed V.closed PV.bare PV.flat
def uS (fs:List XField)(nm:List UInt8):Nat:=fs.findIdx fun f=> !(Op.bytesLess f.name nm)
theorem Ia (fs:List XField)(nm:List UInt8):uS fs nm≤fs.length:=List.findIdx_le_length
theorem Ma {fs:List XField}{nm:List UInt8}{k:Nat}(h:k<uS fs nm)(hk:k<fs.length):Op.bytesLess fs[k].name nm=true:=by
 have:=List.not_of_lt_findIdx h
 simpa using this
theorem L9 {fs:List XField}{nm:List UInt8}(h:uS fs nm<fs.length):Op.bytesLess fs[uS fs nm].name nm=false:=by
 have:=List.findIdx_getElem (w:=h)
 unfold uS
 simpa using this
def tQ (fs:List XField)(nm:List UInt8)(n:Int):List XField:=match fs[uS fs nm]? with
 |some f=>if f.name=nm then fs.set (uS fs nm) ⟨nm,n⟩else fs.take (uS fs nm)++(⟨nm,n⟩::fs.drop (uS fs nm))
 |none=>fs.take (uS fs nm)++(⟨nm,n⟩::fs.drop (uS fs nm))
theorem Q7 (fs:List XField)(nm:List UInt8)(n:Int):(tQ fs nm n).length≤fs.length+1:=by
 have:=Ia fs nm
 unfold tQ
 split
 ·split
  ·simp
  ·simp;omega
 ·simp;omega
theorem Q8 {fs:List XField}{nm:List UInt8}{n:Int}{f:XField}(h:f∈tQ fs nm n):f∈fs∨f=⟨nm,n⟩:=by
 have key:f∈fs.take (uS fs nm)++(⟨nm,n⟩::fs.drop (uS fs nm))→f∈fs∨f=⟨nm,n⟩:=fun h=>by
  rw[List.mem_append,List.mem_cons]at h
  rcases h with h|h|h
  ·exact .inl (List.mem_of_mem_take h)
  ·exact .inr h
  ·exact .inl (List.mem_of_mem_drop h)
 unfold tQ at h
 split at h
 ·split at h
  ·exact List.mem_or_eq_of_mem_set h
  ·exact key h
 ·exact key h
theorem NF {B:Nat}{fs:List XField}(h:fs.length≤B∧∀f∈fs,f.Ok B){nm:List UInt8}(hn:nm.length≤B){n:Int}(hi:jt n):(tQ fs nm n).length≤B+1∧∀f∈tQ fs nm n,f.Ok (B+1):=by
 refine⟨by have:=Q7 fs nm n;omega,fun f hf=> ?_⟩
 rcases Q8 hf with h1|rfl
 ·exact XField.Ok.mono (by omega) (h.2 f h1)
 ·exact⟨by simp only;omega,hi⟩
theorem xp :∀{a b c:List UInt8},Op.bytesLess a b=true→Op.bytesLess b c=true→Op.bytesLess a c=true
 |[],[],_,h,_=>by cases h
 |[],_::_,[],_,h=>by cases h
 |[],_::_,_::_,_,_=>rfl
 |_::_,[],_,h,_=>by cases h
 |_::_,_::_,[],_,h=>by cases h
 |a::x,b::y,c::z,h,k=>by
  simp only[Op.bytesLess,Bool.or_eq_true,Bool.and_eq_true,decide_eq_true_eq,beq_iff_eq]at h k⊢
  rcases h with h|⟨rfl,h⟩
  ·rcases k with k|⟨rfl,k⟩
   ·exact .inl (UInt8.lt_trans h k)
   ·exact .inl h
  ·rcases k with k|⟨rfl,k⟩
   ·exact .inl k
   ·exact .inr ⟨rfl,xp h k⟩
theorem Ek :∀(a:List UInt8),Op.bytesLess a a=false
 |[]=>rfl
 |a::x=>by simp[Op.bytesLess,UInt8.lt_irrefl,Ek x]
def Un :List XField→Prop
 |[]=>True
 |f::t=>(∀g∈t,Op.bytesLess f.name g.name=true)∧Un t
theorem Rg :∀{fs:List XField},(∀j(h:j+1<fs.length),Op.bytesLess fs[j].name fs[j+1].name=true)→Un fs
 |[],_=>trivial
 |[f],_=>⟨by simp,trivial⟩
 |f::g::t,h=>by
  have ih:=Rg (fs:=g::t) (fun j hj=>by have:=h (j+1) (by simpa using hj);simpa using this)
  refine⟨fun x hx=> ?_,ih⟩
  have h0:=h 0 (by simp)
  simp at h0
  rcases List.mem_cons.1 hx with rfl|hx
  ·exact h0
  ·exact xp h0 (ih.1 x hx)
theorem Rf :∀{fs:List XField},Un fs→∀{i j:Nat}(h:i<j)(hj:j<fs.length),Op.bytesLess (fs[i]'(by omega)).name fs[j].name=true
 |[],_,_,_,_,hj=>by simp at hj
 |f::t,h,0,j+1,_,hj=>by
  simp only[List.getElem_cons_zero,List.getElem_cons_succ]
  exact h.1 _ (List.getElem_mem _)
 |f::t,h,i+1,j+1,hij,hj=>by
  simp only[List.getElem_cons_succ]
  exact Rf h.2 (by omega) _
 |f::t,h,i+1,0,hij,hj=>by omega
theorem OV {a b:List UInt8}(h1:Op.bytesLess a b=false)(h2:a≠b):Op.bytesLess b a=true:=by
 have:=qv a b
 rw[h1,beq_eq_false_iff_ne.2 h2]at this
 simpa using this
theorem Ss {fs:List XField}(h:db fs=true):Un fs:=by
 refine Rg fun j hj=> ?_
 simp only[db,Bool.and_eq_true,Bool.not_eq_true']at h
 have:=wL h.1 hj
 simp only[Ll,hj,List.getElem?_eq_getElem,Nat.add_sub_cancel,show j<fs.length by omega,Bool.or_eq_false_iff,Bool.and_eq_false_iff,Bool.not_eq_false']at this
 rcases this.2.2 with q|q
 ·rw[eJ (by omega)]at q;cases q
 ·exact q
theorem Qs {nm:List UInt8}{fs:List XField}(h:Un fs):dM (isF nm) fs=(match fs[uS fs nm]? with
 |some f=>if f.name=nm then((uS fs nm:Nat):Int)else-1
 |none=> -1):=by
 have before:∀j,j<uS fs nm→pz (isF nm) fs j=false:=fun j hj=>by
  have h1:j<fs.length:=Nat.lt_of_lt_of_le hj (Ia _ _)
  have:=Ma hj h1
  simp only[pz,h1,List.getElem?_eq_getElem,isF,beq_eq_false_iff_ne]
  intro e
  rw[e,Ek]at this;cases this
 by_cases hp:uS fs nm<fs.length
 ·simp only[hp,List.getElem?_eq_getElem]
  split
  ·rename_i e
   exact Az hp before (by simp[isF,e])
  ·rename_i e
   refine w9 fun j hj=> ?_
   by_cases q:j<uS fs nm
   ·exact before j q
   ·have h2:=OV (L9 hp) e
    simp only[pz,hj,List.getElem?_eq_getElem,isF,beq_eq_false_iff_ne]
    by_cases q2:j=uS fs nm
    ·subst q2;exact e
    ·intro e3
     have:=Rf h (i:=uS fs nm) (j:=j) (by omega) hj
     rw[e3]at this
     have:=xp h2 this
     rw[Ek]at this;cases this
 ·have:fs[uS fs nm]? =none:=List.getElem?_eq_none (by omega)
  rw[this]
  exact w9 fun j hj=>before j (by omega)
def setR (fs:List XField)(nm:List UInt8)(n:Int):List XField×Bool:=cond (db fs&&db (tQ fs nm n)) (tQ fs nm n,true) (fs,false)
abbrev qx (x:List XField×Bool):V:= .tup [(true,[.own 2 (x.1.map XField.e)]),(false,[.pv (.bool x.2)])]
theorem yX (fs:List XField)(nm:List UInt8)(n:Int)(h:∀f,fs[uS fs nm]? =some f→f.name≠nm):(tQ fs nm n).map XField.e=(fs.map XField.e).take (uS fs nm)++([.str nm, .int .i64 n]::(fs.map XField.e).drop (uS fs nm)):=by
 have:tQ fs nm n=fs.take (uS fs nm)++(⟨nm,n⟩::fs.drop (uS fs nm)):=by
  unfold tQ
  split
  ·rename_i f hf;rw[if_neg (h f hf)]
  ·rfl
 rw[this];simp[XField.e]
theorem yY {fs:List XField}{nm:List UInt8}{n:Int}(hk:uS fs nm<fs.length)(h:fs[uS fs nm].name=nm):(tQ fs nm n).map XField.e=(fs.map XField.e).set (uS fs nm) [.str fs[uS fs nm].name, .int .i64 n]:=by
 have:tQ fs nm n=fs.set (uS fs nm) ⟨nm,n⟩:=by
  unfold tQ
  simp[hk,h]
 rw[this,List.map_set,h];rfl
theorem sB {B:Nat}(hB:B≤1048576){r:XRecord}(h:r.Ok B){nm:List UInt8}(hn:nm.length≤B){n:Int}(hi:jt n):ag Ph aC 341 [r.v,di nm,ai .i64 n]=some (qx (setR r.fs nm n)):=by
 have hM:B+1≤maxLen:=by unfold maxLen;omega
 have e1:=mg hB h
 have e2:=iZ (XRecord.Ok.mono (by omega) h)
 have e3:=iZ (r:=⟨tQ r.fs nm n⟩) (XRecord.Ok.mono hM (NF h hn hi))
 have hl:r.fs.length≤1048576:=Nat.le_trans h.1 hB
 have e4:=t9 (r:=r) (by unfold maxLen;omega) nm
 have fp:=fun hv=>Qs (nm:=nm) (fs:=r.fs) (Ss hv)
 have hs:=yY (fs:=r.fs) (nm:=nm) (n:=n)
 have hins:=yX r.fs nm n
 unfold setR
 generalize tQ r.fs nm n=F at e3 hs hins⊢
 refine aa (fn:=ik) rfl ?_
 have hp:=Ia r.fs nm
 have m1:=gV (m:=r.fs.length+1) (z:=24) (by omega) (by omega)
 rcases yt (isF nm) r.fs with hf|⟨j,hj,hf,hq⟩<;>rw[hf]at e4 fp
 ·simp +contextual (maxSteps:=9999999) [ik,e1,e4,cw]
  have b1:= @Ma r.fs nm
  have b2:= @L9 r.fs nm
  generalize uS r.fs nm=k at fp hins hp b1 b2
  refine aL bG Cl.fin [.f,.t,.t,.t,.f,.f,.t,.f,.t,.f,.t,.f,.f,.f,.f,.f,.f,.f,.f,.f,.f,.f,.f,.f,.f,.f,.f,.f,.f,.f,.f,.f,.f,.f,.f,.f,.f,.f,.f,.f,.f,.f,.f,.f,.f,.f,.f,.f,.f,.f,.f,.f,.f,.f,.f,.f,.f,.f,.f,.f,.f] (fun k=>[(10,ai .i64 k)]) k (fun _=>false) rfl (by simp) (fun j hj _=> ?_) (fun _ _=> ?_)
  ·have hj2:j<r.fs.length:=by omega
   have l1:=b1 hj hj2
   simp +contextual (maxSteps:=9999999) [dU,hj2,l1,aU (n:=r.fs.length) (by unfold maxLen;omega) hj2,a8 hj2,XField.e.eq_1 r.fs[j]]
  ·have hm:db r.fs=true→_:=fun hv=>(hins fun f hff e=>by
    have:=fp hv
    rw[hff]at this
    simp only[e,if_true]at this
    omega).symm
   by_cases hlt:k<r.fs.length
   ·have l1:=b2 hlt
    have hx:=XField.e.eq_1 r.fs[k]
    cases c1:db r.fs<;>rw[c1]at e2
    ·simp +contextual (maxSteps:=9999999) [dU,hlt,hx,l1,hp,m1,e2,e1,a8 hlt]
    ·have hm:=hm c1
     cases c2:db F<;>rw[c2]at e3
     ·simp +contextual (maxSteps:=9999999) [dU,hlt,hx,l1,hp,m1,hm,e2,e3,e1,a8 hlt]
     ·simp +contextual (maxSteps:=9999999) [dU,hlt,hx,l1,hp,m1,hm,e2,e3,a8 hlt]
   ·obtain rfl:k=r.fs.length:=by omega
    cases c1:db r.fs<;>rw[c1]at e2
    ·simp +contextual (maxSteps:=9999999) [dU,m1,e2,e1]
    ·have hm:=hm c1
     cases c2:db F<;>rw[c2]at e3
     ·simp +contextual (maxSteps:=9999999) [dU,m1, ↓hm,e2,e3,e1]
     ·simp +contextual (maxSteps:=9999999) [dU,m1, ↓hm,e2,e3]
 ·have hx:=XField.e.eq_1 r.fs[j]
  cases c1:db r.fs<;>rw[c1]at e2
  ·simp +contextual (maxSteps:=9999999) [ik,e1,e4,cw,hj,hx,e2]
  ·have fp:=fp c1
   have hm:(r.fs.map XField.e).set j [.str r.fs[j].name, .int .i64 n]=F.map XField.e:=by
    cases hc:r.fs[uS r.fs nm]? with
    |none=>rw[hc]at fp;simp only at fp;omega
    |some f=>
     rw[hc]at fp
     by_cases e:f.name=nm
     ·simp only[e,if_true]at fp
      obtain rfl:j=uS r.fs nm:=by omega
      rw[List.getElem?_eq_getElem hj]at hc
      cases hc
      exact(hs hj e).symm
     ·simp only[e,if_false]at fp;omega
   cases c2:db F<;>rw[c2]at e3
   ·simp +contextual (maxSteps:=9999999) [ik,e1,e4,cw,hj,hx,hm,e2,e3]
   ·simp +contextual (maxSteps:=9999999) [ik,e1,e4,cw,hj,hx,hm,e2,e3]
theorem sP {B:Nat}(hB:B≤1048576){r:XRecord}(h:r.Ok B){nm:List UInt8}(hn:nm.length≤B){n:Int}(hi:jt n):ag Ph aC 338 [r.v,di nm,ai .i64 n]=some (qx (setR r.fs nm n)):=by
 have hM:B+1≤maxLen:=by unfold maxLen;omega
 have e1:=qC hB h
 have e2:=fR (XRecord.Ok.mono (by omega) h)
 have e3:=fR (r:=⟨tQ r.fs nm n⟩) (XRecord.Ok.mono hM (NF h hn hi))
 have hl:r.fs.length≤1048576:=Nat.le_trans h.1 hB
 have hs:=yY (fs:=r.fs) (nm:=nm) (n:=n)
 have hins:=yX r.fs nm n
 unfold setR
 generalize tQ r.fs nm n=F at e3 hs hins⊢
 refine aa (fn:=pe) rfl ?_
 have hp:=Ia r.fs nm
 have m1:=gV (m:=r.fs.length+1) (z:=24) (by omega) (by omega)
 simp +contextual (maxSteps:=9999999) [pe,e1]
 have b1:= @Ma r.fs nm
 have b2:= @L9 r.fs nm
 generalize uS r.fs nm=k at hs hins hp b1 b2
 have m2:=gV (m:=k) (z:=24) (by omega) (by omega)
 have m3:=gV (m:=k+1) (z:=24) (by omega) (by omega)
 have w2:((r.fs.map XField.e).take k).all (fun e=>e.length==2)=true:=by rw[←List.map_take];exact fj (e:=XField.e) (z:=2) (fun _=>rfl) _
 have w3:((r.fs.map XField.e).drop k).all (fun e=>e.length==2)=true:=by rw[←List.map_drop];exact fj (e:=XField.e) (z:=2) (fun _=>rfl) _
 have t1:List.take (r.fs.length-k) ((r.fs.map XField.e).drop k)=(r.fs.map XField.e).drop k:=List.take_of_length_le (by simp)
 have t2:k+1+(r.fs.length-k)=r.fs.length+1:=by omega
 have w4:=fj (e:=XField.e) (z:=2) (fun _=>rfl) r.fs
 refine aL bG Cl.fin [.f,.t,.t,.t,.f,.f,.t,.f,.t,.t,.f,.f,.f,.f,.f,.f,.f,.f,.f,.f,.f,.f,.f,.f,.f,.f,.f,.f,.f,.f,.f,.f,.f,.f,.f,.f,.f,.f,.f,.f,.f,.f,.f,.f,.f,.f,.f,.f,.f,.f,.f,.f,.f,.f,.f,.f,.f,.f,.f,.f,.f,.f,.f,.f,.f,.f,.f,.f,.f,.f,.f,.f,.f,.f,.f,.f,.f,.f] (fun k=>[(9,ai .i64 k)]) k (fun _=>false) rfl (by simp) (fun j hj _=> ?_) (fun _ _=> ?_)
 ·have hj2:j<r.fs.length:=by omega
  have l1:=b1 hj hj2
  simp +contextual (maxSteps:=9999999) [gl,hj2,l1,aU (n:=r.fs.length) (by unfold maxLen;omega) hj2,a8 hj2,XField.e.eq_1 r.fs[j]]
 ·by_cases hlt:k<r.fs.length
  ·have l1:=b2 hlt
   have hx:=XField.e.eq_1 r.fs[k]
   by_cases hq:r.fs[k].name=nm
   ·have hm:=(hs hlt hq).symm
    have hb:(r.fs[k].name==nm)=true:=by simp[hq]
    cases c1:db r.fs<;>rw[c1]at e2<;>cases c2:db F<;>rw[c2]at e3<;>simp +contextual (maxSteps:=9999999) [gl,hlt,hx,l1,hb,hm,e2,e3,e1,a8 hlt]
   ·have hm:=(hins fun f hf e=>hq (by rw[List.getElem?_eq_getElem hlt]at hf;cases hf;exact e)).symm
    have hb:(r.fs[k].name==nm)=false:=by simp[hq]
    cases c1:db r.fs<;>rw[c1]at e2<;>cases c2:db F<;>rw[c2]at e3<;>simp +contextual (maxSteps:=9999999) [gl,hlt,hx,l1,hb,hm,e2,e3,e1,a8 hlt,m1,m2,m3,w2,w3,w4,hp,t1,t2]
  ·obtain rfl:k=r.fs.length:=by omega
   have hm:=(hins fun f hf e=>by rw[List.getElem?_eq_none (Nat.le_refl _)]at hf;cases hf).symm
   have hm2:(r.fs.map XField.e).take r.fs.length++[[.str nm, .int .i64 n]]=F.map XField.e:=by rw[←hm];simp
   have hF:F.length=r.fs.length+1:=by have:=congrArg List.length hm2;simpa using this.symm
   cases c1:db r.fs<;>rw[c1]at e2<;>cases c2:db F<;>rw[c2]at e3<;>simp +contextual (maxSteps:=9999999) [gl,hm,hm2,hF,e2,e3,e1,m1,m2,m3,w2,w3,w4,t1,t2]
def Sl (x:XItem):Bool:=fA x.key&&db x.rcd.fs
def tg :List XItem→Bool
 |[]=>true
 |[_]=>true
 |a::b::t=>decide (pA a.key b.key<0)&&tg (b::t)
def Ej :Option XItem→Option XItem→Bool
 |some a,some b=>decide (pA a.key b.key<0)
 |_,_=>true
theorem G1 :∀{xs:List XItem},tg xs=true↔∀j(h:j+1<xs.length),pA xs[j].key xs[j+1].key<0
 |[]=>by simp[tg]
 |[_]=>by simp[tg]
 |a::b::t=>by
  have ih:=G1 (xs:=b::t)
  simp only[tg,Bool.and_eq_true,decide_eq_true_eq,ih]
  constructor
  ·intro⟨h1,h2⟩ j hj
   cases j with
   |zero=>simpa using h1
   |succ j=>have:=h2 j (by simpa using hj);simpa using this
  ·intro h
   refine⟨by have:=h 0 (by simp);simpa using this,fun j hj=> ?_⟩
   have:=h (j+1) (by simpa using hj)
   simpa using this
def tG (xs:List XItem):Bool:= !(lc xs.length (G8 xs))
theorem Eg (xs:List XItem):tG xs=(xs.all Sl&&tg xs):=by
 rw[Bool.eq_iff_iff]
 unfold tG
 simp only[Bool.not_eq_true',Bool.and_eq_true,G1,List.all_eq_true]
 have at':∀k(hk:k<xs.length),G8 xs k=(!(fA xs[k].key)||(!(db xs[k].rcd.fs)||(cw 0 k&& !(cw (pA (xs[k-1]'(by omega)).key xs[k].key) 0)))):=fun k hk=>by simp[G8,hk,show k-1<xs.length by omega]
 constructor
 ·intro h
  refine⟨fun x hx=> ?_,fun j hj=> ?_⟩
  ·obtain⟨k,hk,rfl⟩:=List.mem_iff_getElem.1 hx
   have:=wL h hk
   rw[at' k hk]at this
   simp only[Bool.or_eq_false_iff,Bool.not_eq_false']at this
   simp[Sl,this.1,this.2.1]
  ·have:=wL h hj
   rw[at' _ hj]at this
   simp only[Bool.or_eq_false_iff,Bool.and_eq_false_iff,Bool.not_eq_false',Nat.add_sub_cancel]at this
   rcases this.2.2 with q|q
   ·rw[eJ (by omega)]at q;cases q
   ·exact of_decide_eq_true q
 ·intro⟨h1,h2⟩
  refine zD fun k hk=> ?_
  rw[at' k hk]
  have h3:=h1 _ (List.getElem_mem hk)
  simp only[Sl,Bool.and_eq_true]at h3
  rw[h3.1,h3.2]
  cases k with
  |zero=>rw[fB (by simp)];rfl
  |succ j=>
   have:=h2 j hk
   simp only[Nat.add_sub_cancel,eJ this];simp
theorem xS :∀(l m:List XItem),tg (l++m)=(tg l&&(tg m&&Ej l.getLast? m.head?))
 |[],m=>by cases m<;>simp[tg,Ej]
 |[a],[]=>by simp[tg,Ej]
 |[a],b::m=>by simp[tg,Ej,Bool.and_comm]
 |a::b::t,m=>by
  have ih:=xS (b::t) m
  simp only[List.cons_append]at ih⊢
  simp only[tg,ih,Bool.and_assoc]
  have:(a::b::t).getLast? =(b::t).getLast?:=by simp[List.getLast?_cons_cons]
  rw[this]
theorem NS (x:XItem)(m:List XItem):tg (x::m)=(tg m&&Ej (some x) m.head?):=by
 have:=xS [x] m
 simpa[tg]using this
def we (xs:List XItem)(k:XKey):Nat:=xs.findIdx fun x=> !(decide (pA x.key k<0))
theorem yP (xs:List XItem)(k:XKey):we xs k≤xs.length:=List.findIdx_le_length
theorem H9 {xs:List XItem}{k:XKey}{j:Nat}(h:j<we xs k)(hj:j<xs.length):pA xs[j].key k<0:=by
 have:=List.not_of_lt_findIdx h
 simpa using this
theorem H8 {xs:List XItem}{k:XKey}(h:we xs k<xs.length):¬pA xs[we xs k].key k<0:=by
 have:=List.findIdx_getElem (w:=h)
 unfold we
 simpa using this
theorem N7 {a b:List UInt8}(h:Lib.compareBytes a b=0):a=b:=by
 rw[iv]at h
 have ht:=qv a b
 cases q:Op.bytesLess a b<;>cases q2:Op.bytesLess b a<;>simp[q,q2]at h ht⊢
 exact ht
theorem N8 {a b:XKey}(ha:fA a=true)(hb:fA b=true)(hne:a≠b)(h:¬pA a b<0):pA b a<0:=by
 have h1:=Jg a b
 have hz:pA a b≠0:=fun e=>by
  obtain⟨ak,an,ax⟩:=a
  obtain⟨bk,bn,bx⟩:=b
  simp only[ne_eq,XKey.mk.injEq]at hne
  have hc:= @N7 ax bx
  simp only[pA,ha,hb]at e
  grind [SZ,cw]
 omega
theorem LU {k:XKey}{x:XItem}:n9 k x=true↔x.key=k:=by
 obtain⟨⟨a,b,c⟩,r⟩:=x
 obtain⟨d,e,f⟩:=k
 simp[n9]
theorem M9 {α:Type}{p:α→Bool}{xs:List α}(h:dM p xs= -1):∀x∈xs,p x=false:=fun x hx=>by
 unfold dM at h
 cases q:xs.findIdx? p with
 |none=>rw[List.findIdx?_eq_none_iff]at q;exact q x hx
 |some i=>rw[q]at h;simp only at h;omega
def wn (s:XStore)(k:XKey):Int:=if k.kind=1∧s.auto<k.n∧k.n≤1000000 then k.n else s.auto
def pE (s:XStore)(k:XKey)(r:XRecord):List XItem:=s.items.take (we s.items k)++(⟨k,r⟩::s.items.drop (we s.items k))
def ln (s:XStore)(k:XKey)(r:XRecord):XStore×Bool:=
 cond (fg s&&(fA k&&db r.fs))
  (if 0≤dM (n9 k) s.items then(⟨s.name,s.items.set (dM (n9 k) s.items).toNat ⟨k,r⟩,s.auto⟩,true)
   else if 16≤s.items.length then(s,false)else(⟨s.name,pE s k r,wn s k⟩,true))
  (s,false)
theorem PR {xs:List XItem}{j:Nat}{x:XItem}(hj:j<xs.length)(hk:xs[j].key=x.key)(h:tg xs=true):tg (xs.set j x)=true:=by
 have hkey:∀i(hi:i<xs.length),((xs.set j x)[i]'(by simpa using hi)).key=xs[i].key:=fun i hi=>by
  rw[List.getElem_set]
  split
  ·rename_i e;subst e;exact hk.symm
  ·rfl
 rw[G1]at h⊢
 intro i hi
 have hi':i+1<xs.length:=by simpa using hi
 rw[hkey i (by omega),hkey (i+1) hi']
 exact h i hi'
theorem JZ {s:XStore}{k:XKey}{r:XRecord}{j:Nat}(hs:fg s=true)(hj:j<s.items.length)(hk:s.items[j].key=k):fg ⟨s.name,s.items.set j ⟨k,r⟩,s.auto⟩=db r.fs:=by
 unfold fg at hs⊢
 simp only[Bool.and_eq_true]at hs
 obtain⟨h1,h2,h3,h4⟩:=hs
 simp only[h2,h3,h4,List.length_set,Bool.and_self,Bool.and_true,Bool.true_and]
 change tG _=true at h1
 have e:(!lc s.items.length (G8 (s.items.set j ⟨k,r⟩)))=tG (s.items.set j ⟨k,r⟩):=by unfold tG;rw[List.length_set]
 rw[e]
 rw[Eg]at h1⊢
 simp only[Bool.and_eq_true]at h1
 rw[PR hj hk h1.2,Bool.and_true]
 cases hr:db r.fs with
 |true=>
  rw[List.all_eq_true]
  intro x hx
  rcases List.mem_or_eq_of_mem_set hx with hx|rfl
  ·exact List.all_eq_true.1 h1.1 x hx
  ·have:=List.all_eq_true.1 h1.1 _ (List.getElem_mem hj)
   simp only[Sl,hk,Bool.and_eq_true]at this
   simp[Sl,hr,this.1]
 |false=>
  rw[List.all_eq_false]
  refine⟨⟨k,r⟩,List.mem_iff_getElem.2 ⟨j,by simpa using hj,by simp⟩,by simp[Sl,hr]⟩
theorem JY {s:XStore}{k:XKey}{r:XRecord}(hs:fg s=true)(hk:fA k=true)(hf:dM (n9 k) s.items= -1):fg ⟨s.name,pE s k r,wn s k⟩=(db r.fs&&decide (s.items.length+1≤16)):=by
 unfold fg at hs⊢
 simp only[Bool.and_eq_true]at hs
 obtain⟨h1,h2,h3,h4⟩:=hs
 change tG _=true at h1
 change (tG _&&_)=_
 rw[Eg]at h1⊢
 simp only[Bool.and_eq_true,rg,cw,decide_eq_true_eq,Bool.not_eq_true',decide_eq_false_iff_not]at h1 h4
 have hp:=yP s.items k
 have hlen:(pE s k r).length=s.items.length+1:=by unfold pE;simp;omega
 have ha:rg (wn s k) 0 1000000=true:=by
  unfold wn rg cw
  split<;>simp<;>omega
 have hl:(!(cw 16 ((pE s k r).length:Nat)))=decide (s.items.length+1≤16):=by rw[hlen,Bool.eq_iff_iff];simp[cw];omega
 simp only[h2,ha,hl,Bool.and_true,Bool.true_and]
 congr 1
 have hadj:tg (pE s k r)=true:=by
  unfold pE
  rw[xS,NS]
  have hsp:=xS (s.items.take (we s.items k)) (s.items.drop (we s.items k))
  rw[List.take_append_drop,h1.2]at hsp
  simp only[Bool.true_eq,Bool.and_eq_true]at hsp
  rw[hsp.1,hsp.2.1]
  simp only[Bool.true_and,List.head?_cons,Bool.and_eq_true]
  constructor
  ·cases hq:(s.items.drop (we s.items k)).head? with
   |none=>rfl
   |some y=>
    rw[List.head?_drop]at hq
    obtain⟨hlt,rfl⟩:=List.getElem?_eq_some_iff.1 hq
    have hy:=List.all_eq_true.1 h1.1 _ (List.getElem_mem hlt)
    simp only[Sl,Bool.and_eq_true]at hy
    have:=N8 hy.1 hk (fun e=>by have:=M9 hf _ (List.getElem_mem hlt);rw[LU.2 e]at this;cases this) (H8 hlt)
    simp[Ej,this]
  ·cases hq:(s.items.take (we s.items k)).getLast? with
   |none=>rfl
   |some y=>
    rw[List.getLast?_eq_getElem?]at hq
    obtain⟨hlt,rfl⟩:=List.getElem?_eq_some_iff.1 hq
    simp only[List.length_take]at hlt⊢
    rw[List.getElem_take]
    have:=H9 (xs:=s.items) (k:=k) (j:=min (we s.items k) s.items.length-1) (by omega) (by omega)
    simp[Ej,this]
 rw[hadj,Bool.and_true]
 cases hr:db r.fs with
 |true=>
  rw[List.all_eq_true]
  intro x hx
  unfold pE at hx
  rw[List.mem_append,List.mem_cons]at hx
  rcases hx with hx|rfl|hx
  ·exact List.all_eq_true.1 h1.1 x (List.mem_of_mem_take hx)
  ·simp[Sl,hr,hk]
  ·exact List.all_eq_true.1 h1.1 x (List.mem_of_mem_drop hx)
 |false=>
  rw[List.all_eq_false]
  exact⟨⟨k,r⟩,by unfold pE;simp,by simp[Sl,hr]⟩
end Gi
