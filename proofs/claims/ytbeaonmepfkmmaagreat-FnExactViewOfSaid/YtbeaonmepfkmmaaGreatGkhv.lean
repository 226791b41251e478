/- Of this proof. -/
import Derived.Test.YtbeaonmepfkmmaaGreatGxtv
import Derived.Test.YtbeaonmepfkmmaaGreatGkdv
import Derived.Test.YtbeaonmepfkmmaaGreatGksv
set_option linter.unusedSimpArgs false
set_option linter.unusedVariables false
namespace Gi
open Go Go.RowKit
theorem XKey.Ok.mono {A B:Nat}(hAB:A≤B){x:XKey}(h:x.Ok A):x.Ok B:=by
 obtain⟨h0,h1,h2⟩:=h
 exact⟨h0,h1,Zc h2 hAB⟩
theorem XField.Ok.mono {A B:Nat}(hAB:A≤B){x:XField}(h:x.Ok A):x.Ok B:=by
 obtain⟨h0,h1⟩:=h
 exact⟨Zc h0 hAB,h1⟩
theorem XRecord.Ok.mono {A B:Nat}(hAB:A≤B){x:XRecord}(h:x.Ok A):x.Ok B:=by
 have h0:=h
 exact⟨Zc h0.1 hAB,fun y m=>XField.Ok.mono hAB (h0.2 y m)⟩
theorem XItem.Ok.mono {A B:Nat}(hAB:A≤B){x:XItem}(h:x.Ok A):x.Ok B:=by
 obtain⟨h0,h1⟩:=h
 exact⟨XKey.Ok.mono hAB h0,XRecord.Ok.mono hAB h1⟩
theorem XStore.Ok.mono {A B:Nat}(hAB:A≤B){x:XStore}(h:x.Ok A):x.Ok B:=by
 obtain⟨h0,h1,h2⟩:=h
 exact⟨Zc h0 hAB,⟨Zc h1.1 hAB,fun y m=>XItem.Ok.mono hAB (h1.2 y m)⟩,h2⟩
theorem XWrite.Ok.mono {A B:Nat}(hAB:A≤B){x:XWrite}(h:x.Ok A):x.Ok B:=by
 obtain⟨h0,h1,h2,h3,h4⟩:=h
 exact⟨h0,h1,XKey.Ok.mono hAB h2,Zc h3 hAB,h4⟩
theorem XApplied.Ok.mono {A B:Nat}(hAB:A≤B){x:XApplied}(h:x.Ok A):x.Ok B:=by
 obtain⟨h0,h1⟩:=h
 exact⟨h0,h1⟩
theorem XServer.Ok.mono {A B:Nat}(hAB:A≤B){x:XServer}(h:x.Ok A):x.Ok B:=by
 obtain⟨h0,h1,h2⟩:=h
 exact⟨XStore.Ok.mono hAB h0,⟨Zc h1.1 hAB,fun y m=>XApplied.Ok.mono hAB (h1.2 y m)⟩,⟨Zc h2.1 hAB,fun y m=>XWrite.Ok.mono hAB (h2.2 y m)⟩⟩
theorem XOutbox.Ok.mono {A B:Nat}(hAB:A≤B){x:XOutbox}(h:x.Ok A):x.Ok B:=by
 obtain⟨h0,h1,h2⟩:=h
 exact⟨h0,h1,⟨Zc h2.1 hAB,fun y m=>XWrite.Ok.mono hAB (h2.2 y m)⟩⟩
theorem XSync.Ok.mono {A B:Nat}(hAB:A≤B){x:XSync}(h:x.Ok A):x.Ok B:=by
 obtain⟨h0,h1,h2⟩:=h
 exact⟨XOutbox.Ok.mono hAB h0,h1,h2⟩
theorem XReplica.Ok.mono {A B:Nat}(hAB:A≤B){x:XReplica}(h:x.Ok A):x.Ok B:=by
 obtain⟨h0,h1,h2⟩:=h
 exact⟨XStore.Ok.mono hAB h0,h1,XSync.Ok.mono hAB h2⟩
theorem XResponse.Ok.mono {A B:Nat}(hAB:A≤B){x:XResponse}(h:x.Ok A):x.Ok B:=by
 obtain⟨h0,h1,h2,h3⟩:=h
 exact⟨h0,h1,h2,Zc h3 hAB⟩
theorem XCached.Ok.mono {A B:Nat}(hAB:A≤B){x:XCached}(h:x.Ok A):x.Ok B:=by
 obtain⟨h0,h1,h2⟩:=h
 exact⟨Zc h0 hAB,Zc h1 hAB,XResponse.Ok.mono hAB h2⟩
theorem XCache.Ok.mono {A B:Nat}(hAB:A≤B){x:XCache}(h:x.Ok A):x.Ok B:=by
 obtain⟨h0,h1⟩:=h
 exact⟨h0,⟨Zc h1.1 hAB,fun y m=>XCached.Ok.mono hAB (h1.2 y m)⟩⟩
theorem XCacheSet.Ok.mono {A B:Nat}(hAB:A≤B){x:XCacheSet}(h:x.Ok A):x.Ok B:=by
 have h0:=h
 exact⟨Zc h0.1 hAB,fun y m=>XCache.Ok.mono hAB (h0.2 y m)⟩
theorem XRegistration.Ok.mono {A B:Nat}(hAB:A≤B){x:XRegistration}(h:x.Ok A):x.Ok B:=by
 obtain⟨h0,h1,h2,h3⟩:=h
 exact⟨Zc h0 hAB,h1,h2,h3⟩
theorem XLoaded.Ok.mono {A B:Nat}(hAB:A≤B){x:XLoaded}(h:x.Ok A):x.Ok B:=by
 obtain⟨h0,h1⟩:=h
 exact⟨Zc h0 hAB,h1⟩
theorem XInstr.Ok.mono {A B:Nat}(hAB:A≤B){x:XInstr}(h:x.Ok A):x.Ok B:=by
 obtain⟨h0,h1,h2,h3⟩:=h
 exact⟨h0,h1,h2,Zc h3 hAB⟩
theorem XMachine.Ok.mono {A B:Nat}(hAB:A≤B){x:XMachine}(h:x.Ok A):x.Ok B:=by
 obtain⟨h0,h1,h2,h3⟩:=h
 exact⟨⟨Zc h0.1 hAB,fun y m=>XInstr.Ok.mono hAB (h0.2 y m)⟩,h1,⟨Zc h2.1 hAB,h2.2⟩,h3⟩
theorem XPage.Ok.mono {A B:Nat}(hAB:A≤B){x:XPage}(h:x.Ok A):x.Ok B:=by
 obtain⟨h0,h1,h2,h3,h4,h5⟩:=h
 exact⟨h0,Zc h1 hAB,Zc h2 hAB,h3,⟨Zc h4.1 hAB,fun y m=>XLoaded.Ok.mono hAB (h4.2 y m)⟩,XMachine.Ok.mono hAB h5⟩
theorem XIndexDef.Ok.mono {A B:Nat}(hAB:A≤B){x:XIndexDef}(h:x.Ok A):x.Ok B:=by
 obtain⟨h0,h1⟩:=h
 exact⟨Zc h0 hAB,Zc h1 hAB⟩
theorem XDatabase.Ok.mono {A B:Nat}(hAB:A≤B){x:XDatabase}(h:x.Ok A):x.Ok B:=by
 obtain⟨h0,h1,h2,h3⟩:=h
 exact⟨Zc h0 hAB,h1,⟨Zc h2.1 hAB,fun y m=>XStore.Ok.mono hAB (h2.2 y m)⟩,⟨Zc h3.1 hAB,fun y m=>XIndexDef.Ok.mono hAB (h3.2 y m)⟩⟩
theorem XDisk.Ok.mono {A B:Nat}(hAB:A≤B){x:XDisk}(h:x.Ok A):x.Ok B:=by
 obtain⟨h0,h1,h2⟩:=h
 exact⟨XDatabase.Ok.mono hAB h0,Zc h1 hAB,h2⟩
theorem XBucket.Ok.mono {A B:Nat}(hAB:A≤B){x:XBucket}(h:x.Ok A):x.Ok B:=by
 obtain⟨h0,h1,h2,h3,h4,h5,h6⟩:=h
 exact⟨Zc h0 hAB,Zc h1 hAB,XRegistration.Ok.mono hAB h2,XCacheSet.Ok.mono hAB h3,XDisk.Ok.mono hAB h4,XReplica.Ok.mono hAB h5,h6⟩
theorem XStorage.Ok.mono {A B:Nat}(hAB:A≤B){x:XStorage}(h:x.Ok A):x.Ok B:=by
 have h0:=h
 exact⟨Zc h0.1 hAB,fun y m=>XBucket.Ok.mono hAB (h0.2 y m)⟩
theorem XLock.Ok.mono {A B:Nat}(hAB:A≤B){x:XLock}(h:x.Ok A):x.Ok B:=by
 obtain⟨h0,h1⟩:=h
 exact⟨Zc h0 hAB,h1⟩
theorem XLockTable.Ok.mono {A B:Nat}(hAB:A≤B){x:XLockTable}(h:x.Ok A):x.Ok B:=by
 have h0:=h
 exact⟨Zc h0.1 hAB,fun y m=>XLock.Ok.mono hAB (h0.2 y m)⟩
theorem XMail.Ok.mono {A B:Nat}(hAB:A≤B){x:XMail}(h:x.Ok A):x.Ok B:=by
 obtain⟨h0,h1,h2⟩:=h
 exact⟨h0,h1,h2⟩
theorem XChannel.Ok.mono {A B:Nat}(hAB:A≤B){x:XChannel}(h:x.Ok A):x.Ok B:=by
 have h0:=h
 exact⟨Zc h0.1 hAB,fun y m=>XMail.Ok.mono hAB (h0.2 y m)⟩
theorem XSite.Ok.mono {A B:Nat}(hAB:A≤B){x:XSite}(h:x.Ok A):x.Ok B:=by
 obtain⟨h0,h1,h2⟩:=h
 exact⟨Zc h0 hAB,h1,⟨Zc h2.1 hAB,fun y m=>Zc (h2.2 y m) hAB⟩⟩
theorem XWorld.Ok.mono {A B:Nat}(hAB:A≤B){x:XWorld}(h:x.Ok A):x.Ok B:=by
 obtain⟨h0,h2,h3,h4,h5,h6,h7,h8,h9⟩:=h
 exact⟨h0,h2,XStorage.Ok.mono hAB h3,⟨Zc h4.1 hAB,fun y m=>XPage.Ok.mono hAB (h4.2 y m)⟩,h5,XLockTable.Ok.mono hAB h6,XChannel.Ok.mono hAB h7,⟨Zc h8.1 hAB,fun y m=>XSite.Ok.mono hAB (h8.2 y m)⟩,⟨Zc h9.1 hAB,fun y m=>XServer.Ok.mono hAB (h9.2 y m)⟩⟩
end Gi
namespace Gi
open Go Go.RowKit
set_option maxHeartbeats 8000000
set_option maxRecDepth 4000
attribute [local simp] start nY bo cj cE dE cD dD dJ dI pa pp pd pq pe pt pf pw pg px ph py pj pz pk pA pm pB V.cells plain bi fT isInt isStr isBool bin bK fR bL fS dF un asList L.view az V.view viewL aS aA bO bg bJ comp aM bA cz bI bc a9 ba av aj aE ai au aQ aq aY bC aD bd bf V.flat L.flat cT cS bq putAt thaw thawL thawT V.ow dH cG cH bM dG bN cF freezeVs freezeLs freezeL V.mut L.mut aI bY fu aZ bB aP dL cf bE cy L.ren aO cX bR cZ bG bD wp_seq wp_block aT cJ bP bh bQ wp_skip wp_exit wp_ret ca b7 ce cd cr ct cq bH aL L.notArr bu br bt cI b6 storeD aV ep a8 bW aU lV L.mov L.closed V.closed PV.bare PV.flat
def t7 (fs:List XField)(nm:List UInt8):Nat:=fs.findIdx fun f=> !(Op.bytesLess f.name nm)
theorem Ip (fs:List XField)(nm:List UInt8):t7 fs nm≤fs.length:=List.findIdx_le_length
theorem MB {fs:List XField}{nm:List UInt8}{k:Nat}(h:k<t7 fs nm)(hk:k<fs.length):Op.bytesLess fs[k].name nm=true:=by
 have:=List.not_of_lt_findIdx h
 simpa using this
theorem MA {fs:List XField}{nm:List UInt8}(h:t7 fs nm<fs.length):Op.bytesLess fs[t7 fs nm].name nm=false:=by
 have:=List.findIdx_getElem (w:=h)
 unfold t7
 simpa using this
def s7 (fs:List XField)(nm:List UInt8)(n:Int):List XField:=match fs[t7 fs nm]? with
 |some f=>if f.name=nm then fs.set (t7 fs nm) ⟨nm,n⟩else fs.take (t7 fs nm)++(⟨nm,n⟩::fs.drop (t7 fs nm))
 |none=>fs.take (t7 fs nm)++(⟨nm,n⟩::fs.drop (t7 fs nm))
theorem RY (fs:List XField)(nm:List UInt8)(n:Int):(s7 fs nm n).length≤fs.length+1:=by
 have:=Ip fs nm
 unfold s7
 split
 ·split
  ·simp
  ·simp;omega
 ·simp;omega
theorem RZ {fs:List XField}{nm:List UInt8}{n:Int}{f:XField}(h:f∈s7 fs nm n):f∈fs∨f=⟨nm,n⟩:=by
 have key:f∈fs.take (t7 fs nm)++(⟨nm,n⟩::fs.drop (t7 fs nm))→f∈fs∨f=⟨nm,n⟩:=fun h=>by
  rw[List.mem_append,Z6]at h
  rcases h with h|h|h
  ·exact .inl (Zy h)
  ·exact .inr h
  ·exact .inl (List.mem_of_mem_drop h)
 unfold s7 at h
 split at h
 ·split at h
  ·exact List.mem_or_eq_of_mem_set h
  ·exact key h
 ·exact key h
theorem Oh {B:Nat}{fs:List XField}(h:fs.length≤B∧∀f∈fs,f.Ok B){nm:List UInt8}(hn:nm.length≤B){n:Int}(hi:ii n):(s7 fs nm n).length≤B+1∧∀f∈s7 fs nm n,f.Ok (B+1):=by
 refine⟨by have:=RY fs nm n;omega,fun f hf=> ?_⟩
 rcases RZ hf with h1|rfl
 ·exact XField.Ok.mono (by omega) (h.2 f h1)
 ·exact⟨by simp only;omega,hi⟩
theorem ww :∀{a b c:List UInt8},Op.bytesLess a b=true→Op.bytesLess b c=true→Op.bytesLess a c=true
 |[],[],_,h,_=>by cases h
 |[],_::_,[],_,h=>by cases h
 |[],_::_,_::_,_,_=>rfl
 |_::_,[],_,h,_=>by cases h
 |_::_,_::_,[],_,h=>by cases h
 |a::x,b::y,c::z,h,k=>by
  simp only[Op.bytesLess,Bool.or_eq_true,Zg,decide_eq_true_eq,beq_iff_eq]at h k⊢
  rcases h with h|⟨rfl,h⟩
  ·rcases k with k|⟨rfl,k⟩
   ·exact .inl (UInt8.lt_trans h k)
   ·exact .inl h
  ·rcases k with k|⟨rfl,k⟩
   ·exact .inl k
   ·exact .inr ⟨rfl,ww h k⟩
theorem D9 :∀(a:List UInt8),Op.bytesLess a a=false
 |[]=>rfl
 |a::x=>by simp[Op.bytesLess,UInt8.lt_irrefl,D9 x]
def Vi :List XField→Prop
 |[]=>True
 |f::t=>(∀g∈t,Op.bytesLess f.name g.name=true)∧Vi t
theorem R8 :∀{fs:List XField},(∀j(h:j+1<fs.length),Op.bytesLess fs[j].name fs[j+1].name=true)→Vi fs
 |[],_=>trivial
 |[f],_=>⟨by simp,trivial⟩
 |f::g::t,h=>by
  have ih:=R8 (fs:=g::t) (fun j hj=>by have:=h (j+1) (by simpa using hj);simpa using this)
  refine⟨fun x hx=> ?_,ih⟩
  have h0:=h 0 (by simp)
  simp at h0
  rcases Z6.1 hx with rfl|hx
  ·exact h0
  ·exact ww h0 (ih.1 x hx)
theorem R7 :∀{fs:List XField},Vi fs→∀{i j:Nat}(h:i<j)(hj:j<fs.length),Op.bytesLess (fs[i]'(by omega)).name fs[j].name=true
 |[],_,_,_,_,hj=>by simp at hj
 |f::t,h,0,j+1,_,hj=>by
  simp only[List.getElem_cons_zero,List.getElem_cons_succ]
  exact h.1 _ (Zf _)
 |f::t,h,i+1,j+1,hij,hj=>by
  simp only[List.getElem_cons_succ]
  exact R7 h.2 (by omega) _
 |f::t,h,i+1,0,hij,hj=>by omega
theorem PH {a b:List UInt8}(h1:Op.bytesLess a b=false)(h2:a≠b):Op.bytesLess b a=true:=by
 have:=p5 a b
 rw[h1,beq_eq_false_iff_ne.2 h2]at this
 simpa using this
theorem Ts {fs:List XField}(h:cP fs=true):Vi fs:=by
 refine R8 fun j hj=> ?_
 simp only[cP,Zg,Bool.not_eq_true']at h
 have:=yH h.1 hj
 simp only[LL,hj,Zl,Nat.add_sub_cancel,show j<fs.length by omega,Bool.or_eq_false_iff,Bool.and_eq_false_iff,Bool.not_eq_false']at this
 rcases this.2.2 with q|q
 ·rw[d6 (by omega)]at q;cases q
 ·exact q
theorem Q5 {nm:List UInt8}{fs:List XField}(h:Vi fs):dv (isF nm) fs=(match fs[t7 fs nm]? with
 |some f=>if f.name=nm then((t7 fs nm:Nat):Int)else-1
 |none=> -1):=by
 have before:∀j,j<t7 fs nm→oK (isF nm) fs j=false:=fun j hj=>by
  have h1:j<fs.length:=Z7 hj (Ip _ _)
  have:=MB hj h1
  simp only[oK,h1,Zl,isF,beq_eq_false_iff_ne]
  intro e
  rw[e,D9]at this;cases this
 by_cases hp:t7 fs nm<fs.length
 ·simp only[hp,Zl]
  split
  ·rename_i e
   exact zR hp before (by simp[isF,e])
  ·rename_i e
   refine wd fun j hj=> ?_
   by_cases q:j<t7 fs nm
   ·exact before j q
   ·have h2:=PH (MA hp) e
    simp only[oK,hj,Zl,isF,beq_eq_false_iff_ne]
    by_cases q2:j=t7 fs nm
    ·subst q2;exact e
    ·intro e3
     have:=R7 h (i:=t7 fs nm) (j:=j) (by omega) hj
     rw[e3]at this
     have:=ww h2 this
     rw[D9]at this;cases this
 ·have:fs[t7 fs nm]? =none:=List.getElem?_eq_none (by omega)
  rw[this]
  exact wd fun j hj=>before j (by omega)
def setR (fs:List XField)(nm:List UInt8)(n:Int):List XField×Bool:=cond (cP fs&&cP (s7 fs nm n)) (s7 fs nm n,true) (fs,false)
abbrev p7 (x:List XField×Bool):V:= .tup [(true,[.own 2 (x.1.map XField.e)]),(false,[.pv (.bool x.2)])]
theorem yi (fs:List XField)(nm:List UInt8)(n:Int)(h:∀f,fs[t7 fs nm]? =some f→f.name≠nm):(s7 fs nm n).map XField.e=(fs.map XField.e).take (t7 fs nm)++([.str nm, .int .i64 n]::(fs.map XField.e).drop (t7 fs nm)):=by
 have:s7 fs nm n=fs.take (t7 fs nm)++(⟨nm,n⟩::fs.drop (t7 fs nm)):=by
  unfold s7
  split
  ·rename_i f hf;rw[if_neg (h f hf)]
  ·rfl
 rw[this];simp[XField.e]
theorem yj {fs:List XField}{nm:List UInt8}{n:Int}(hk:t7 fs nm<fs.length)(h:fs[t7 fs nm].name=nm):(s7 fs nm n).map XField.e=(fs.map XField.e).set (t7 fs nm) [.str fs[t7 fs nm].name, .int .i64 n]:=by
 have:s7 fs nm n=fs.set (t7 fs nm) ⟨nm,n⟩:=by
  unfold s7
  simp[hk,h]
 rw[this,List.map_set,h];rfl
theorem rU {B:Nat}(hB:B≤1048576){r:XRecord}(h:r.Ok B){nm:List UInt8}(hn:nm.length≤B){n:Int}(hi:ii n):ah Ph aH 341 [r.v,cU nm,ae .i64 n]=some (p7 (setR r.fs nm n)):=by
 have hM:B+1≤maxLen:=by unfold maxLen;omega
 have e1:=lI hB h
 have e2:=iF (XRecord.Ok.mono (by omega) h)
 have e3:=iF (r:=⟨s7 r.fs nm n⟩) (XRecord.Ok.mono hM (Oh h hn hi))
 have hl:r.fs.length≤1048576:=Zc h.1 hB
 have e4:=tj (r:=r) (by unfold maxLen;omega) nm
 have fp:=fun hv=>Q5 (nm:=nm) (fs:=r.fs) (Ts hv)
 have hs:=yj (fs:=r.fs) (nm:=nm) (n:=n)
 have hins:=yi r.fs nm n
 unfold setR
 generalize s7 r.fs nm n=F at e3 hs hins⊢
 refine aa (fn:=gL) rfl ?_
 have hp:=Ip r.fs nm
 have m1:=gx (m:=r.fs.length+1) (z:=24) (by omega) (by omega)
 rcases xD (isF nm) r.fs with hf|⟨j,hj,hf,hq⟩<;>rw[hf]at e4 fp
 ·simp +contextual (maxSteps:=9999999) [gL,e1,e4,b9]
  have b1:= @MB r.fs nm
  have b2:= @MA r.fs nm
  generalize t7 r.fs nm=k at fp hins hp b1 b2
  refine bm bX Cl.fin [.f,.t,.t,.t,.f,.f,.t,.f,.t,.f,.t,.f,.f,.f,.f,.f,.f,.f,.f,.f,.f,.f,.f,.f,.f,.f,.f,.f,.f,.f,.f,.f,.f,.f,.f,.f,.f,.f,.f,.f,.f,.f,.f,.f,.f,.f,.f,.f,.f,.f,.f,.f,.f,.f,.f,.f,.f,.f,.f,.f,.f] (fun k=>[(10,ae .i64 k)]) k (fun _=>false) rfl (by simp) (fun j hj _=> ?_) (fun _ _=> ?_)
  ·have hj2:j<r.fs.length:=by omega
   have l1:=b1 hj hj2
   simp +contextual (maxSteps:=9999999) [dA,hj2,l1,bw (n:=r.fs.length) (by unfold maxLen;omega) hj2,bU hj2,XField.e.eq_1 r.fs[j]]
  ·have hm:cP r.fs=true→_:=fun hv=>(hins fun f hff e=>by
    have:=fp hv
    rw[hff]at this
    simp only[e,if_true]at this
    omega).symm
   by_cases hlt:k<r.fs.length
   ·have l1:=b2 hlt
    have hx:=XField.e.eq_1 r.fs[k]
    cases c1:cP r.fs<;>rw[c1]at e2
    ·simp +contextual (maxSteps:=9999999) [dA,hlt,hx,l1,hp,m1,e2,e1,bU hlt]
    ·have hm:=hm c1
     cases c2:cP F<;>rw[c2]at e3
     ·simp +contextual (maxSteps:=9999999) [dA,hlt,hx,l1,hp,m1,hm,e2,e3,e1,bU hlt]
     ·simp +contextual (maxSteps:=9999999) [dA,hlt,hx,l1,hp,m1,hm,e2,e3,bU hlt]
   ·obtain rfl:k=r.fs.length:=by omega
    cases c1:cP r.fs<;>rw[c1]at e2
    ·simp +contextual (maxSteps:=9999999) [dA,m1,e2,e1]
    ·have hm:=hm c1
     cases c2:cP F<;>rw[c2]at e3
     ·simp +contextual (maxSteps:=9999999) [dA,m1, ↓hm,e2,e3,e1]
     ·simp +contextual (maxSteps:=9999999) [dA,m1, ↓hm,e2,e3]
 ·have hx:=XField.e.eq_1 r.fs[j]
  cases c1:cP r.fs<;>rw[c1]at e2
  ·simp +contextual (maxSteps:=9999999) [gL,e1,e4,b9,hj,hx,e2]
  ·have fp:=fp c1
   have hm:(r.fs.map XField.e).set j [.str r.fs[j].name, .int .i64 n]=F.map XField.e:=by
    cases hc:r.fs[t7 r.fs nm]? with
    |none=>rw[hc]at fp;simp only at fp;omega
    |some f=>
     rw[hc]at fp
     by_cases e:f.name=nm
     ·simp only[e,if_true]at fp
      obtain rfl:j=t7 r.fs nm:=by omega
      rw[Zl hj]at hc
      cases hc
      exact(hs hj e).symm
     ·simp only[e,if_false]at fp;omega
   cases c2:cP F<;>rw[c2]at e3
   ·simp +contextual (maxSteps:=9999999) [gL,e1,e4,b9,hj,hx,hm,e2,e3]
   ·simp +contextual (maxSteps:=9999999) [gL,e1,e4,b9,hj,hx,hm,e2,e3]
theorem sj {B:Nat}(hB:B≤1048576){r:XRecord}(h:r.Ok B){nm:List UInt8}(hn:nm.length≤B){n:Int}(hi:ii n):ah Ph aH 338 [r.v,cU nm,ae .i64 n]=some (p7 (setR r.fs nm n)):=by
 have hM:B+1≤maxLen:=by unfold maxLen;omega
 have e1:=qd hB h
 have e2:=fj (XRecord.Ok.mono (by omega) h)
 have e3:=fj (r:=⟨s7 r.fs nm n⟩) (XRecord.Ok.mono hM (Oh h hn hi))
 have hl:r.fs.length≤1048576:=Zc h.1 hB
 have hs:=yj (fs:=r.fs) (nm:=nm) (n:=n)
 have hins:=yi r.fs nm n
 unfold setR
 generalize s7 r.fs nm n=F at e3 hs hins⊢
 refine aa (fn:=ov) rfl ?_
 have hp:=Ip r.fs nm
 have m1:=gx (m:=r.fs.length+1) (z:=24) (by omega) (by omega)
 simp +contextual (maxSteps:=9999999) [ov,e1]
 have b1:= @MB r.fs nm
 have b2:= @MA r.fs nm
 generalize t7 r.fs nm=k at hs hins hp b1 b2
 have m2:=gx (m:=k) (z:=24) (by omega) (by omega)
 have m3:=gx (m:=k+1) (z:=24) (by omega) (by omega)
 have w2:((r.fs.map XField.e).take k).all (fun e=>e.length==2)=true:=by rw[←List.map_take];exact eM (e:=XField.e) (z:=2) (fun _=>rfl) _
 have w3:((r.fs.map XField.e).drop k).all (fun e=>e.length==2)=true:=by rw[←List.map_drop];exact eM (e:=XField.e) (z:=2) (fun _=>rfl) _
 have t1:List.take (r.fs.length-k) ((r.fs.map XField.e).drop k)=(r.fs.map XField.e).drop k:=Zz (by simp)
 have t2:k+1+(r.fs.length-k)=r.fs.length+1:=by omega
 have w4:=eM (e:=XField.e) (z:=2) (fun _=>rfl) r.fs
 refine bm bX Cl.fin [.f,.t,.t,.t,.f,.f,.t,.f,.t,.t,.f,.f,.f,.f,.f,.f,.f,.f,.f,.f,.f,.f,.f,.f,.f,.f,.f,.f,.f,.f,.f,.f,.f,.f,.f,.f,.f,.f,.f,.f,.f,.f,.f,.f,.f,.f,.f,.f,.f,.f,.f,.f,.f,.f,.f,.f,.f,.f,.f,.f,.f,.f,.f,.f,.f,.f,.f,.f,.f,.f,.f,.f,.f,.f,.f,.f,.f,.f] (fun k=>[(9,ae .i64 k)]) k (fun _=>false) rfl (by simp) (fun j hj _=> ?_) (fun _ _=> ?_)
 ·have hj2:j<r.fs.length:=by omega
  have l1:=b1 hj hj2
  simp +contextual (maxSteps:=9999999) [fE,hj2,l1,bw (n:=r.fs.length) (by unfold maxLen;omega) hj2,bU hj2,XField.e.eq_1 r.fs[j]]
 ·by_cases hlt:k<r.fs.length
  ·have l1:=b2 hlt
   have hx:=XField.e.eq_1 r.fs[k]
   by_cases hq:r.fs[k].name=nm
   ·have hm:=(hs hlt hq).symm
    have hb:(r.fs[k].name==nm)=true:=by simp[hq]
    cases c1:cP r.fs<;>rw[c1]at e2<;>cases c2:cP F<;>rw[c2]at e3<;>simp +contextual (maxSteps:=9999999) [fE,hlt,hx,l1,hb,hm,e2,e3,e1,bU hlt]
   ·have hm:=(hins fun f hf e=>hq (by rw[Zl hlt]at hf;cases hf;exact e)).symm
    have hb:(r.fs[k].name==nm)=false:=by simp[hq]
    cases c1:cP r.fs<;>rw[c1]at e2<;>cases c2:cP F<;>rw[c2]at e3<;>simp +contextual (maxSteps:=9999999) [fE,hlt,hx,l1,hb,hm,e2,e3,e1,bU hlt,m1,m2,m3,w2,w3,w4,hp,t1,t2]
  ·obtain rfl:k=r.fs.length:=by omega
   have hm:=(hins fun f hf e=>by rw[List.getElem?_eq_none (Zk _)]at hf;cases hf).symm
   have hm2:(r.fs.map XField.e).take r.fs.length++[[.str nm, .int .i64 n]]=F.map XField.e:=by rw[←hm];simp
   have hF:F.length=r.fs.length+1:=by have:=congrArg List.length hm2;simpa using this.symm
   cases c1:cP r.fs<;>rw[c1]at e2<;>cases c2:cP F<;>rw[c2]at e3<;>simp +contextual (maxSteps:=9999999) [fE,hm,hm2,hF,e2,e3,e1,m1,m2,m3,w2,w3,w4,t1,t2]
def Tj (x:XItem):Bool:=eW x.key&&cP x.rcd.fs
def sD :List XItem→Bool
 |[]=>true
 |[_]=>true
 |a::b::t=>decide (oL a.key b.key<0)&&sD (b::t)
def D8 :Option XItem→Option XItem→Bool
 |some a,some b=>decide (oL a.key b.key<0)
 |_,_=>true
theorem G7 :∀{xs:List XItem},sD xs=true↔∀j(h:j+1<xs.length),oL xs[j].key xs[j+1].key<0
 |[]=>by simp[sD]
 |[_]=>by simp[sD]
 |a::b::t=>by
  have ih:=G7 (xs:=b::t)
  simp only[sD,Zg,decide_eq_true_eq,ih]
  constructor
  ·intro⟨h1,h2⟩ j hj
   cases j with
   |zero=>simpa using h1
   |succ j=>have:=h2 j (by simpa using hj);simpa using this
  ·intro h
   refine⟨by have:=h 0 (by simp);simpa using this,fun j hj=> ?_⟩
   have:=h (j+1) (by simpa using hj)
   simpa using this
def sP (xs:List XItem):Bool:= !(mY xs.length (He xs))
theorem D6 (xs:List XItem):sP xs=(xs.all Tj&&sD xs):=by
 rw[Bool.eq_iff_iff]
 unfold sP
 simp only[Bool.not_eq_true',Zg,G7,Zs]
 have at':∀k(hk:k<xs.length),He xs k=(!(eW xs[k].key)||(!(cP xs[k].rcd.fs)||(b9 0 k&& !(b9 (oL (xs[k-1]'(by omega)).key xs[k].key) 0)))):=fun k hk=>by simp[He,hk,show k-1<xs.length by omega]
 constructor
 ·intro h
  refine⟨fun x hx=> ?_,fun j hj=> ?_⟩
  ·obtain⟨k,hk,rfl⟩:=List.mem_iff_getElem.1 hx
   have:=yH h hk
   rw[at' k hk]at this
   simp only[Bool.or_eq_false_iff,Bool.not_eq_false']at this
   simp[Tj,this.1,this.2.1]
  ·have:=yH h hj
   rw[at' _ hj]at this
   simp only[Bool.or_eq_false_iff,Bool.and_eq_false_iff,Bool.not_eq_false',Nat.add_sub_cancel]at this
   rcases this.2.2 with q|q
   ·rw[d6 (by omega)]at q;cases q
   ·exact of_decide_eq_true q
 ·intro⟨h1,h2⟩
  refine Cw fun k hk=> ?_
  rw[at' k hk]
  have h3:=h1 _ (Zf hk)
  simp only[Tj,Zg]at h3
  rw[h3.1,h3.2]
  cases k with
  |zero=>rw[fG (by simp)];rfl
  |succ j=>
   have:=h2 j hk
   simp only[Nat.add_sub_cancel,d6 this];simp
theorem wW :∀(l m:List XItem),sD (l++m)=(sD l&&(sD m&&D8 l.getLast? m.head?))
 |[],m=>by cases m<;>simp[sD,D8]
 |[a],[]=>by simp[sD,D8]
 |[a],b::m=>by simp[sD,D8,Bool.and_comm]
 |a::b::t,m=>by
  have ih:=wW (b::t) m
  simp only[Zr]at ih⊢
  simp only[sD,ih,Bool.and_assoc]
  have:(a::b::t).getLast? =(b::t).getLast?:=by simp[List.getLast?_cons_cons]
  rw[this]
theorem OB (x:XItem)(m:List XItem):sD (x::m)=(sD m&&D8 (some x) m.head?):=by
 have:=wW [x] m
 simpa[sD]using this
def vi (xs:List XItem)(k:XKey):Nat:=xs.findIdx fun x=> !(decide (oL x.key k<0))
theorem ya (xs:List XItem)(k:XKey):vi xs k≤xs.length:=List.findIdx_le_length
theorem Io {xs:List XItem}{k:XKey}{j:Nat}(h:j<vi xs k)(hj:j<xs.length):oL xs[j].key k<0:=by
 have:=List.not_of_lt_findIdx h
 simpa using this
theorem Im {xs:List XItem}{k:XKey}(h:vi xs k<xs.length):¬oL xs[vi xs k].key k<0:=by
 have:=List.findIdx_getElem (w:=h)
 unfold vi
 simpa using this
theorem OT {a b:List UInt8}(h:Lib.compareBytes a b=0):a=b:=by
 rw[gU]at h
 have ht:=p5 a b
 cases q:Op.bytesLess a b<;>cases q2:Op.bytesLess b a<;>simp[q,q2]at h ht⊢
 exact ht
theorem OU {a b:XKey}(ha:eW a=true)(hb:eW b=true)(hne:a≠b)(h:¬oL a b<0):oL b a<0:=by
 have h1:=Jx a b
 have hz:oL a b≠0:=fun e=>by
  obtain⟨ak,an,ax⟩:=a
  obtain⟨bk,bn,bx⟩:=b
  simp only[ne_eq,XKey.mk.injEq]at hne
  have hc:= @OT ax bx
  simp only[oL,ha,hb]at e
  grind [TZ,b9]
 omega
theorem Mg {k:XKey}{x:XItem}:nF k x=true↔x.key=k:=by
 obtain⟨⟨a,b,c⟩,r⟩:=x
 obtain⟨d,e,f⟩:=k
 simp[nF]
theorem NE {α:Type}{p:α→Bool}{xs:List α}(h:dv p xs= -1):∀x∈xs,p x=false:=fun x hx=>by
 unfold dv at h
 cases q:xs.findIdx? p with
 |none=>rw[List.findIdx?_eq_none_iff]at q;exact q x hx
 |some i=>rw[q]at h;simp only at h;omega
def vp (s:XStore)(k:XKey):Int:=if k.kind=1∧s.auto<k.n∧k.n≤1000000 then k.n else s.auto
def oP (s:XStore)(k:XKey)(r:XRecord):List XItem:=s.items.take (vi s.items k)++(⟨k,r⟩::s.items.drop (vi s.items k))
def kN (s:XStore)(k:XKey)(r:XRecord):XStore×Bool:=
 cond (eG s&&(eW k&&cP r.fs))
  (if 0≤dv (nF k) s.items then(⟨s.name,s.items.set (dv (nF k) s.items).toNat ⟨k,r⟩,s.auto⟩,true)
   else if 16≤s.items.length then(s,false)else(⟨s.name,oP s k r,vp s k⟩,true))
  (s,false)
theorem QF {xs:List XItem}{j:Nat}{x:XItem}(hj:j<xs.length)(hk:xs[j].key=x.key)(h:sD xs=true):sD (xs.set j x)=true:=by
 have hkey:∀i(hi:i<xs.length),((xs.set j x)[i]'(by simpa using hi)).key=xs[i].key:=fun i hi=>by
  rw[List.getElem_set]
  split
  ·rename_i e;subst e;exact hk.symm
  ·rfl
 rw[G7]at h⊢
 intro i hi
 have hi':i+1<xs.length:=by simpa using hi
 rw[hkey i (by omega),hkey (i+1) hi']
 exact h i hi'
theorem Kh {s:XStore}{k:XKey}{r:XRecord}{j:Nat}(hs:eG s=true)(hj:j<s.items.length)(hk:s.items[j].key=k):eG ⟨s.name,s.items.set j ⟨k,r⟩,s.auto⟩=cP r.fs:=by
 unfold eG at hs⊢
 simp only[Zg]at hs
 obtain⟨h1,h2,h3,h4⟩:=hs
 simp only[h2,h3,h4,List.length_set,Bool.and_self,Bool.and_true,Bool.true_and]
 change sP _=true at h1
 have e:(!mY s.items.length (He (s.items.set j ⟨k,r⟩)))=sP (s.items.set j ⟨k,r⟩):=by unfold sP;rw[List.length_set]
 rw[e]
 rw[D6]at h1⊢
 simp only[Zg]at h1
 rw[QF hj hk h1.2,Bool.and_true]
 cases hr:cP r.fs with
 |true=>
  rw[Zs]
  intro x hx
  rcases List.mem_or_eq_of_mem_set hx with hx|rfl
  ·exact Zs.1 h1.1 x hx
  ·have:=Zs.1 h1.1 _ (Zf hj)
   simp only[Tj,hk,Zg]at this
   simp[Tj,hr,this.1]
 |false=>
  rw[List.all_eq_false]
  refine⟨⟨k,r⟩,List.mem_iff_getElem.2 ⟨j,by simpa using hj,by simp⟩,by simp[Tj,hr]⟩
theorem Kg {s:XStore}{k:XKey}{r:XRecord}(hs:eG s=true)(hk:eW k=true)(hf:dv (nF k) s.items= -1):eG ⟨s.name,oP s k r,vp s k⟩=(cP r.fs&&decide (s.items.length+1≤16)):=by
 unfold eG at hs⊢
 simp only[Zg]at hs
 obtain⟨h1,h2,h3,h4⟩:=hs
 change sP _=true at h1
 change (sP _&&_)=_
 rw[D6]at h1⊢
 simp only[Zg,rg,b9,decide_eq_true_eq,Bool.not_eq_true',decide_eq_false_iff_not]at h1 h4
 have hp:=ya s.items k
 have hlen:(oP s k r).length=s.items.length+1:=by unfold oP;simp;omega
 have ha:rg (vp s k) 0 1000000=true:=by
  unfold vp rg b9
  split<;>simp<;>omega
 have hl:(!(b9 16 ((oP s k r).length:Nat)))=decide (s.items.length+1≤16):=by rw[hlen,Bool.eq_iff_iff];simp[b9];omega
 simp only[h2,ha,hl,Bool.and_true,Bool.true_and]
 congr 1
 have hadj:sD (oP s k r)=true:=by
  unfold oP
  rw[wW,OB]
  have hsp:=wW (s.items.take (vi s.items k)) (s.items.drop (vi s.items k))
  rw[List.take_append_drop,h1.2]at hsp
  simp only[Bool.true_eq,Zg]at hsp
  rw[hsp.1,hsp.2.1]
  simp only[Bool.true_and,List.head?_cons,Zg]
  constructor
  ·cases hq:(s.items.drop (vi s.items k)).head? with
   |none=>rfl
   |some y=>
    rw[List.head?_drop]at hq
    obtain⟨hlt,rfl⟩:=Zb.1 hq
    have hy:=Zs.1 h1.1 _ (Zf hlt)
    simp only[Tj,Zg]at hy
    have:=OU hy.1 hk (fun e=>by have:=NE hf _ (Zf hlt);rw[Mg.2 e]at this;cases this) (Im hlt)
    simp[D8,this]
  ·cases hq:(s.items.take (vi s.items k)).getLast? with
   |none=>rfl
   |some y=>
    rw[List.getLast?_eq_getElem?]at hq
    obtain⟨hlt,rfl⟩:=Zb.1 hq
    simp only[Zw]at hlt⊢
    rw[List.getElem_take]
    have:=Io (xs:=s.items) (k:=k) (j:=min (vi s.items k) s.items.length-1) (by omega) (by omega)
    simp[D8,this]
 rw[hadj,Bool.and_true]
 cases hr:cP r.fs with
 |true=>
  rw[Zs]
  intro x hx
  unfold oP at hx
  rw[List.mem_append,Z6]at hx
  rcases hx with hx|rfl|hx
  ·exact Zs.1 h1.1 x (Zy hx)
  ·simp[Tj,hr,hk]
  ·exact Zs.1 h1.1 x (List.mem_of_mem_drop hx)
 |false=>
  rw[List.all_eq_false]
  exact⟨⟨k,r⟩,by unfold oP;simp,by simp[Tj,hr]⟩
theorem nu {j:Nat}:b9 (j:Int) 0=false:=fG (by omega)
theorem Jn (s:XStore)(k:XKey):vp s k=cond (k.kind==1&&(b9 s.auto k.n&& !(b9 1000000 k.n))) k.n s.auto:=by
 have e3:decide (1000000<k.n)= !(decide (k.n≤1000000)):=by rw[Bool.eq_iff_iff];simp
 have e4:(k.kind==1)=decide (k.kind=1):=by rw[Bool.eq_iff_iff];simp
 unfold vp b9
 rw[e3,e4]
 by_cases h1:k.kind=1<;>by_cases h2:s.auto<k.n<;>by_cases h3:k.n≤1000000<;>simp[h1,h2,h3]
abbrev lL (x:XStore×Bool):V:= .tup [(true,[.pv (.str x.1.name),oR 4 (x.1.items.map XItem.e), .pv (.int .i64 x.1.auto)]),(false,[.pv (.bool x.2)])]
theorem Ke (s:XStore)(k:XKey)(r:XRecord):(oP s k r).map XItem.e=(s.items.map XItem.e).take (vi s.items k)++([.int .i64 k.kind, .int .i64 k.n, .str k.text, .lst (r.fs.map XField.e)]::(s.items.map XItem.e).drop (vi s.items k)):=by simp[oP,XItem.e]
theorem H5 {B:Nat}{s:XStore}(h:s.Ok B){k:XKey}(hk:k.Ok B){r:XRecord}(hr:r.Ok B):(oP s k r).length≤B+1∧∀x∈oP s k r,x.Ok (B+1):=by
 obtain⟨_,⟨h1,h2⟩,_⟩:=h
 have:=ya s.items k
 refine⟨by simp[oP];omega,fun x hx=>XItem.Ok.mono (A:=B) (by omega) ?_⟩
 unfold oP at hx
 rw[List.mem_append,Z6]at hx
 rcases hx with hx|rfl|hx
 ·exact h2 x (Zy hx)
 ·exact⟨hk,hr⟩
 ·exact h2 x (List.mem_of_mem_drop hx)
theorem Iu {B:Nat}{s:XStore}(h:s.Ok B){k:XKey}(hk:k.Ok B){r:XRecord}(hr:r.Ok B)(j:Nat):(s.items.set j ⟨k,r⟩).length≤B∧∀x∈s.items.set j ⟨k,r⟩,x.Ok B:=by
 obtain⟨_,⟨h1,h2⟩,_⟩:=h
 refine⟨by simpa using h1,fun x hx=> ?_⟩
 rcases List.mem_or_eq_of_mem_set hx with hx|rfl
 ·exact h2 x hx
 ·exact⟨hk,hr⟩
theorem Jo {s:XStore}{k:XKey}(h1:ii s.auto)(h2:ii k.n):ii (vp s k):=by unfold vp;split<;>assumption
theorem kX {B:Nat}(hB:B≤1048576){s:XStore}(h:s.Ok B){k:XKey}(hk:k.Ok B){r:XRecord}(hr:r.Ok B):ah Ph aH 342 [s.v,k.v,r.v]=some (lL (kN s k r)):=by
 have hM:B+1≤maxLen:=by unfold maxLen;omega
 have hl:s.items.length≤1048576:=Zc h.2.1.1 hB
 have e1:=eF hB h
 have e2:=jh (XStore.Ok.mono (by omega) h)
 have e3:=gi (XKey.Ok.mono (by omega) hk)
 have e4:=kd (s:=s) (by unfold maxLen;omega) k
 have e5:=lI hB hr
 have O:=uS 4 (s.items.map XItem.e)
 unfold kN
 refine aa (fn:=gC) rfl ?_
 cases c1:eG s<;>rw[c1]at e2
 ·rcases O with⟨_,q1,q2⟩|⟨_,q1,q2⟩<;>rw[q1]at e1<;>simp(maxSteps:=9999999) [gC,e1,e2,q2]
 cases c2:eW k<;>rw[c2]at e3
 ·rcases O with⟨_,q1,q2⟩|⟨_,q1,q2⟩<;>rw[q1]at e1<;>simp(maxSteps:=9999999) [gC,e1,e2,e3,q2]
 rcases xD (nF k) s.items with hf|⟨j,hj,hf,hq⟩<;>rw[hf]at e4⊢
 ·have e6:∀a,a=vp s k→ah Ph aH 354 [XStore.v ⟨s.name,oP s k r,a⟩]=some (aF (cP r.fs&&decide (s.items.length+1≤16))):=fun a ha=>by
   subst ha
   rw[←Kg (r:=r) c1 c2 hf]
   exact jh (s:=⟨s.name,oP s k r,vp s k⟩) ⟨Zc h.1 (by omega),⟨Zc (H5 h hk hr).1 (by omega),fun x hx=>XItem.Ok.mono (by omega) ((H5 h hk hr).2 x hx)⟩,Jo h.2.2 hk.2.1⟩
  have hA:=Jn s k
  obtain⟨g1,h1⟩:∃g,(k.kind==1)=g:=⟨_,rfl⟩
  rw[h1]at hA
  have hL:(16≤s.items.length)=(decide (s.items.length+1≤16)=false):=by simp;omega
  have hins:=Ke s k r
  have hp:=ya s.items k
  have b1:= @Io s.items k
  have b2:= @Im s.items k
  have m1:=gx (m:=s.items.length+1) (z:=56) (by omega) (by omega)
  have O2:=uS 4 ((oP s k r).map XItem.e)
  rcases O2 with⟨q,_⟩|⟨_,_,q3⟩
  ·rw[hins]at q;simp at q
  simp only[hL]
  generalize oP s k r=F at e6 hins q3⊢
  generalize vi s.items k=p at hins hp b1 b2
  generalize decide (s.items.length+1≤16)=d at e6 hL⊢
  have l0:b9 (-1) 0=true:=rfl
  have l00:b9 0 0=false:=rfl
  rcases O with⟨q0,q1,q2⟩|⟨q0,q1,q2⟩<;>rw[q1]at e1
  ·have hnil:s.items=[]:=by simpa using q0
   rw[hnil]at hins hp
   have hp0:p=0:=by simpa using hp
   subst hp0
   simp only[Z4,List.take_nil,List.drop_nil,Zt]at hins
   simp(maxSteps:=9999999) [gC,e1,e2,e3,e4,l0]
   rw[jj]
   have e1':=e1
   rw[hnil,Z4]at e1'
   have q2':oR 4 []= .nil:=rfl
   have hF:F.length=1:=by have:=congrArg List.length hins;simpa using this
   cases c4:cP r.fs<;>rw[c4]at e6<;>cases d<;>simp +contextual (maxSteps:=9999999) [gl,e1,e1',q2',e2,e3,e4,e5,hnil,l00,q2,hF,←hins,e6,hA,h1,q3]
  ·simp(maxSteps:=9999999) [gC,e1,e2,e3,e4,l0]
   refine bm bX Cl.fin [.f,.f,.f,.t,.t,.t,.t,.f,.t,.f,.t,.f,.f,.f,.f,.f,.f,.f,.f,.f,.f,.f,.f,.f,.f,.f,.f,.f,.f,.f,.f,.f,.f,.f,.f,.f,.f,.f,.f,.f,.f,.f,.f,.f,.f,.f,.f,.f,.f,.f,.f,.f,.f,.f,.f,.f,.f,.f,.f,.f,.f,.f,.f,.f,.f,.f,.f,.f,.f,.f,.f,.f,.f,.f,.f,.f,.f,.f,.f,.f,.f,.f,.f,.f,.f,.f,.f] (fun k=>[(10,ae .i64 k)]) p (fun _=>false) rfl (by simp) (fun j hj _=> ?_) (fun _ _=> ?_)
   ·have hj2:j<s.items.length:=by omega
    have l1:=d6 (b1 hj hj2)
    have e7:=eQ (XKey.Ok.mono (by omega) (h.2.1.2 _ (Zf hj2)).1) (XKey.Ok.mono (by omega) hk)
    simp +contextual (maxSteps:=9999999) [gl,hj2,l1,e7,bw (n:=s.items.length) (by unfold maxLen;omega) hj2,bU hj2,XItem.e.eq_1 s.items[j]]
   ·by_cases hlt:p<s.items.length
    ·have l1:=fG (Int.not_lt.1 (b2 hlt))
     have hx:=XItem.e.eq_1 s.items[p]
     have e7:=eQ (XKey.Ok.mono (by omega) (h.2.1.2 _ (Zf hlt)).1) (XKey.Ok.mono (by omega) hk)
     cases c4:cP r.fs<;>rw[c4]at e6<;>cases d<;>simp +contextual (maxSteps:=9999999) [gl,hlt,hx,l1,e7,hp,m1,bU hlt,e1,e2,e3,e4,e5,q2,←hins,e6,hA,h1,q3]
    ·obtain rfl:p=s.items.length:=by omega
     have hm2:(s.items.map XItem.e).take s.items.length++[[.int .i64 k.kind, .int .i64 k.n, .str k.text, .lst (r.fs.map XField.e)]]=F.map XItem.e:=by rw[hins];simp
     have hd:(s.items.map XItem.e).drop s.items.length=[]:=List.drop_eq_nil_of_le (by simp)
     cases c4:cP r.fs<;>rw[c4]at e6<;>cases d<;>simp +contextual (maxSteps:=9999999) [gl,m1,e1,e2,e3,e4,e5,q2,hd, ↓hm2,e6,hA,h1,q3]
 ·have hkj:=Mg.1 hq
  have hx:=XItem.e.eq_1 s.items[j]
  have hm:(s.items.map XItem.e).set j [.int .i64 s.items[j].key.kind, .int .i64 s.items[j].key.n, .str s.items[j].key.text, .lst (r.fs.map XField.e)]=(s.items.set j ⟨k,r⟩).map XItem.e:=by rw[List.map_set,hkj];rfl
  have e6:=jh (s:=⟨s.name,s.items.set j ⟨k,r⟩,s.auto⟩) ⟨Zc h.1 (by omega),⟨Zc (Iu h hk hr j).1 (by omega),fun x hx=>XItem.Ok.mono (by omega) ((Iu h hk hr j).2 x hx)⟩,h.2.2⟩
  rw[Kh c1 hj hkj]at e6
  have hne:s.items.map XItem.e≠[]:=by intro e;have:=congrArg List.length e;simp only[Zv,List.length_nil]at this;omega
  have O2:=uS 4 ((s.items.set j ⟨k,r⟩).map XItem.e)
  rw[←hm]at O2
  rcases O with⟨q,_⟩|⟨_,q1,q2⟩
  ·exact absurd q hne
  rcases O2 with⟨q,_⟩|⟨_,_,q3⟩
  ·exact absurd (by simpa using q) hne
  rw[hm]at q3
  rw[q1]at e1
  simp only[Int.toNat_natCast]
  generalize s.items.set j ⟨k,r⟩=F at hm e6 q3⊢
  cases c3:cP r.fs<;>rw[c3]at e6<;>simp(maxSteps:=9999999) [gC,e1,e2,e3,e4,e5,e6,q2,q3,hm,hx,hj,nu]
end Gi
