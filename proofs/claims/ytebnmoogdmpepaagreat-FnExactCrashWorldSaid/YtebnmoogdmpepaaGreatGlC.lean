/- Of this proof. -/
import Derived.Test.YtebnmoogdmpepaaGreatGnA
set_option linter.unusedSimpArgs false
set_option linter.unusedVariables false
namespace Gi
open Go Go.RowKit
set_option maxHeartbeats 4000000
set_option maxRecDepth 4000
attribute [local simp] start rB bj cf dG fp dF fo fx fw tJ tT tK tU tL tV tM tW tN tX tO tY tP tZ tQ t6 tR t7 V.cells plain bo gn isInt isStr isBool bin cC iT cD iU fq un asList L.view am V.view viewL aY ar cH bP bM comp aJ bH df bY bz bw bx bG bc ca aN bB aT aO bE cd bD bA bF V.flat L.flat dO di bv putAt thaw thawL thawT V.ow fv dK dL cE fu cF dJ freezeVs freezeLs freezeL V.mut L.mut aG ez ie aW bm aF dz bL bf bS L.ren aV dA ce dM bO bh wp_seq wp_block bt dP cI bR cJ wp_skip wp_exit wp_ret cA cy cP cB cW cX cV bX aM L.notArr aS aQ aR dN bp storeD aX fD br ct bd m9 L.mov L.closed V.closed PV.bare PV.flat
def rg (n a b:Int):Bool:= !(cQ n a)&& !(cQ b n)
theorem be (n a b:Int):ah Ph au 61 [aa .i64 n,aa .i64 a,aa .i64 b]=some (av (rg n a b)):=by
 refine ae (fn:=pE) rfl ?_
 simp +contextual (maxSteps:=9999999) [pE,rg]
theorem bK (n a b:Int):ah Ph au 58 [aa .i64 n,aa .i64 a,aa .i64 b]=some (av (rg n a b)):=by
 refine ae (fn:=uw) rfl ?_
 simp +contextual (maxSteps:=9999999) [uw,rg]
def Us (a b:Int):Int:=if cQ a b then-1 else if cQ b a then 1 else 0
theorem vL (a b:Int):ah Ph au 362 [aa .i64 a,aa .i64 b]=some (aa .i64 (Us a b)):=by
 refine ae (fn:=lE) rfl ?_
 simp +contextual (maxSteps:=9999999) [lE,Us]
theorem FN (a b:Bool):ah Ph au 359 [av a,av b]=some (aa .i64 (if a=true then-1 else if b=true then 1 else 0)):=by
 refine ae (fn:=qZ) rfl ?_
 simp +contextual (maxSteps:=9999999) [qZ]
def Mo (sl:Bool)(s:List UInt8)(k:Nat):Bool:=match s[k]? with
 |some b=>(cQ b.toNat 97||cQ 122 b.toNat)&& !(sl&&(b.toNat:Int)==47)
 |none=>false
def rp (s:List UInt8)(m:Int)(sl:Bool):Bool:= !(gx s.length (Mo sl s))&&rg s.length 1 m
abbrev dd (s:List UInt8):Bool:=rp s 8 false
theorem uG {s:List UInt8}(h:s.length≤maxLen)(m:Int)(sl:Bool):ah Ph au 213 [f9 s,aa .i64 m,av sl]=some (av (rp s m sl)):=by
 refine ae (fn:=qV) rfl ?_
 simp +contextual (maxSteps:=9999999) [qV]
 refine aC aU Cl.fin [.t,.t,.t,.f,.f,.f,.f,.t,.f,.f,.f,.f,.f,.f,.f,.f,.f,.f,.f,.f,.f,.f,.f,.f,.f,.f,.f,.f,.f,.f,.f,.f,.f,.f,.f,.f,.f,.f] (fun k=>[(7,aa .i64 k)]) s.length (Mo sl s) rfl (by simp) (fun k hk _=> ?_) (fun _ hp=> ?_)
 ·simp +contextual (maxSteps:=9999999) [kY,Mo,rp,hk,aE h hk,aZ hk]
 ·simp +contextual (maxSteps:=9999999) [kY,rp,hp,be]
theorem bC {s:List UInt8}(h:s.length≤maxLen):ah Ph au 178 [f9 s]=some (av (dd s)):=by
 refine ae (fn:=qS) rfl ?_
 simp[qS,uG h]
theorem cN {s:List UInt8}(h:s.length≤maxLen):ah Ph au 177 [f9 s]=some (av (dd s)):=by
 refine ae (fn:=qW) rfl ?_
 simp +contextual (maxSteps:=9999999) [qW]
 refine aC aU Cl.fin [.t,.f,.f,.t,.f,.f,.f,.f,.f,.f,.f,.f,.f,.f,.f,.f,.f,.f,.f,.f,.f,.f,.f] (fun k=>[(3,aa .i64 k)]) s.length (Mo false s) rfl (by simp) (fun k hk _=> ?_) (fun _ hp=> ?_)
 ·simp +contextual (maxSteps:=9999999) [kZ,Mo,dd,rp,hk,aE h hk,aZ hk]
 ·simp +contextual (maxSteps:=9999999) [kZ,dd,rp,hp,bK]
def QZ (s:List UInt8)(k:Nat):Bool:=match s[k]? with
 |some b=>(cQ b.toNat 97||cQ 122 b.toNat)&&(cQ b.toNat 48||cQ 57 b.toNat)
 |none=>false
def uH (s:List UInt8):Bool:= !(gx s.length (QZ s))&& !(cQ 12 s.length)
theorem yV {s:List UInt8}(h:s.length≤maxLen):ah Ph au 90 [f9 s]=some (av (uH s)):=by
 refine ae (fn:=nD) rfl ?_
 simp +contextual (maxSteps:=9999999) [nD]
 refine aC aU Cl.fin [.t,.f,.f,.t,.f,.f,.f,.f,.f,.f,.f,.f,.f,.f,.f,.f,.f,.f,.f,.f,.f,.f,.f,.f,.f,.f,.f,.f,.f,.f,.f,.f,.f,.f,.f,.f] (fun k=>[(3,aa .i64 k)]) s.length (QZ s) rfl (by simp) (fun k hk _=> ?_) (fun _ hp=> ?_)
 ·simp +contextual (maxSteps:=9999999) [ja,QZ,uH,hk,aE h hk,aZ hk]
 ·simp +contextual (maxSteps:=9999999) [ja,uH,hp]
theorem FO {s:List UInt8}(h:s.length≤maxLen):ah Ph au 88 [f9 s]=some (av (uH s)):=by
 refine ae (fn:=rc) rfl ?_
 simp +contextual (maxSteps:=9999999) [rc]
 refine aC aU Cl.fin [.t,.f,.f,.t,.f,.f,.f,.f,.f,.f,.f,.f,.f,.f,.f,.f,.f,.f,.f,.f,.f,.f,.f,.f,.f,.f,.f,.f,.f,.f,.f,.f,.f,.f,.f] (fun k=>[(3,aa .i64 k)]) s.length (QZ s) rfl (by simp) (fun k hk _=> ?_) (fun _ hp=> ?_)
 ·simp +contextual (maxSteps:=9999999) [k8,QZ,uH,hk,aE h hk,aZ hk]
 ·simp +contextual (maxSteps:=9999999) [k8,uH,hp]
def r9 (a:XKey):Bool:=rg a.kind 1 3&&rg a.n (-1000000000000) 1000000000000&&(!(a.kind==2)||a.n==0)&&uH a.text&&(!(a.kind==1)||a.text==[])
theorem nU {a:XKey}(h:a.Ok maxLen):ah Ph au 67 [a.v]=some (av (r9 a)):=by
 refine ae (fn:=sN) rfl ?_
 simp +contextual (maxSteps:=9999999) [sN,be,yV h.2.2,r9]<;>grind
theorem nV {a:XKey}(h:a.Ok maxLen):ah Ph au 65 [a.v]=some (av (r9 a)):=by
 refine ae (fn:=sP) rfl ?_
 simp +contextual (maxSteps:=9999999) [sP,bK,FO h.2.2,r9]<;>grind
theorem Hg (a b:List UInt8):ah Ph au 363 [f9 a,f9 b]=some (aa .i64 (Lib.compareBytes a b)):=O9 rfl rfl
theorem qD :∀(a b:List UInt8),Lib.compareBytes a b=if Op.bytesLess a b=true then-1 else if Op.bytesLess b a=true then 1 else 0
 |[],[]=>rfl
 |[],_::_=>rfl
 |_::_,[]=>rfl
 |a::xz,b::bs=>by
  have ih:=qD xz bs
  simp only[Lib.compareBytes,Op.bytesLess,ih]
  by_cases h1:a<b
  ·simp[h1]
  ·by_cases h2:b<a
   ·have h3:¬a=b:=fun h=>by subst h;exact absurd h2 (UInt8.lt_irrefl _)
    simp[h1,h2,h3]
   ·obtain rfl:a=b:=UInt8.le_antisymm (UInt8.not_lt.1 h2) (UInt8.not_lt.1 h1)
    simp[UInt8.lt_irrefl]
def Pf (a b:XKey):Int:=if r9 a=false∨r9 b=false then 0 else if a.kind≠b.kind then Us a.kind b.kind else if a.n≠b.n then Us a.n b.n else Lib.compareBytes a.text b.text
theorem o4 {a b:XKey}(ha:a.Ok maxLen)(hb:b.Ok maxLen):ah Ph au 355 [a.v,b.v]=some (aa .i64 (Pf a b)):=by
 refine ae (fn:=lw) rfl ?_
 simp +contextual (maxSteps:=9999999) [lw,nU,vL,Hg,ha,hb,Pf]
 grind [Us,cQ]
theorem o6 {a b:XKey}(ha:a.Ok maxLen)(hb:b.Ok maxLen):ah Ph au 351 [a.v,b.v]=some (aa .i64 (Pf a b)):=by
 refine ae (fn:=lO) rfl ?_
 simp +contextual (maxSteps:=9999999) [lO,nV,FN,ha,hb,Pf,qD]
 grind [Us,cQ]
def O0 (fs:List XField)(k:Nat):Bool:=match fs[k]?,fs[k-1]? with
 |some x,some y=> !(dd x.name)||(!(rg x.n 0 1000000000)||(cQ 0 k&& !(Op.bytesLess y.name x.name)))
 |_,_=>false
def o5 (fs:List XField):Bool:= !(gx fs.length (O0 fs))&& !(cQ 6 fs.length)
theorem rZ {r:XRecord}(h:r.Ok maxLen):ah Ph au 246 [r.v]=some (av (o5 r.fs)):=by
 refine ae (fn:=oE) rfl ?_
 simp +contextual (maxSteps:=9999999) [oE]
 refine aC aU Cl.fin [.f,.t,.f,.f,.f,.f,.t,.t,.t,.f,.f,.f,.f,.f,.f,.f,.f,.f,.f,.f,.f,.f,.f,.f,.f,.f,.f,.f,.f,.f,.f,.f,.f,.f,.f,.f,.f,.f,.f,.f,.f,.f,.f,.f] (fun k=>[(8,aa .i64 k)]) r.fs.length (O0 r.fs) rfl (by simp) (fun k hk _=> ?_) (fun _ hp=> ?_)
 ·obtain⟨q1,q2⟩:=vQ h.1 hk
  simp +contextual (maxSteps:=9999999) [jE,O0,o5,hk,q1,q2,aE h.1 hk,aZ hk,XField.e.eq_1 r.fs[k],XField.e.eq_1 r.fs[k-1],bC (h.2 _ (Zg hk)).1,be]
 ·simp +contextual (maxSteps:=9999999) [jE,o5,hp]
theorem so {r:XRecord}(h:r.Ok maxLen):ah Ph au 243 [r.v]=some (av (o5 r.fs)):=by
 refine ae (fn:=oQ) rfl ?_
 simp +contextual (maxSteps:=9999999) [oQ]
 refine aC aU Cl.fin [.f,.t,.f,.t,.f,.f,.f,.f,.f,.f,.f,.f,.f,.f,.f,.f,.f,.f,.f,.f,.f,.f,.f,.f,.f,.f,.f,.f,.f,.f,.f,.f,.f,.f,.f,.f,.f,.f,.f,.f,.f,.f,.f,.f,.f,.f,.f,.f,.f,.f,.f,.f,.f] (fun k=>[(3,aa .i64 k)]) r.fs.length (O0 r.fs) rfl (by simp) (fun k hk _=> ?_) (fun _ hp=> ?_)
 ·obtain⟨q1,q2⟩:=vQ h.1 hk
  simp +contextual (maxSteps:=9999999) [jI,O0,o5,hk,q1,q2,aE h.1 hk,aZ hk,XField.e.eq_1 r.fs[k],XField.e.eq_1 r.fs[k-1],cN (h.2 _ (Zg hk)).1,bK]
 ·simp +contextual (maxSteps:=9999999) [jI,o5,hp]
def gu {α:Type}(p:α→Bool)(xs:List α):Int:=match xs.findIdx? p with
 |some i=>(i:Int)
 |none=> -1
def iZ {α:Type}(p:α→Bool)(xs:List α)(k:Nat):Bool:=match xs[k]? with
 |some x=>p x
 |none=>false
theorem xb {α:Type}{p:α→Bool}{xs:List α}{k:Nat}(hk:k<xs.length)(hj:∀j,j<k→iZ p xs j=false)(h:p xs[k]=true):gu p xs=(k:Int):=by
 have:xs.findIdx? p=some k:=by
  rw[Yg]
  refine⟨hk,h,fun j hjk=> ?_⟩
  have h1:j<xs.length:=by omega
  have:=hj j hjk
  simpa[iZ,h1]using this
 simp[gu,this]
theorem AZ {α:Type}{p:α→Bool}{xs:List α}(hj:∀j,j<xs.length→iZ p xs j=false):gu p xs= -1:=by
 have:xs.findIdx? p=none:=by
  rw[Y9]
  intro x hx
  obtain⟨j,h1,rfl⟩:=Xd.1 hx
  simpa[iZ,h1]using hj j h1
 simp[gu,this]
theorem SK {α:Type}(p:α→Bool)(xs:List α):gu p xs= -1∨∃j,∃hj:j<xs.length,gu p xs=(j:Int)∧p xs[j]=true:=by
 unfold gu
 cases h:xs.findIdx? p with
 |none=>exact .inl rfl
 |some i=>
  rw[Yg]at h
  obtain⟨h1,h2,_⟩:=h
  exact .inr ⟨i,h1,rfl,h2⟩
def Vn (z:Nat):ACode:=(.seq (.region [⟨(some 9),(.bin .lss (.tmp 8) (.tmp 7)),none⟩]) (.seq (.cond (.tmp 9) .skip (.exit 0)) (.seq (.block 1 (.seq (.region [⟨(some 10),(.mv (.tmp 8)),none⟩,⟨(some 5),(.mv (.tmp 10)),none⟩]) (.seq (.region [⟨(some 11),(.mv (.tmp 1)),none⟩,⟨(some 12),(.mv (.tmp 0)),none⟩,⟨(some 13),(.mv (.tmp 5)),none⟩,⟨(some 14),(.indexA z (.tmp 12) (.tmp 13)),none⟩,⟨(some 15),(.load true z (.tmp 14)),none⟩,⟨(some 16),(.callV (.tmp 11) [(.tmp 15)]),none⟩]) (.cond (.tmp 16) (.seq (.region [⟨(some 17),(.mv (.tmp 5)),none⟩,⟨(some 4),(.mv (.tmp 17)),none⟩]) .ret) .skip)))) (.region [⟨(some 18),(.bin .add (.tmp 8) (.pv (.int .i64 1))),none⟩,⟨(some 8),(.mv (.tmp 18)),none⟩]))))
def VB (z:Nat):AFn:=⟨19,[(.tmp 4)],(.seq (.region [⟨(some 4),(.mv (.pv (.int .i64 0))),none⟩]) (.seq (.seq (.region [⟨(some 6),(.mv (.tmp 0)),none⟩,⟨(some 7),(.len (.tmp 6)),none⟩,⟨(some 8),(.mv (.pv (.int .i64 0))),none⟩]) (.block 0 (.loop (Vn z)))) (.seq (.region [⟨(some 4),(.mv (.pv (.int .i64 (-1)))),none⟩]) .ret)))⟩
theorem Fj {α:Type}{e:α→List PV}{p:α→Bool}{xs:List α}{k z kc:Nat}{caps:List (List PV)}(hk:Ph k=some (VB z))(hl:xs.length≤maxLen)(hz:∀x,(e x).length=z)(hp:∀x∈xs,ah Ph au kc (.agg ((e x).map .pv)::caps.map ww)=some (av (p x))):ah Ph au k [ba (xs.map e), .one (.fn kc caps)]=some (aa .i64 (gu p xs)):=by
 refine ae hk ?_
 simp +contextual (maxSteps:=9999999) [VB]
 refine aC aU Cl.fin [.t,.t,.f,.f,.f,.f,.f,.t,.t,.f,.f,.f,.f,.f,.f,.f,.f,.f,.f] (fun k=>[(8,aa .i64 k)]) xs.length (iZ p xs) rfl (by simp) (fun k hk hj=> ?_) (fun hj _=> ?_)
 ·have hc:=hp _ (Zg hk)
  have ht:List.take z ((e xs[k]).map L.pv)=(e xs[k]).map L.pv:=Zt (by simp[hz])
  have hf:=xb hk hj
  simp +contextual (maxSteps:=9999999) [Vn,iZ,hk,hz,ht,hc,hf,aE hl hk,aZ hk,qt]
 ·simp +contextual (maxSteps:=9999999) [Vn,AZ hj]
def Rx (s t:List UInt8)(x:XBucket):Bool:=x.site==s&&x.top==t
theorem xe {bs:List XBucket}(h:bs.length≤maxLen)(s t:List UInt8):ah Ph au 175 [.agg [.pv (.lst (bs.map XBucket.e))],f9 s,f9 t]=some (aa .i64 (gu (Rx s t) bs)):=by
 have e1:=Fj (e:=XBucket.e) (p:=Rx s t) (xs:=bs) (k:=209) (z:=24) (kc:=210) (caps:=[[.str s],[.str t]]) rfl h (fun _=>rfl) (fun x _=>by
  refine ae (fn:=ky) rfl ?_
  simp +contextual (maxSteps:=9999999) [ky,XBucket.e.eq_1,ww,Rx])
 refine ae (fn:=mi) rfl ?_
 simp +contextual (maxSteps:=9999999) [mi,mc,rH,e1]
theorem xD {bs:List XBucket}(h:bs.length≤maxLen)(s t:List UInt8):ah Ph au 145 [.agg [.pv (.lst (bs.map XBucket.e))],f9 s,f9 t]=some (aa .i64 (gu (Rx s t) bs)):=by
 refine ae (fn:=mC) rfl ?_
 simp +contextual (maxSteps:=9999999) [mC]
 refine aC aU Cl.fin [.f,.t,.t,.t,.f,.f,.f,.t,.f,.f,.f,.f,.f,.f,.f,.f,.f,.f,.f,.f,.f,.f,.f,.f,.f,.f,.f,.f,.f,.f,.f,.f,.f,.f] (fun k=>[(7,aa .i64 k)]) bs.length (iZ (Rx s t) bs) rfl (by simp) (fun k hk hj=> ?_) (fun hj _=> ?_)
 ·have hf:=xb hk hj
  simp +contextual (maxSteps:=9999999) [io,iZ,Rx,hk,hf,aE h hk,aZ hk,XBucket.e.eq_1 bs[k]]
 ·simp +contextual (maxSteps:=9999999) [io,AZ hj]
set_option maxHeartbeats 8000000
def QV (xs:List XItem)(k:Nat):Bool:=match xs[k]?,xs[k-1]? with
 |some x,some y=> !(r9 x.key)||(!(o5 x.rcd.fs)||(cQ 0 k&& !(cQ (Pf y.key x.key) 0)))
 |_,_=>false
def mO (s:XStore):Bool:= !(gx s.items.length (QV s.items))&&(dd s.name&&(!(cQ 16 s.items.length)&&rg s.auto 0 1000000))
theorem oW {s:XStore}(h:s.Ok maxLen):ah Ph au 354 [s.v]=some (av (mO s)):=by
 refine ae (fn:=pG) rfl ?_
 simp +contextual (maxSteps:=9999999) [pG]
 refine aC aU Cl.fin [.f,.t,.f,.f,.f,.f,.t,.t,.t,.f,.f,.f,.f,.f,.f,.f,.f,.f,.f,.f,.f,.f,.f,.f,.f,.f,.f,.f,.f,.f,.f,.f,.f,.f,.f,.f,.f,.f,.f,.f,.f,.f,.f,.f,.f,.f,.f,.f,.f,.f,.f,.f,.f,.f,.f] (fun k=>[(8,aa .i64 k)]) s.items.length (QV s.items) rfl (by simp) (fun k hk _=> ?_) (fun _ hp=> ?_)
 ·obtain⟨q1,q2⟩:=vQ h.2.1.1 hk
  obtain⟨h1,h2⟩:=h.2.1.2 _ (Zg hk)
  have h3:=(h.2.1.2 _ (Zg q2)).1
  have e1:=rZ h2
  have e2:=o4 h3 h1
  simp +contextual (maxSteps:=9999999) [j8,QV,mO,hk,q1,q2,aE h.2.1.1 hk,aZ hk,XItem.e.eq_1 s.items[k],XItem.e.eq_1 s.items[k-1],nU h1,e1,e2]
 ·simp +contextual (maxSteps:=9999999) [j8,mO,hp,bC h.1,be]
theorem oY {s:XStore}(h:s.Ok maxLen):ah Ph au 350 [s.v]=some (av (mO s)):=by
 refine ae (fn:=pM) rfl ?_
 simp +contextual (maxSteps:=9999999) [pM]
 refine aC aU Cl.fin [.f,.t,.f,.t,.f,.f,.f,.f,.f,.f,.f,.f,.f,.f,.f,.f,.f,.f,.f,.f,.f,.f,.f,.f,.f,.f,.f,.f,.f,.f,.f,.f,.f,.f,.f,.f,.f,.f,.f,.f,.f,.f,.f,.f,.f,.f,.f,.f,.f,.f,.f,.f,.f,.f,.f,.f,.f,.f,.f,.f,.f,.f,.f,.f] (fun k=>[(3,aa .i64 k)]) s.items.length (QV s.items) rfl (by simp) (fun k hk _=> ?_) (fun _ hp=> ?_)
 ·obtain⟨q1,q2⟩:=vQ h.2.1.1 hk
  obtain⟨h1,h2⟩:=h.2.1.2 _ (Zg hk)
  have h3:=(h.2.1.2 _ (Zg q2)).1
  have e1:=so h2
  have e2:=o6 h3 h1
  simp +contextual (maxSteps:=9999999) [j9,QV,mO,hk,q1,q2,aE h.2.1.1 hk,aZ hk,XItem.e.eq_1 s.items[k],XItem.e.eq_1 s.items[k-1],nV h1,e1,e2]
 ·simp +contextual (maxSteps:=9999999) [j9,mO,hp,cN h.1,bK]
structure XRange where
 hasLow:Bool
 hasHigh:Bool
 low:XKey
 high:XKey
abbrev XRange.v (r:XRange):V:= .agg [.pv (.bool r.hasLow), .pv (.bool r.hasHigh), .pv (.int .i64 r.low.kind), .pv (.int .i64 r.low.n), .pv (.str r.low.text), .pv (.int .i64 r.high.kind), .pv (.int .i64 r.high.n), .pv (.str r.high.text)]
def XRange.Ok (r:XRange):Prop:=r.low.Ok maxLen∧r.high.Ok maxLen
def SZ (n:List UInt8)(x:XStore):Bool:=x.name==n
theorem yP {d:XDatabase}(h:d.stores.length≤maxLen)(n:List UInt8):ah Ph au 404 [d.v,f9 n]=some (aa .i64 (gu (SZ n) d.stores)):=by
 have e1:=Fj (e:=XStore.e) (p:=SZ n) (xs:=d.stores) (k:=410) (z:=3) (kc:=411) (caps:=[[.str n]]) rfl h (fun _=>rfl) (fun x _=>by
  refine ae (fn:=lA) rfl ?_
  simp +contextual (maxSteps:=9999999) [lA,XStore.e.eq_1,ww,SZ])
 refine ae (fn:=nl) rfl ?_
 simp +contextual (maxSteps:=9999999) [nl,mc,rH,e1]
theorem zA {d:XDatabase}(h:d.stores.length≤maxLen)(n:List UInt8):ah Ph au 400 [d.v,f9 n]=some (aa .i64 (gu (SZ n) d.stores)):=by
 refine ae (fn:=nG) rfl ?_
 simp +contextual (maxSteps:=9999999) [nG]
 refine aC aU Cl.fin [.f,.t,.t,.f,.f,.t,.f,.f,.f,.f,.f,.f,.f,.f,.f,.f,.f,.f,.f,.f,.f,.f] (fun k=>[(5,aa .i64 k)]) d.stores.length (iZ (SZ n) d.stores) rfl (by simp) (fun k hk hj=> ?_) (fun hj _=> ?_)
 ·have hf:=xb hk hj
  simp +contextual (maxSteps:=9999999) [jc,iZ,SZ,hk,hf,aE h hk,aZ hk,XStore.e.eq_1 d.stores[k]]
 ·simp +contextual (maxSteps:=9999999) [jc,AZ hj]
def isF (n:List UInt8)(x:XField):Bool:=x.name==n
def qx (fs:List XField)(n:List UInt8):Int×Bool:=match fs.find? (isF n)with
 |some x=>(x.n,true)
 |none=>(0,false)
theorem T6 {fs:List XField}{n:List UInt8}{k:Nat}(hk:k<fs.length)(hj:∀j,j<k→iZ (isF n) fs j=false)(h:isF n fs[k]=true):qx fs n=(fs[k].n,true):=by
 have:fs.find? (isF n)=some fs[k]:=by
  rw[Xr]
  refine⟨h,k,hk,rfl,fun j hjk=> ?_⟩
  have h1:j<fs.length:=by omega
  have:=hj j hjk
  simpa[iZ,h1]using this
 simp[qx,this]
theorem T5 {fs:List XField}{n:List UInt8}(hj:∀j,j<fs.length→iZ (isF n) fs j=false):qx fs n=(0,false):=by
 have:fs.find? (isF n)=none:=by
  rw[List.find?_eq_none]
  intro x hx
  obtain⟨j,h1,rfl⟩:=Xd.1 hx
  have:=hj j h1
  simpa[iZ,h1]using this
 simp[qx,this]
abbrev UY (x:Int×Bool):V:= .tup [(false,[.pv (.int .i64 x.1)]),(false,[.pv (.bool x.2)])]
theorem C9 {r:XRecord}(h:r.fs.length≤maxLen)(n:List UInt8):ah Ph au 217 [r.v,f9 n]=some (aa .i64 (gu (isF n) r.fs)):=by
 have e1:=Fj (e:=XField.e) (p:=isF n) (xs:=r.fs) (k:=240) (z:=2) (kc:=241) (caps:=[[.str n]]) rfl h (fun _=>rfl) (fun x _=>by
  refine ae (fn:=nC) rfl ?_
  simp +contextual (maxSteps:=9999999) [nC,XField.e.eq_1,ww,isF])
 refine ae (fn:=pK) rfl ?_
 simp +contextual (maxSteps:=9999999) [pK,mc,rH,e1]
theorem iP {r:XRecord}(h:r.fs.length≤maxLen)(n:List UInt8):ah Ph au 186 [r.v,f9 n]=some (UY (qx r.fs n)):=by
 refine ae (fn:=oP) rfl ?_
 simp +contextual (maxSteps:=9999999) [oP]
 refine aC aU Cl.fin [.f,.t,.t,.f,.f,.f,.t,.f,.f,.f,.f,.f,.f,.f,.f,.f,.f,.f,.f,.f,.f,.f,.f,.f,.f,.f,.f,.f] (fun k=>[(6,aa .i64 k)]) r.fs.length (iZ (isF n) r.fs) rfl (by simp) (fun k hk hj=> ?_) (fun hj _=> ?_)
 ·have hf:=T6 hk hj
  simp +contextual (maxSteps:=9999999) [jG,iZ,isF,hk,hf,aE h hk,aZ hk,XField.e.eq_1 r.fs[k]]
 ·simp +contextual (maxSteps:=9999999) [jG,T5 hj]
theorem PI (fs:List XField)(n:List UInt8):(gu (isF n) fs= -1∧qx fs n=(0,false))∨∃j,∃hj:j<fs.length,gu (isF n) fs=(j:Int)∧qx fs n=(fs[j].n,true):=by
 unfold gu qx
 cases h:fs.findIdx? (isF n)with
 |none=>
  have:fs.find? (isF n)=none:=by rw[Y9]at h;rw[List.find?_eq_none];exact fun x hx=>by simp[h x hx]
  simp[this]
 |some i=>
  rw[Yg]at h
  obtain⟨h1,h2,h3⟩:=h
  have:fs.find? (isF n)=some fs[i]:=by
   rw[Xr]
   exact⟨h2,i,h1,rfl,fun j hj=>by simpa using h3 j hj⟩
  exact .inr ⟨i,h1,rfl,by simp[this]⟩
theorem iN {r:XRecord}(h:r.fs.length≤maxLen)(n:List UInt8):ah Ph au 190 [r.v,f9 n]=some (UY (qx r.fs n)):=by
 have e1:=C9 h n
 rcases PI r.fs n with⟨h1,h2⟩|⟨j,hj,h1,h2⟩<;>rw[h1]at e1<;>rw[h2]
 all_goals refine ae (fn:=la) rfl ?_
 ·simp +contextual (maxSteps:=9999999) [la,e1,cQ]
 ·simp +contextual (maxSteps:=9999999) [la,e1,cQ,hj,XField.e.eq_1 r.fs[j]]
end Gi
namespace Gi
open Go Go.RowKit
set_option maxHeartbeats 4000000
def JY :Nat→Nat→List UInt8
 |0,_=>[]
 |f+1,n=>if n<128 then [UInt8.ofNat n]else UInt8.ofNat (n%128+128)::JY f (n/128)
def qO (n:Nat):List UInt8:=JY 6 n
def P5 :Nat→Bool→List UInt8→Option (Nat×Nat)
 |0,_,_=>none
 |_+1,_,[]=>none
 |f+1,z,b::l=>if b.toNat<128 then(if z=true∧b.toNat=0 then none else some (b.toNat,1))else
  match P5 f true l with
  |none=>none
  |some (n,k)=>some (b.toNat%128+128*n,k+1)
def nY :List UInt8→Nat
 |[]=>0
 |b::l=>b.toNat%128+128*nY l
theorem xR :∀l:List UInt8,nY l<128^l.length
 |[]=>by simp[nY]
 |b::l=>by
  have:=xR l
  have h:b.toNat%128<128:=Nat.mod_lt _ (by decide)
  simp only[nY,Zn,Nat.pow_succ]
  omega
theorem Hw :∀(l:List UInt8)(b:UInt8),nY (l++[b])=nY l+b.toNat%128*128^l.length
 |[],b=>by simp[nY]
 |a::l,b=>by
  simp only[Zf,nY,Hw l b,Zn,Nat.pow_succ]
  rw[Nat.mul_add,←Nat.mul_assoc,Yy 128 (b.toNat%128),Nat.mul_assoc,Yy 128 (128^l.length),Xj]
theorem Ox :∀(f k:Nat)(z:Bool)(l:List UInt8)(hk:k<l.length),k<f→(∀j(hj:j<l.length),j<k→128≤l[j].toNat)→l[k].toNat<128→P5 f z l=if(z=true∨0<k)∧l[k].toNat=0 then none else some (nY (l.take (k+1)),k+1)
 |0,k,z,l,hk,hf,h1,h2=>by omega
 |f+1,0,z,b::l,hk,hf,h1,h2=>by
  simp only[List.getElem_cons_zero]at h2
  have:b.toNat%128=b.toNat:=Nat.mod_eq_of_lt h2
  simp[P5,h2,nY,this]
 |f+1,k+1,z,b::l,hk,hf,h1,h2=>by
  have h3:¬b.toNat<128:=by
   have:=h1 0 (by simp) (by omega)
   simp only[List.getElem_cons_zero]at this
   omega
  have hk':k<l.length:=by simpa using hk
  simp only[List.getElem_cons_succ]at h2⊢
  have ih:=Ox f k true l hk' (by omega) (fun j hj hjk=>by
   have:=h1 (j+1) (by simp;omega) (by omega)
   simpa using this) h2
  simp only[P5,h3,if_false,ih]
  by_cases h4:l[k].toNat=0
  ·simp[h4]
  ·simp[h4,nY]
theorem Lm :∀(f:Nat)(z:Bool)(l:List UInt8),(∀j(hj:j<l.length),j<f→128≤l[j].toNat)→P5 f z l=none
 |0,z,l,h=>rfl
 |f+1,z,[],h=>rfl
 |f+1,z,b::l,h=>by
  have h3:¬b.toNat<128:=by
   have:=h 0 (by simp) (by omega)
   simp only[List.getElem_cons_zero]at this
   omega
  have ih:=Lm f true l (fun j hj hjk=>by
   have:=h (j+1) (by simp;omega) (by omega)
   simpa using this)
  simp[P5,h3,ih]
theorem HY :∀(f n k:Nat)(z:Bool)(l:List UInt8),P5 f z l=some (n,k)→(∃t,l=JY f n++t)∧k=(JY f n).length∧(z=true→n≠0)
 |0,n,k,z,l,h=>by simp[P5]at h
 |f+1,n,k,z,[],h=>by simp[P5]at h
 |f+1,n,k,z,b::l,h=>by
  by_cases c:b.toNat<128
  ·simp only[P5,c,if_true]at h
   split at h
   ·cases h
   ·rename_i q
    simp only[Option.some.injEq,Prod.mk.injEq]at h
    obtain⟨rfl,rfl⟩:=h
    simp only[JY,c,if_true,UInt8.ofNat_toNat]
    exact⟨⟨l,rfl⟩,rfl,fun z1 z2=>q ⟨z1,z2⟩⟩
  ·simp only[P5,c,if_false]at h
   cases e:P5 f true l with
   |none=>rw[e]at h;cases h
   |some p=>
    obtain⟨m,i⟩:=p
    rw[e]at h
    simp only[Option.some.injEq,Prod.mk.injEq]at h
    obtain⟨rfl,rfl⟩:=h
    obtain⟨⟨t,rfl⟩,rfl,hz⟩:=HY f m i true l e
    have hm:=hz rfl
    have hb:=b.toNat_lt
    have c2:¬(b.toNat%128+128*m<128):=by omega
    have e3:(b.toNat%128+128*m)/128=m:=by omega
    have e4:(b.toNat%128+128*m)%128+128=b.toNat:=by omega
    simp only[JY,c2,if_false,e3,e4,UInt8.ofNat_toNat]
    exact⟨⟨t,rfl⟩,rfl,fun _ q=>c2 (by omega)⟩
def Ln (b:List UInt8):Option (Nat×Nat):=
 match P5 6 false b with
 |none=>none
 |some (n,k)=>if n≤1000000000000 then some (n,k)else none
theorem HZ {b:List UInt8}{n k:Nat}(h:Ln b=some (n,k)):(∃t,b=qO n++t)∧k=(qO n).length∧n≤1000000000000:=by
 unfold Ln at h
 split at h
 ·cases h
 ·rename_i m i e
  split at h
  ·rename_i q
   simp only[Option.some.injEq,Prod.mk.injEq]at h
   obtain⟨rfl,rfl⟩:=h
   obtain⟨a,c,_⟩:=HY _ _ _ _ _ e
   exact⟨a,c,q⟩
  ·cases h
theorem OL :∀(f n:Nat),(JY f n).length≤f
 |0,n=>by simp[JY]
 |f+1,n=>by
  have:=OL f (n/128)
  unfold JY
  split<;>simp<;>omega
theorem tm (n:Nat):(qO n).length≤6:=OL 6 n
theorem ON (n:Nat):0<(qO n).length:=by unfold qO JY;split<;>simp
theorem Ig {n:Nat}(h:n<128):(qO n).length=1:=by simp[qO,JY,h]
theorem DA {b:List UInt8}{n k:Nat}(h:Ln b=some (n,k)):0<k∧k≤b.length∧n≤1000000000000:=by
 obtain⟨⟨t,rfl⟩,rfl,q⟩:=HZ h
 have:=ON n
 simp;omega
def Gq (s:List UInt8):List UInt8:=qO s.length++s
def TG (b:List UInt8):Option (List UInt8×Nat):=
 match Ln b with
 |none=>none
 |some (n,k)=>if n≤b.length-k then some ((b.drop k).take n,k+n)else none
def RV (m:Nat)(b:List UInt8):Option (List UInt8×Nat):=
 match TG b with
 |none=>none
 |some (s,k)=>if s.length≤m then some (s,k)else none
theorem P4 {b s:List UInt8}{k:Nat}(h:TG b=some (s,k)):(∃t,b=Gq s++t)∧k=(Gq s).length∧s.length≤1000000000000:=by
 unfold TG at h
 split at h
 ·cases h
 ·rename_i n i e
  split at h
  ·rename_i q
   simp only[Option.some.injEq,Prod.mk.injEq]at h
   obtain⟨rfl,rfl⟩:=h
   obtain⟨⟨t,rfl⟩,rfl,hn⟩:=HZ e
   simp only[Zu,Nat.add_sub_cancel_left]at q
   have e2:(t.take n).length=n:=by simp;omega
   simp only[List.drop_left,Gq,e2]
   exact⟨⟨t.drop n,by simp⟩,by simp;omega,hn⟩
  ·cases h
theorem Jf {b s:List UInt8}{k:Nat}(h:TG b=some (s,k)):s.length<k∧k≤b.length∧s.length≤1000000000000:=by
 obtain⟨⟨t,rfl⟩,rfl,q⟩:=P4 h
 have:=ON s.length
 simp[Gq];omega
theorem Bm {m:Nat}{b s:List UInt8}{k:Nat}(h:RV m b=some (s,k)):TG b=some (s,k)∧s.length≤m:=by
 unfold RV at h
 split at h
 ·cases h
 ·rename_i x y e
  split at h
  ·rename_i q
   simp only[Option.some.injEq,Prod.mk.injEq]at h
   obtain⟨rfl,rfl⟩:=h
   exact⟨e,q⟩
  ·cases h
def Un (x:Nat):List UInt8:=[UInt8.ofNat (x/1099511627776),UInt8.ofNat (x/4294967296),UInt8.ofNat (x/16777216),UInt8.ofNat (x/65536),UInt8.ofNat (x/256),UInt8.ofNat x]
def mh (k:XKey):List UInt8:=if r9 k=true then UInt8.ofNat k.kind.toNat::((if k.kind=2 then []else Un (k.n+1000000000000).toNat)++k.text)else []
theorem xx {n a b:Int}:rg n a b=true↔a≤n∧n≤b:=by simp[rg,cQ]
theorem Bd {k:XKey}(h:r9 k=true):1≤k.kind∧k.kind≤3∧-1000000000000≤k.n∧k.n≤1000000000000∧(k.kind=2→k.n=0)∧k.text.length≤12:=by
 unfold r9 uH at h
 simp only[Zm,xx,Bool.or_eq_true,Yk,beq_eq_false_iff_ne,beq_iff_eq]at h
 obtain⟨⟨⟨⟨⟨h1,h2⟩,h3,h4⟩,h5⟩,_,h6⟩,_⟩:=h
 have:=of_decide_eq_false h6
 exact⟨h1,h2,h3,h4,fun q=>h5.resolve_left (fun z=>z q),by omega⟩
theorem D8 (k:XKey):(mh k).length≤19:=by
 unfold mh
 split
 ·rename_i h
  have:=(Bd h).2.2.2.2.2
  split<;>simp[Un]<;>omega
 ·simp
def SG (f:XField):List UInt8:=Gq f.name++qO f.n.toNat
def iV (l:List XField):List UInt8:=l.flatMap SG
def t9 (r:XRecord):List UInt8:=if o5 r.fs=true then qO r.fs.length++iV r.fs else []
def VC (f:XField):Prop:=f.name.length≤8∧0≤f.n∧f.n≤1000000000000
theorem MR {s:List UInt8}(h:dd s=true):1≤s.length∧s.length≤8:=by
 simp only[dd,rp,Zm,xx]at h
 omega
theorem Bn {r:XRecord}(h:o5 r.fs=true):r.fs.length≤6∧∀f∈r.fs,VC f:=by
 simp only[o5,Zm,Yk]at h
 have hl:=of_decide_eq_false h.2
 refine⟨by omega,fun f m=> ?_⟩
 obtain⟨j,hj,rfl⟩:=Xd.1 m
 have:=Mj h.1 hj
 simp only[O0,hj,show j-1<r.fs.length by omega,Zr,Xe,Bool.not_eq_false',xx]at this
 have q:=MR this.1
 exact⟨q.2,this.2.1.1,by omega⟩
theorem vo :∀(l:List XField),(∀f∈l,VC f)→(iV l).length≤15*l.length
 |[],h=>by simp[iV]
 |f::l,h=>by
  have ih:=vo l (fun g m=>h g (by simp[m]))
  have h1:=(h f (by simp)).1
  have h2:=Ig (n:=f.name.length) (by omega)
  have h3:=tm f.n.toNat
  simp only[iV,Yl,SG,Gq,Zu,Zn]at ih⊢
  omega
theorem D9 (r:XRecord):(t9 r).length≤91:=by
 unfold t9
 split
 ·rename_i h
  obtain⟨h1,h2⟩:=Bn h
  have:=vo r.fs h2
  have:=Ig (n:=r.fs.length) (by omega)
  simp only[Zu]
  omega
 ·simp
structure Raw where
 kind:Nat
 a:List UInt8
 b:List UInt8
 c:List UInt8
 d:List UInt8
structure XOp where
 kind:Int
 store:List UInt8
 key:XKey
 rcd:XRecord
 field:List UInt8
def XOp.e (x:XOp):List PV:=[.int .i64 x.kind, .str x.store, .int .i64 x.key.kind, .int .i64 x.key.n, .str x.key.text, .lst (x.rcd.fs.map XField.e), .str x.field]
abbrev XOp.v (x:XOp):V:= .agg [.pv (.int .i64 x.kind), .pv (.str x.store), .pv (.int .i64 x.key.kind), .pv (.int .i64 x.key.n), .pv (.str x.key.text), .pv (.lst (x.rcd.fs.map XField.e)), .pv (.str x.field)]
def XOp.Ok (B:Nat)(x:XOp):Prop:=pb x.kind∧x.store.length≤B∧x.key.Ok B∧x.rcd.Ok B∧x.field.length≤B
end Gi
namespace Gi
open Go Go.RowKit
set_option maxHeartbeats 8000000
set_option maxRecDepth 4000
attribute [local simp] start rB bj cf dG fp dF fo fx fw tJ tT tK tU tL tV tM tW tN tX tO tY tP tZ tQ t6 tR t7 V.cells plain bo gn isInt isStr isBool bin cC iT cD iU fq un asList L.view am V.view viewL aY ar cH bP bM comp aJ bH df bY bz bw bx bG bc ca aN bB aT aO bE cd bD bA bF V.flat L.flat dO di bv putAt thaw thawL thawT V.ow fv dK dL cE fu cF dJ freezeVs freezeLs freezeL V.mut L.mut aG ez ie aW bm aF dz bL bf bS L.ren aV dA ce dM bO bh wp_seq wp_block bt dP cI bR cJ wp_skip wp_exit wp_ret cA cy cP cB cW cX cV bX aM L.notArr aS aQ aR dN bp storeD aX fD br ct bd m9 L.mov L.closed V.closed PV.bare PV.flat
theorem Vx (m:Int):m.tmod 2147483647=if 0≤m then m%2147483647 else-((-m)%2147483647):=by
 split
 ·rw[Int.tmod_eq_emod_of_nonneg (by omega)]
 ·obtain⟨n,rfl⟩:∃n,m= -n:=⟨-m,by omega⟩
  rw[Int.neg_tmod,Int.tmod_eq_emod_of_nonneg (by omega),Int.neg_neg]
theorem EV {α β:Type}{g:β→α→β}{a:β}{ns:List α}{k:Nat}(h:k<ns.length):(ns.take (k+1)).foldl g a=g ((ns.take k).foldl g a) ns[k]:=by
 rw[Z5 h,List.foldl_append];rfl
theorem VP (v:Int):v.tmod 2147483647<0→IntKind.i64.wrap (v.tmod 2147483647+2147483647)=v%2147483647:=fun c=>by
 have h:=Vx v
 rw[IntKind.wrap_i64];omega
theorem VQ (v:Int):¬v.tmod 2147483647<0→v.tmod 2147483647=v%2147483647:=fun c=>by
 have h:=Vx v
 omega
theorem Vq (v M q:Int)(hw:v.tmod M<0→IntKind.i64.wrap (v.tmod M+M)=q)(hw2:¬v.tmod M<0→v.tmod M=q)(m1:1≤M)(m2:M≤1000000000000)(m3:¬M=0):ah Ph au 358 [aa .i64 v,aa .i64 M]=some (aa .i64 q):=by
 have e1:=be M 1 1000000000000
 rw[xx.2 ⟨m1,m2⟩]at e1
 refine ae (fn:=sO) rfl ?_
 by_cases c:v.tmod M<0
 ·simp(maxSteps:=9999999) [sO,e1,m3,hY c,hw c]
 ·have hq:cQ q 0=false:=by rw[←hw2 c];exact kQ (Int.not_lt.1 c)
  simp(maxSteps:=9999999) [sO,e1,m3,hq,hw2 c]
theorem I6 (v:Int):ah Ph au 358 [aa .i64 v,aa .i64 2147483647]=some (aa .i64 (v%2147483647)):=Vq v _ _ (VP v) (VQ v) (by omega) (by omega) (by omega)
theorem Vr (v M q:Int)(hw:(IntKind.i64.wrap (v.tmod M+M)).tmod M=q)(m1:1≤M)(m2:M≤1000000000000)(m3:¬M=0):ah Ph au 357 [aa .i64 v,aa .i64 M]=some (aa .i64 q):=by
 have e1:=bK M 1 1000000000000
 rw[xx.2 ⟨m1,m2⟩]at e1
 refine ae (fn:=xa) rfl ?_
 simp(maxSteps:=9999999) [xa,e1,m3,hw]
theorem Jj (v:Int):ah Ph au 357 [aa .i64 v,aa .i64 2147483647]=some (aa .i64 (v%2147483647)):=Vr v _ _ (by
 have h1:=Vx v
 have h2: -2147483647<v.tmod 2147483647∧v.tmod 2147483647<2147483647:=by rw[h1];split<;>omega
 have h3:IntKind.i64.wrap (v.tmod 2147483647+2147483647)=v.tmod 2147483647+2147483647:=by rw[IntKind.wrap_i64];omega
 rw[h3,Int.tmod_eq_emod_of_nonneg (by omega),h1]
 split<;>omega) (by omega) (by omega) (by omega)
def yH (acc v:Int):Int:=(acc*1000003+v%2147483647+13)%2147483647
def ku (ns:List Int):Int:=ns.foldl yH 11
theorem E2 :∀(ns:List Int)(a:Int),0≤a→a<2147483647→0≤ns.foldl yH a∧ns.foldl yH a<2147483647
 |[],a,h0,h1=>⟨h0,h1⟩
 |n::ns,a,h0,h1=>by
  refine E2 ns (yH a n) ?_ ?_<;>(unfold yH;omega)
theorem BR (ns:List Int):0≤ku ns∧ku ns<2147483647:=E2 ns 11 (by omega) (by omega)
theorem I5 {ns:List Int}(hl:ns.length≤maxLen):ah Ph au 348 [ba (ns.map oV)]=some (aa .i64 (ku ns)):=by
 refine ae (fn:=um) rfl ?_
 simp +contextual (maxSteps:=9999999) [um]
 refine aC aU Cl.fin [.f,.f,.f,.t,.f,.f,.t,.t,.t,.f,.f,.f,.f,.f,.f,.f,.f,.f,.f,.f,.f] (fun k=>[(3,aa .i64 (ku (ns.take k))),(8,aa .i64 k)]) ns.length (fun _=>false) rfl (by simp[ku]) (fun k hk _=> ?_) (fun _ _=> ?_)
 ·have e1:=I6 ns[k]
  have hx:oV ns[k]=[.int .i64 ns[k]]:=rfl
  have ht:ku (ns.take (k+1))=yH (ku (ns.take k)) ns[k]:=EV hk
  have hr:=BR (ns.take k)
  rw[ht]
  generalize ku (ns.take k)=A at hr⊢
  have hm:=Int.emod_nonneg ns[k] (show(2147483647:Int)≠0 by decide)
  have hm2:=Int.emod_lt_of_pos ns[k] (show(0:Int)<2147483647 by decide)
  unfold yH
  generalize ns[k]%2147483647=v at e1 hm hm2⊢
  have w1:IntKind.i64.wrap (A*1000003)=A*1000003:=by rw[IntKind.wrap_i64];omega
  have w2:IntKind.i64.wrap (A*1000003+v)=A*1000003+v:=by rw[IntKind.wrap_i64];omega
  have w3:IntKind.i64.wrap (A*1000003+v+13)=A*1000003+v+13:=by rw[IntKind.wrap_i64];omega
  have w4:(A*1000003+v+13).tmod 2147483647=(A*1000003+v+13)%2147483647:=Int.tmod_eq_emod_of_nonneg (by omega)
  simp(maxSteps:=9999999) [nS,hk,hx,e1,w1,w2,w3,w4,aE hl hk,aZ hk]
 ·rw[Yq]
  simp(maxSteps:=9999999) [nS]
theorem Ji {ns:List Int}(hl:ns.length≤maxLen):ah Ph au 343 [ba (ns.map oV)]=some (aa .i64 (ku ns)):=by
 refine ae (fn:=ut) rfl ?_
 simp +contextual (maxSteps:=9999999) [ut]
 refine aC aU Cl.fin [.t,.f,.f,.t,.t,.f,.f,.f,.f,.f,.f,.f,.f,.f,.f,.f,.f,.f,.f,.f,.f,.f] (fun k=>[(3,aa .i64 (ku (ns.take k))),(4,aa .i64 k)]) ns.length (fun _=>false) rfl (by simp[ku]) (fun k hk _=> ?_) (fun _ _=> ?_)
 ·have e1:=Jj ns[k]
  have hx:oV ns[k]=[.int .i64 ns[k]]:=rfl
  have ht:ku (ns.take (k+1))=yH (ku (ns.take k)) ns[k]:=EV hk
  have hr:=BR (ns.take k)
  rw[ht]
  generalize ku (ns.take k)=A at hr⊢
  have hm:=Int.emod_nonneg ns[k] (show(2147483647:Int)≠0 by decide)
  have hm2:=Int.emod_lt_of_pos ns[k] (show(0:Int)<2147483647 by decide)
  unfold yH
  generalize ns[k]%2147483647=v at e1 hm hm2⊢
  have w1:IntKind.i64.wrap (A*1000003)=A*1000003:=by rw[IntKind.wrap_i64];omega
  have w2:IntKind.i64.wrap (A*1000003+v)=A*1000003+v:=by rw[IntKind.wrap_i64];omega
  have w3:IntKind.i64.wrap (A*1000003+v+13)=A*1000003+v+13:=by rw[IntKind.wrap_i64];omega
  have w4:(A*1000003+v+13).tmod 2147483647=(A*1000003+v+13)%2147483647:=Int.tmod_eq_emod_of_nonneg (by omega)
  simp(maxSteps:=9999999) [nT,hk,hx,e1,w1,w2,w3,w4,aE hl hk,aZ hk]
 ·rw[Yq]
  simp(maxSteps:=9999999) [nT]
end Gi
