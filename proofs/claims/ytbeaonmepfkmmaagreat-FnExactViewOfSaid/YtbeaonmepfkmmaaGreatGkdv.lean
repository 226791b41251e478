/- Of this proof. -/
import Derived.Test.YtbeaonmepfkmmaaGreatGnAv
set_option linter.unusedSimpArgs false
set_option linter.unusedVariables false
namespace Gi
open Go Go.RowKit
set_option maxHeartbeats 4000000
set_option maxRecDepth 4000
attribute [local simp] start nY bo cj cE dE cD dD dJ dI pa pp pd pq pe pt pf pw pg px ph py pj pz pk pA pm pB V.cells plain bi fT isInt isStr isBool bin bK fR bL fS dF un asList L.view az V.view viewL aS aA bO bg bJ comp aM bA cz bI bc a9 ba av aj aE ai au aQ aq aY bC aD bd bf V.flat L.flat cT cS bq putAt thaw thawL thawT V.ow dH cG cH bM dG bN cF freezeVs freezeLs freezeL V.mut L.mut aI bY fu aZ bB aP dL cf bE cy L.ren aO cX bR cZ bG bD wp_seq wp_block aT cJ bP bh bQ wp_skip wp_exit wp_ret ca b7 ce cd cr ct cq bH aL L.notArr bu br bt cI b6 storeD aV ep a8 bW aU lV L.mov L.closed V.closed PV.bare PV.flat
def rg (n a b:Int):Bool:= !(b9 n a)&& !(b9 b n)
theorem eV (n a b:Int):ah Ph aH 61 [ae .i64 n,ae .i64 a,ae .i64 b]=some (aF (rg n a b)):=by
 refine aa (fn:=pH) rfl ?_
 simp +contextual (maxSteps:=9999999) [pH,rg]
theorem fY (n a b:Int):ah Ph aH 58 [ae .i64 n,ae .i64 a,ae .i64 b]=some (aF (rg n a b)):=by
 refine aa (fn:=tN) rfl ?_
 simp +contextual (maxSteps:=9999999) [tN,rg]
def TZ (a b:Int):Int:=if b9 a b then-1 else if b9 b a then 1 else 0
theorem vg (a b:Int):ah Ph aH 362 [ae .i64 a,ae .i64 b]=some (ae .i64 (TZ a b)):=by
 refine aa (fn:=ly) rfl ?_
 simp +contextual (maxSteps:=9999999) [ly,TZ]
theorem EC (a b:Bool):ah Ph aH 359 [aF a,aF b]=some (ae .i64 (if a=true then-1 else if b=true then 1 else 0)):=by
 refine aa (fn:=qT) rfl ?_
 simp +contextual (maxSteps:=9999999) [qT]
def QN (sl:Bool)(s:List UInt8)(k:Nat):Bool:=match s[k]? with
 |some b=>(b9 b.toNat 97||b9 122 b.toNat)&& !(sl&&(b.toNat:Int)==47)
 |none=>false
def wv (s:List UInt8)(m:Int)(sl:Bool):Bool:= !(mY s.length (QN sl s))&&rg s.length 1 m
abbrev ie (s:List UInt8):Bool:=wv s 8 false
theorem DZ {s:List UInt8}(h:s.length≤maxLen)(m:Int)(sl:Bool):ah Ph aH 213 [cU s,ae .i64 m,aF sl]=some (aF (wv s m sl)):=by
 refine aa (fn:=qR) rfl ?_
 simp +contextual (maxSteps:=9999999) [qR]
 refine bm bX Cl.fin [.t,.t,.t,.f,.f,.f,.f,.t,.f,.f,.f,.f,.f,.f,.f,.f,.f,.f,.f,.f,.f,.f,.f,.f,.f,.f,.f,.f,.f,.f,.f,.f,.f,.f,.f,.f,.f,.f] (fun k=>[(7,ae .i64 k)]) s.length (QN sl s) rfl (by simp) (fun k hk _=> ?_) (fun _ hp=> ?_)
 ·simp +contextual (maxSteps:=9999999) [kR,QN,wv,hk,bw h hk,bU hk]
 ·simp +contextual (maxSteps:=9999999) [kR,wv,hp,eV]
theorem iE {s:List UInt8}(h:s.length≤maxLen):ah Ph aH 178 [cU s]=some (aF (ie s)):=by
 refine aa (fn:=qP) rfl ?_
 simp[qP,DZ h]
theorem iI {s:List UInt8}(h:s.length≤maxLen):ah Ph aH 177 [cU s]=some (aF (ie s)):=by
 refine aa (fn:=qS) rfl ?_
 simp +contextual (maxSteps:=9999999) [qS]
 refine bm bX Cl.fin [.t,.f,.f,.t,.f,.f,.f,.f,.f,.f,.f,.f,.f,.f,.f,.f,.f,.f,.f,.f,.f,.f,.f] (fun k=>[(3,ae .i64 k)]) s.length (QN false s) rfl (by simp) (fun k hk _=> ?_) (fun _ hp=> ?_)
 ·simp +contextual (maxSteps:=9999999) [kS,QN,ie,wv,hk,bw h hk,bU hk]
 ·simp +contextual (maxSteps:=9999999) [kS,ie,wv,hp,fY]
def QM (s:List UInt8)(k:Nat):Bool:=match s[k]? with
 |some b=>(b9 b.toNat 97||b9 122 b.toNat)&&(b9 b.toNat 48||b9 57 b.toNat)
 |none=>false
def tV (s:List UInt8):Bool:= !(mY s.length (QM s))&& !(b9 12 s.length)
theorem xQ {s:List UInt8}(h:s.length≤maxLen):ah Ph aH 90 [cU s]=some (aF (tV s)):=by
 refine aa (fn:=ng) rfl ?_
 simp +contextual (maxSteps:=9999999) [ng]
 refine bm bX Cl.fin [.t,.f,.f,.t,.f,.f,.f,.f,.f,.f,.f,.f,.f,.f,.f,.f,.f,.f,.f,.f,.f,.f,.f,.f,.f,.f,.f,.f,.f,.f,.f,.f,.f,.f,.f,.f] (fun k=>[(3,ae .i64 k)]) s.length (QM s) rfl (by simp) (fun k hk _=> ?_) (fun _ hp=> ?_)
 ·simp +contextual (maxSteps:=9999999) [iV,QM,tV,hk,bw h hk,bU hk]
 ·simp +contextual (maxSteps:=9999999) [iV,tV,hp]
theorem ED {s:List UInt8}(h:s.length≤maxLen):ah Ph aH 88 [cU s]=some (aF (tV s)):=by
 refine aa (fn:=qU) rfl ?_
 simp +contextual (maxSteps:=9999999) [qU]
 refine bm bX Cl.fin [.t,.f,.f,.t,.f,.f,.f,.f,.f,.f,.f,.f,.f,.f,.f,.f,.f,.f,.f,.f,.f,.f,.f,.f,.f,.f,.f,.f,.f,.f,.f,.f,.f,.f,.f] (fun k=>[(3,ae .i64 k)]) s.length (QM s) rfl (by simp) (fun k hk _=> ?_) (fun _ hp=> ?_)
 ·simp +contextual (maxSteps:=9999999) [kT,QM,tV,hk,bw h hk,bU hk]
 ·simp +contextual (maxSteps:=9999999) [kT,tV,hp]
def eW (a:XKey):Bool:=rg a.kind 1 3&&rg a.n (-1000000000000) 1000000000000&&(!(a.kind==2)||a.n==0)&&tV a.text&&(!(a.kind==1)||a.text==[])
theorem gi {a:XKey}(h:a.Ok maxLen):ah Ph aH 67 [a.v]=some (aF (eW a)):=by
 refine aa (fn:=sJ) rfl ?_
 simp +contextual (maxSteps:=9999999) [sJ,eV,xQ h.2.2,eW]<;>grind
theorem ez {a:XKey}(h:a.Ok maxLen):ah Ph aH 65 [a.v]=some (aF (eW a)):=by
 refine aa (fn:=sL) rfl ?_
 simp +contextual (maxSteps:=9999999) [sL,fY,ED h.2.2,eW]<;>grind
theorem F5 (a b:List UInt8):ah Ph aH 363 [cU a,cU b]=some (ae .i64 (Lib.compareBytes a b)):=ON rfl rfl
theorem gU :∀(a b:List UInt8),Lib.compareBytes a b=if Op.bytesLess a b=true then-1 else if Op.bytesLess b a=true then 1 else 0
 |[],[]=>rfl
 |[],_::_=>rfl
 |_::_,[]=>rfl
 |a::xz,b::bs=>by
  have ih:=gU xz bs
  simp only[Lib.compareBytes,Op.bytesLess,ih]
  by_cases h1:a<b
  ·simp[h1]
  ·by_cases h2:b<a
   ·have h3:¬a=b:=fun h=>by subst h;exact absurd h2 (UInt8.lt_irrefl _)
    simp[h1,h2,h3]
   ·obtain rfl:a=b:=UInt8.le_antisymm (UInt8.not_lt.1 h2) (UInt8.not_lt.1 h1)
    simp[UInt8.lt_irrefl]
def oL (a b:XKey):Int:=if eW a=false∨eW b=false then 0 else if a.kind≠b.kind then TZ a.kind b.kind else if a.n≠b.n then TZ a.n b.n else Lib.compareBytes a.text b.text
theorem eQ {a b:XKey}(ha:a.Ok maxLen)(hb:b.Ok maxLen):ah Ph aH 355 [a.v,b.v]=some (ae .i64 (oL a b)):=by
 refine aa (fn:=lq) rfl ?_
 simp +contextual (maxSteps:=9999999) [lq,gi,vg,F5,ha,hb,oL]
 grind [TZ,b9]
theorem eR {a b:XKey}(ha:a.Ok maxLen)(hb:b.Ok maxLen):ah Ph aH 351 [a.v,b.v]=some (ae .i64 (oL a b)):=by
 refine aa (fn:=lE) rfl ?_
 simp +contextual (maxSteps:=9999999) [lE,ez,EC,ha,hb,oL,gU]
 grind [TZ,b9]
def LL (fs:List XField)(k:Nat):Bool:=match fs[k]?,fs[k-1]? with
 |some x,some y=> !(ie x.name)||(!(rg x.n 0 1000000000)||(b9 0 k&& !(Op.bytesLess y.name x.name)))
 |_,_=>false
def cP (fs:List XField):Bool:= !(mY fs.length (LL fs))&& !(b9 6 fs.length)
theorem iF {r:XRecord}(h:r.Ok maxLen):ah Ph aH 246 [r.v]=some (aF (cP r.fs)):=by
 refine aa (fn:=n9) rfl ?_
 simp +contextual (maxSteps:=9999999) [n9]
 refine bm bX Cl.fin [.f,.t,.f,.f,.f,.f,.t,.t,.t,.f,.f,.f,.f,.f,.f,.f,.f,.f,.f,.f,.f,.f,.f,.f,.f,.f,.f,.f,.f,.f,.f,.f,.f,.f,.f,.f,.f,.f,.f,.f,.f,.f,.f,.f] (fun k=>[(8,ae .i64 k)]) r.fs.length (LL r.fs) rfl (by simp) (fun k hk _=> ?_) (fun _ hp=> ?_)
 ·obtain⟨q1,q2⟩:=PU h.1 hk
  simp +contextual (maxSteps:=9999999) [jv,LL,cP,hk,q1,q2,bw h.1 hk,bU hk,XField.e.eq_1 r.fs[k],XField.e.eq_1 r.fs[k-1],iE (h.2 _ (Zf hk)).1,eV]
 ·simp +contextual (maxSteps:=9999999) [jv,cP,hp]
theorem fj {r:XRecord}(h:r.Ok maxLen):ah Ph aH 243 [r.v]=some (aF (cP r.fs)):=by
 refine aa (fn:=ot) rfl ?_
 simp +contextual (maxSteps:=9999999) [ot]
 refine bm bX Cl.fin [.f,.t,.f,.t,.f,.f,.f,.f,.f,.f,.f,.f,.f,.f,.f,.f,.f,.f,.f,.f,.f,.f,.f,.f,.f,.f,.f,.f,.f,.f,.f,.f,.f,.f,.f,.f,.f,.f,.f,.f,.f,.f,.f,.f,.f,.f,.f,.f,.f,.f,.f,.f,.f] (fun k=>[(3,ae .i64 k)]) r.fs.length (LL r.fs) rfl (by simp) (fun k hk _=> ?_) (fun _ hp=> ?_)
 ·obtain⟨q1,q2⟩:=PU h.1 hk
  simp +contextual (maxSteps:=9999999) [jz,LL,cP,hk,q1,q2,bw h.1 hk,bU hk,XField.e.eq_1 r.fs[k],XField.e.eq_1 r.fs[k-1],iI (h.2 _ (Zf hk)).1,fY]
 ·simp +contextual (maxSteps:=9999999) [jz,cP,hp]
def dv {α:Type}(p:α→Bool)(xs:List α):Int:=match xs.findIdx? p with
 |some i=>(i:Int)
 |none=> -1
def oK {α:Type}(p:α→Bool)(xs:List α)(k:Nat):Bool:=match xs[k]? with
 |some x=>p x
 |none=>false
theorem zR {α:Type}{p:α→Bool}{xs:List α}{k:Nat}(hk:k<xs.length)(hj:∀j,j<k→oK p xs j=false)(h:p xs[k]=true):dv p xs=(k:Int):=by
 have:xs.findIdx? p=some k:=by
  rw[List.findIdx?_eq_some_iff_getElem]
  refine⟨hk,h,fun j hjk=> ?_⟩
  have h1:j<xs.length:=by omega
  have:=hj j hjk
  simpa[oK,h1]using this
 simp[dv,this]
theorem wd {α:Type}{p:α→Bool}{xs:List α}(hj:∀j,j<xs.length→oK p xs j=false):dv p xs= -1:=by
 have:xs.findIdx? p=none:=by
  rw[List.findIdx?_eq_none_iff]
  intro x hx
  obtain⟨j,h1,rfl⟩:=List.mem_iff_getElem.1 hx
  simpa[oK,h1]using hj j h1
 simp[dv,this]
theorem xD {α:Type}(p:α→Bool)(xs:List α):dv p xs= -1∨∃j,∃hj:j<xs.length,dv p xs=(j:Int)∧p xs[j]=true:=by
 unfold dv
 cases h:xs.findIdx? p with
 |none=>exact .inl rfl
 |some i=>
  rw[List.findIdx?_eq_some_iff_getElem]at h
  obtain⟨h1,h2,_⟩:=h
  exact .inr ⟨i,h1,rfl,h2⟩
def VH (z:Nat):ACode:=(.seq (.region [⟨(some 9),(.bin .lss (.tmp 8) (.tmp 7)),none⟩]) (.seq (.cond (.tmp 9) .skip (.exit 0)) (.seq (.block 1 (.seq (.region [⟨(some 10),(.mv (.tmp 8)),none⟩,⟨(some 5),(.mv (.tmp 10)),none⟩]) (.seq (.region [⟨(some 11),(.mv (.tmp 1)),none⟩,⟨(some 12),(.mv (.tmp 0)),none⟩,⟨(some 13),(.mv (.tmp 5)),none⟩,⟨(some 14),(.indexA z (.tmp 12) (.tmp 13)),none⟩,⟨(some 15),(.load true z (.tmp 14)),none⟩,⟨(some 16),(.callV (.tmp 11) [(.tmp 15)]),none⟩]) (.cond (.tmp 16) (.seq (.region [⟨(some 17),(.mv (.tmp 5)),none⟩,⟨(some 4),(.mv (.tmp 17)),none⟩]) .ret) .skip)))) (.region [⟨(some 18),(.bin .add (.tmp 8) (.pv (.int .i64 1))),none⟩,⟨(some 8),(.mv (.tmp 18)),none⟩]))))
def VX (z:Nat):AFn:=⟨19,[(.tmp 4)],(.seq (.region [⟨(some 4),(.mv (.pv (.int .i64 0))),none⟩]) (.seq (.seq (.region [⟨(some 6),(.mv (.tmp 0)),none⟩,⟨(some 7),(.len (.tmp 6)),none⟩,⟨(some 8),(.mv (.pv (.int .i64 0))),none⟩]) (.block 0 (.loop (VH z)))) (.seq (.region [⟨(some 4),(.mv (.pv (.int .i64 (-1)))),none⟩]) .ret)))⟩
theorem H7 {α:Type}{e:α→List PV}{p:α→Bool}{xs:List α}{k z kc:Nat}{caps:List (List PV)}(hk:Ph k=some (VX z))(hl:xs.length≤maxLen)(hz:∀x,(e x).length=z)(hp:∀x∈xs,ah Ph aH kc (.agg ((e x).map .pv)::caps.map tD)=some (aF (p x))):ah Ph aH k [aR (xs.map e), .one (.fn kc caps)]=some (ae .i64 (dv p xs)):=by
 refine aa hk ?_
 simp +contextual (maxSteps:=9999999) [VX]
 refine bm bX Cl.fin [.t,.t,.f,.f,.f,.f,.f,.t,.t,.f,.f,.f,.f,.f,.f,.f,.f,.f,.f] (fun k=>[(8,ae .i64 k)]) xs.length (oK p xs) rfl (by simp) (fun k hk hj=> ?_) (fun hj _=> ?_)
 ·have hc:=hp _ (Zf hk)
  have ht:List.take z ((e xs[k]).map L.pv)=(e xs[k]).map L.pv:=Zz (by simp[hz])
  have hf:=zR hk hj
  simp +contextual (maxSteps:=9999999) [VH,oK,hk,hz,ht,hc,hf,bw hl hk,bU hk,qq]
 ·simp +contextual (maxSteps:=9999999) [VH,wd hj]
def Ja (s t:List UInt8)(x:XBucket):Bool:=x.site==s&&x.top==t
theorem wh {bs:List XBucket}(h:bs.length≤maxLen)(s t:List UInt8):ah Ph aH 175 [.agg [.pv (.lst (bs.map XBucket.e))],cU s,cU t]=some (ae .i64 (dv (Ja s t) bs)):=by
 have e1:=H7 (e:=XBucket.e) (p:=Ja s t) (xs:=bs) (k:=209) (z:=24) (kc:=210) (caps:=[[.str s],[.str t]]) rfl h (fun _=>rfl) (fun x _=>by
  refine aa (fn:=kB) rfl ?_
  simp +contextual (maxSteps:=9999999) [kB,XBucket.e.eq_1,tD,Ja])
 refine aa (fn:=mb) rfl ?_
 simp +contextual (maxSteps:=9999999) [mb,lc,qA,e1]
theorem qc {bs:List XBucket}(h:bs.length≤maxLen)(s t:List UInt8):ah Ph aH 145 [.agg [.pv (.lst (bs.map XBucket.e))],cU s,cU t]=some (ae .i64 (dv (Ja s t) bs)):=by
 refine aa (fn:=mj) rfl ?_
 simp +contextual (maxSteps:=9999999) [mj]
 refine bm bX Cl.fin [.f,.t,.t,.t,.f,.f,.f,.t,.f,.f,.f,.f,.f,.f,.f,.f,.f,.f,.f,.f,.f,.f,.f,.f,.f,.f,.f,.f,.f,.f,.f,.f,.f,.f] (fun k=>[(7,ae .i64 k)]) bs.length (oK (Ja s t) bs) rfl (by simp) (fun k hk hj=> ?_) (fun hj _=> ?_)
 ·have hf:=zR hk hj
  simp +contextual (maxSteps:=9999999) [io,oK,Ja,hk,hf,bw h hk,bU hk,XBucket.e.eq_1 bs[k]]
 ·simp +contextual (maxSteps:=9999999) [io,wd hj]
set_option maxHeartbeats 8000000
def He (xs:List XItem)(k:Nat):Bool:=match xs[k]?,xs[k-1]? with
 |some x,some y=> !(eW x.key)||(!(cP x.rcd.fs)||(b9 0 k&& !(b9 (oL y.key x.key) 0)))
 |_,_=>false
def eG (s:XStore):Bool:= !(mY s.items.length (He s.items))&&(ie s.name&&(!(b9 16 s.items.length)&&rg s.auto 0 1000000))
theorem jh {s:XStore}(h:s.Ok maxLen):ah Ph aH 354 [s.v]=some (aF (eG s)):=by
 refine aa (fn:=pJ) rfl ?_
 simp +contextual (maxSteps:=9999999) [pJ]
 refine bm bX Cl.fin [.f,.t,.f,.f,.f,.f,.t,.t,.t,.f,.f,.f,.f,.f,.f,.f,.f,.f,.f,.f,.f,.f,.f,.f,.f,.f,.f,.f,.f,.f,.f,.f,.f,.f,.f,.f,.f,.f,.f,.f,.f,.f,.f,.f,.f,.f,.f,.f,.f,.f,.f,.f,.f,.f,.f] (fun k=>[(8,ae .i64 k)]) s.items.length (He s.items) rfl (by simp) (fun k hk _=> ?_) (fun _ hp=> ?_)
 ·obtain⟨q1,q2⟩:=PU h.2.1.1 hk
  obtain⟨h1,h2⟩:=h.2.1.2 _ (Zf hk)
  have h3:=(h.2.1.2 _ (Zf q2)).1
  have e1:=iF h2
  have e2:=eQ h3 h1
  simp +contextual (maxSteps:=9999999) [j3,He,eG,hk,q1,q2,bw h.2.1.1 hk,bU hk,XItem.e.eq_1 s.items[k],XItem.e.eq_1 s.items[k-1],gi h1,e1,e2]
 ·simp +contextual (maxSteps:=9999999) [j3,eG,hp,iE h.1,eV]
theorem oB {s:XStore}(h:s.Ok maxLen):ah Ph aH 350 [s.v]=some (aF (eG s)):=by
 refine aa (fn:=pR) rfl ?_
 simp +contextual (maxSteps:=9999999) [pR]
 refine bm bX Cl.fin [.f,.t,.f,.t,.f,.f,.f,.f,.f,.f,.f,.f,.f,.f,.f,.f,.f,.f,.f,.f,.f,.f,.f,.f,.f,.f,.f,.f,.f,.f,.f,.f,.f,.f,.f,.f,.f,.f,.f,.f,.f,.f,.f,.f,.f,.f,.f,.f,.f,.f,.f,.f,.f,.f,.f,.f,.f,.f,.f,.f,.f,.f,.f,.f] (fun k=>[(3,ae .i64 k)]) s.items.length (He s.items) rfl (by simp) (fun k hk _=> ?_) (fun _ hp=> ?_)
 ·obtain⟨q1,q2⟩:=PU h.2.1.1 hk
  obtain⟨h1,h2⟩:=h.2.1.2 _ (Zf hk)
  have h3:=(h.2.1.2 _ (Zf q2)).1
  have e1:=fj h2
  have e2:=eR h3 h1
  simp +contextual (maxSteps:=9999999) [j5,He,eG,hk,q1,q2,bw h.2.1.1 hk,bU hk,XItem.e.eq_1 s.items[k],XItem.e.eq_1 s.items[k-1],ez h1,e1,e2]
 ·simp +contextual (maxSteps:=9999999) [j5,eG,hp,iI h.1,fY]
structure XRange where
 hasLow:Bool
 hasHigh:Bool
 low:XKey
 high:XKey
abbrev XRange.v (r:XRange):V:= .agg [.pv (.bool r.hasLow), .pv (.bool r.hasHigh), .pv (.int .i64 r.low.kind), .pv (.int .i64 r.low.n), .pv (.str r.low.text), .pv (.int .i64 r.high.kind), .pv (.int .i64 r.high.n), .pv (.str r.high.text)]
def XRange.Ok (r:XRange):Prop:=r.low.Ok maxLen∧r.high.Ok maxLen
def Kd (k:XKey)(r:XRange):Bool:=eW k&&((!r.hasLow||eW r.low)&&((!r.hasHigh||eW r.high)&&(!(r.hasLow&&b9 (oL k r.low) 0)&& !(r.hasHigh&&b9 0 (oL k r.high)))))
theorem yM (a b:List UInt8):Lib.compareBytes b a= -Lib.compareBytes a b:=by
 rw[gU a b,gU b a]
 have h1:=p5 a b
 cases h2:Op.bytesLess a b<;>cases h3:Op.bytesLess b a<;>simp[h2,h3]at h1⊢
theorem Jx (a b:XKey):oL b a= -oL a b:=by
 unfold oL
 rw[yM a.text b.text]
 grind [TZ,b9]
theorem OV (a b:XKey):b9 0 (oL a b)=b9 (oL b a) 0:=by
 rw[Jx a b];unfold b9;simp only[decide_eq_decide];omega
theorem xO {k:XKey}{r:XRange}(h:k.Ok maxLen)(hr:r.Ok):ah Ph aH 609 [k.v,r.v]=some (aF (Kd k r)):=by
 have e1:=eQ h hr.1
 have e2:=eQ h hr.2
 have e3:=gi h
 have e4:=gi hr.1
 have e5:=gi hr.2
 unfold Kd
 obtain⟨hl,hh,lo,hi⟩:=r
 simp only at e1 e2 e4 e5⊢
 refine aa (fn:=m8) rfl ?_
 cases hl<;>cases hh<;>simp +contextual (maxSteps:=9999999) [m8,e1,e2,e3,e4,e5]
theorem yr {k:XKey}{r:XRange}(h:k.Ok maxLen)(hr:r.Ok):ah Ph aH 606 [k.v,r.v]=some (aF (Kd k r)):=by
 have e1:=eR hr.1 h
 have q1:=OV r.low k
 have e2:=eR h hr.2
 have e3:=ez h
 have e4:=ez hr.1
 have e5:=ez hr.2
 unfold Kd
 obtain⟨hl,hh,lo,hi⟩:=r
 simp only at e1 e2 e4 e5 q1⊢
 refine aa (fn:=nj) rfl ?_
 cases hl<;>cases hh<;>simp +contextual (maxSteps:=9999999) [nj,e1,e2,e3,e4,e5,q1]
theorem Kc (b:Bool):ah Ph aH 550 [aF b]=some (ae .i64 (cond b 1 0)):=by
 refine aa (fn:=vS) rfl ?_
 simp +contextual (maxSteps:=9999999) [vS]<;>cases b<;>simp
def H6 (n:List UInt8)(x:XStore):Bool:=x.name==n
theorem mC {d:XDatabase}(h:d.stores.length≤maxLen)(n:List UInt8):ah Ph aH 404 [d.v,cU n]=some (ae .i64 (dv (H6 n) d.stores)):=by
 have e1:=H7 (e:=XStore.e) (p:=H6 n) (xs:=d.stores) (k:=410) (z:=3) (kc:=411) (caps:=[[.str n]]) rfl h (fun _=>rfl) (fun x _=>by
  refine aa (fn:=lu) rfl ?_
  simp +contextual (maxSteps:=9999999) [lu,XStore.e.eq_1,tD,H6])
 refine aa (fn:=m7) rfl ?_
 simp +contextual (maxSteps:=9999999) [m7,lc,qA,e1]
theorem mJ {d:XDatabase}(h:d.stores.length≤maxLen)(n:List UInt8):ah Ph aH 400 [d.v,cU n]=some (ae .i64 (dv (H6 n) d.stores)):=by
 refine aa (fn:=ni) rfl ?_
 simp +contextual (maxSteps:=9999999) [ni]
 refine bm bX Cl.fin [.f,.t,.t,.f,.f,.t,.f,.f,.f,.f,.f,.f,.f,.f,.f,.f,.f,.f,.f,.f,.f,.f] (fun k=>[(5,ae .i64 k)]) d.stores.length (oK (H6 n) d.stores) rfl (by simp) (fun k hk hj=> ?_) (fun hj _=> ?_)
 ·have hf:=zR hk hj
  simp +contextual (maxSteps:=9999999) [iY,oK,H6,hk,hf,bw h hk,bU hk,XStore.e.eq_1 d.stores[k]]
 ·simp +contextual (maxSteps:=9999999) [iY,wd hj]
def nF (q:XKey)(x:XItem):Bool:=x.key.kind==q.kind&&(x.key.n==q.n&&x.key.text==q.text)
theorem kd {s:XStore}(h:s.items.length≤maxLen)(q:XKey):ah Ph aH 188 [s.v,q.v]=some (ae .i64 (dv (nF q) s.items)):=by
 have e1:=H7 (e:=XItem.e) (p:=nF q) (xs:=s.items) (k:=215) (z:=4) (kc:=216) (caps:=[[.int .i64 q.kind, .int .i64 q.n, .str q.text]]) rfl h (fun _=>rfl) (fun x _=>by
  refine aa (fn:=mc) rfl ?_
  simp +contextual (maxSteps:=9999999) [mc,XItem.e.eq_1,tD,nF,oO,Nz])
 refine aa (fn:=n8) rfl ?_
 simp +contextual (maxSteps:=9999999) [n8,lc,qA,e1]
theorem iH {s:XStore}(h:s.items.length≤maxLen)(q:XKey):ah Ph aH 184 [s.v,q.v]=some (ae .i64 (dv (nF q) s.items)):=by
 refine aa (fn:=om) rfl ?_
 simp +contextual (maxSteps:=9999999) [om]
 refine bm bX Cl.fin [.f,.f,.t,.t,.f,.t,.f,.f,.f,.f,.f,.f,.f,.f,.f,.f,.f,.f,.f,.f,.f,.f] (fun k=>[(5,ae .i64 k)]) s.items.length (oK (nF q) s.items) rfl (by simp) (fun k hk hj=> ?_) (fun hj _=> ?_)
 ·have hf:=zR hk hj
  simp +contextual (maxSteps:=9999999) [jx,oK,nF,hk,hf,bw h hk,bU hk,XItem.e.eq_1 s.items[k],oO,Nz]
 ·simp +contextual (maxSteps:=9999999) [jx,wd hj]
def isF (n:List UInt8)(x:XField):Bool:=x.name==n
def mB (fs:List XField)(n:List UInt8):Int×Bool:=match fs.find? (isF n)with
 |some x=>(x.n,true)
 |none=>(0,false)
theorem Ul {fs:List XField}{n:List UInt8}{k:Nat}(hk:k<fs.length)(hj:∀j,j<k→oK (isF n) fs j=false)(h:isF n fs[k]=true):mB fs n=(fs[k].n,true):=by
 have:fs.find? (isF n)=some fs[k]:=by
  rw[List.find?_eq_some_iff_getElem]
  refine⟨h,k,hk,rfl,fun j hjk=> ?_⟩
  have h1:j<fs.length:=by omega
  have:=hj j hjk
  simpa[oK,h1]using this
 simp[mB,this]
theorem Uk {fs:List XField}{n:List UInt8}(hj:∀j,j<fs.length→oK (isF n) fs j=false):mB fs n=(0,false):=by
 have:fs.find? (isF n)=none:=by
  rw[List.find?_eq_none]
  intro x hx
  obtain⟨j,h1,rfl⟩:=List.mem_iff_getElem.1 hx
  have:=hj j h1
  simpa[oK,h1]using this
 simp[mB,this]
abbrev Tz (x:Int×Bool):V:= .tup [(false,[.pv (.int .i64 x.1)]),(false,[.pv (.bool x.2)])]
theorem tj {r:XRecord}(h:r.fs.length≤maxLen)(n:List UInt8):ah Ph aH 217 [r.v,cU n]=some (ae .i64 (dv (isF n) r.fs)):=by
 have e1:=H7 (e:=XField.e) (p:=isF n) (xs:=r.fs) (k:=240) (z:=2) (kc:=241) (caps:=[[.str n]]) rfl h (fun _=>rfl) (fun x _=>by
  refine aa (fn:=nf) rfl ?_
  simp +contextual (maxSteps:=9999999) [nf,XField.e.eq_1,tD,isF])
 refine aa (fn:=pP) rfl ?_
 simp +contextual (maxSteps:=9999999) [pP,lc,qA,e1]
theorem gy {r:XRecord}(h:r.fs.length≤maxLen)(n:List UInt8):ah Ph aH 186 [r.v,cU n]=some (Tz (mB r.fs n)):=by
 refine aa (fn:=oq) rfl ?_
 simp +contextual (maxSteps:=9999999) [oq]
 refine bm bX Cl.fin [.f,.t,.t,.f,.f,.f,.t,.f,.f,.f,.f,.f,.f,.f,.f,.f,.f,.f,.f,.f,.f,.f,.f,.f,.f,.f,.f,.f] (fun k=>[(6,ae .i64 k)]) r.fs.length (oK (isF n) r.fs) rfl (by simp) (fun k hk hj=> ?_) (fun hj _=> ?_)
 ·have hf:=Ul hk hj
  simp +contextual (maxSteps:=9999999) [jy,oK,isF,hk,hf,bw h hk,bU hk,XField.e.eq_1 r.fs[k]]
 ·simp +contextual (maxSteps:=9999999) [jy,Uk hj]
theorem Pq (fs:List XField)(n:List UInt8):(dv (isF n) fs= -1∧mB fs n=(0,false))∨∃j,∃hj:j<fs.length,dv (isF n) fs=(j:Int)∧mB fs n=(fs[j].n,true):=by
 unfold dv mB
 cases h:fs.findIdx? (isF n)with
 |none=>
  have:fs.find? (isF n)=none:=by rw[List.findIdx?_eq_none_iff]at h;rw[List.find?_eq_none];exact fun x hx=>by simp[h x hx]
  simp[this]
 |some i=>
  rw[List.findIdx?_eq_some_iff_getElem]at h
  obtain⟨h1,h2,h3⟩:=h
  have:fs.find? (isF n)=some fs[i]:=by
   rw[List.find?_eq_some_iff_getElem]
   exact⟨h2,i,h1,rfl,fun j hj=>by simpa using h3 j hj⟩
  exact .inr ⟨i,h1,rfl,by simp[this]⟩
theorem gv {r:XRecord}(h:r.fs.length≤maxLen)(n:List UInt8):ah Ph aH 190 [r.v,cU n]=some (Tz (mB r.fs n)):=by
 have e1:=tj h n
 rcases Pq r.fs n with⟨h1,h2⟩|⟨j,hj,h1,h2⟩<;>rw[h1]at e1<;>rw[h2]
 all_goals refine aa (fn:=kU) rfl ?_
 ·simp +contextual (maxSteps:=9999999) [kU,e1,b9]
 ·simp +contextual (maxSteps:=9999999) [kU,e1,b9,hj,XField.e.eq_1 r.fs[j]]
end Gi
