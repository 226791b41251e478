/- Of this proof. -/
import Derived.Test.YtbeaonmepfkmmaaGreatGnA
set_option linter.unusedSimpArgs false
set_option linter.unusedVariables false
namespace Gi
open Go Go.RowKit
set_option maxHeartbeats 4000000
set_option maxRecDepth 4000
attribute [local simp] start nx bZ cJ cB dB cA dA dG dF og oA oh oB ol oC om oD oq oE ot oF ou oG ov oH oz oI V.cells plain bt gD isInt isStr isBool bin bM fF bN fG dC un asList L.view au V.view viewL aT az bQ bd b6 comp aN bU cy bI aY aW aX ar aj aE ah aq aO am aR bw aA aZ a9 V.flat L.flat cZ cV br putAt thaw thawL thawT V.ow dE cD cE bO dD bP cC freezeVs freezeLs freezeL V.mut L.mut aH cd eW bg bF aP dN cu bK cH L.ren aJ cS bX cY bW bE wp_seq wp_block aM cG bR bf bS wp_skip wp_exit wp_ret b9 b8 cj ca cr ct cq bH aF L.notArr bq bo bp cF b7 storeD aS eB ba bY aQ kX L.mov L.closed V.closed PV.bare PV.flat
def rg (n a b:Int):Bool:= !(cw n a)&& !(cw b n)
theorem fy (n a b:Int):ag Ph aC 61 [ai .i64 n,ai .i64 a,ai .i64 b]=some (aD (rg n a b)):=by
 refine aa (fn:=p9) rfl ?_
 simp +contextual (maxSteps:=9999999) [p9,rg]
theorem gI (n a b:Int):ag Ph aC 58 [ai .i64 n,ai .i64 a,ai .i64 b]=some (aD (rg n a b)):=by
 refine aa (fn:=uE) rfl ?_
 simp +contextual (maxSteps:=9999999) [uE,rg]
def SZ (a b:Int):Int:=if cw a b then-1 else if cw b a then 1 else 0
theorem v8 (a b:Int):ag Ph aC 362 [ai .i64 a,ai .i64 b]=some (ai .i64 (SZ a b)):=by
 refine aa (fn:=lU) rfl ?_
 simp +contextual (maxSteps:=9999999) [lU,SZ]
theorem ED (a b:Bool):ag Ph aC 359 [aD a,aD b]=some (ai .i64 (if a=true then-1 else if b=true then 1 else 0)):=by
 refine aa (fn:=rU) rfl ?_
 simp +contextual (maxSteps:=9999999) [rU]
def P1 (sl:Bool)(s:List UInt8)(k:Nat):Bool:=match s[k]? with
 |some b=>(cw b.toNat 97||cw 122 b.toNat)&& !(sl&&(b.toNat:Int)==47)
 |none=>false
def xm (s:List UInt8)(m:Int)(sl:Bool):Bool:= !(lc s.length (P1 sl s))&&rg s.length 1 m
abbrev iG (s:List UInt8):Bool:=xm s 8 false
theorem Ed {s:List UInt8}(h:s.length≤maxLen)(m:Int)(sl:Bool):ag Ph aC 213 [di s,ai .i64 m,aD sl]=some (aD (xm s m sl)):=by
 refine aa (fn:=rR) rfl ?_
 simp +contextual (maxSteps:=9999999) [rR]
 refine aL bG Cl.fin [.t,.t,.t,.f,.f,.f,.f,.t,.f,.f,.f,.f,.f,.f,.f,.f,.f,.f,.f,.f,.f,.f,.f,.f,.f,.f,.f,.f,.f,.f,.f,.f,.f,.f,.f,.f,.f,.f] (fun k=>[(7,ai .i64 k)]) s.length (P1 sl s) rfl (by simp) (fun k hk _=> ?_) (fun _ hp=> ?_)
 ·simp +contextual (maxSteps:=9999999) [ly,P1,xm,hk,aU h hk,a8 hk]
 ·simp +contextual (maxSteps:=9999999) [ly,xm,hp,fy]
theorem iY {s:List UInt8}(h:s.length≤maxLen):ag Ph aC 178 [di s]=some (aD (iG s)):=by
 refine aa (fn:=rI) rfl ?_
 simp[rI,Ed h]
theorem i9 {s:List UInt8}(h:s.length≤maxLen):ag Ph aC 177 [di s]=some (aD (iG s)):=by
 refine aa (fn:=rS) rfl ?_
 simp +contextual (maxSteps:=9999999) [rS]
 refine aL bG Cl.fin [.t,.f,.f,.t,.f,.f,.f,.f,.f,.f,.f,.f,.f,.f,.f,.f,.f,.f,.f,.f,.f,.f,.f] (fun k=>[(3,ai .i64 k)]) s.length (P1 false s) rfl (by simp) (fun k hk _=> ?_) (fun _ hp=> ?_)
 ·simp +contextual (maxSteps:=9999999) [lA,P1,iG,xm,hk,aU h hk,a8 hk]
 ·simp +contextual (maxSteps:=9999999) [lA,iG,xm,hp,gI]
def P0 (s:List UInt8)(k:Nat):Bool:=match s[k]? with
 |some b=>(cw b.toNat 97||cw 122 b.toNat)&&(cw b.toNat 48||cw 57 b.toNat)
 |none=>false
def uO (s:List UInt8):Bool:= !(lc s.length (P0 s))&& !(cw 12 s.length)
theorem yH {s:List UInt8}(h:s.length≤maxLen):ag Ph aC 90 [di s]=some (aD (uO s)):=by
 refine aa (fn:=nO) rfl ?_
 simp +contextual (maxSteps:=9999999) [nO]
 refine aL bG Cl.fin [.t,.f,.f,.t,.f,.f,.f,.f,.f,.f,.f,.f,.f,.f,.f,.f,.f,.f,.f,.f,.f,.f,.f,.f,.f,.f,.f,.f,.f,.f,.f,.f,.f,.f,.f,.f] (fun k=>[(3,ai .i64 k)]) s.length (P0 s) rfl (by simp) (fun k hk _=> ?_) (fun _ hp=> ?_)
 ·simp +contextual (maxSteps:=9999999) [jj,P0,uO,hk,aU h hk,a8 hk]
 ·simp +contextual (maxSteps:=9999999) [jj,uO,hp]
theorem EE {s:List UInt8}(h:s.length≤maxLen):ag Ph aC 88 [di s]=some (aD (uO s)):=by
 refine aa (fn:=rV) rfl ?_
 simp +contextual (maxSteps:=9999999) [rV]
 refine aL bG Cl.fin [.t,.f,.f,.t,.f,.f,.f,.f,.f,.f,.f,.f,.f,.f,.f,.f,.f,.f,.f,.f,.f,.f,.f,.f,.f,.f,.f,.f,.f,.f,.f,.f,.f,.f,.f] (fun k=>[(3,ai .i64 k)]) s.length (P0 s) rfl (by simp) (fun k hk _=> ?_) (fun _ hp=> ?_)
 ·simp +contextual (maxSteps:=9999999) [lB,P0,uO,hk,aU h hk,a8 hk]
 ·simp +contextual (maxSteps:=9999999) [lB,uO,hp]
def fA (a:XKey):Bool:=rg a.kind 1 3&&rg a.n (-1000000000000) 1000000000000&&(!(a.kind==2)||a.n==0)&&uO a.text&&(!(a.kind==1)||a.text==[])
theorem gL {a:XKey}(h:a.Ok maxLen):ag Ph aC 67 [a.v]=some (aD (fA a)):=by
 refine aa (fn:=tw) rfl ?_
 simp +contextual (maxSteps:=9999999) [tw,fy,yH h.2.2,fA]<;>grind
theorem eX {a:XKey}(h:a.Ok maxLen):ag Ph aC 65 [a.v]=some (aD (fA a)):=by
 refine aa (fn:=tz) rfl ?_
 simp +contextual (maxSteps:=9999999) [tz,gI,EE h.2.2,fA]<;>grind
theorem F3 (a b:List UInt8):ag Ph aC 363 [di a,di b]=some (ai .i64 (Lib.compareBytes a b)):=N4 rfl rfl
theorem iv :∀(a b:List UInt8),Lib.compareBytes a b=if Op.bytesLess a b=true then-1 else if Op.bytesLess b a=true then 1 else 0
 |[],[]=>rfl
 |[],_::_=>rfl
 |_::_,[]=>rfl
 |a::xz,b::bs=>by
  have ih:=iv xz bs
  simp only[Lib.compareBytes,Op.bytesLess,ih]
  by_cases h1:a<b
  ·simp[h1]
  ·by_cases h2:b<a
   ·have h3:¬a=b:=fun h=>by subst h;exact absurd h2 (UInt8.lt_irrefl _)
    simp[h1,h2,h3]
   ·obtain rfl:a=b:=UInt8.le_antisymm (UInt8.not_lt.1 h2) (UInt8.not_lt.1 h1)
    simp[UInt8.lt_irrefl]
def pA (a b:XKey):Int:=if fA a=false∨fA b=false then 0 else if a.kind≠b.kind then SZ a.kind b.kind else if a.n≠b.n then SZ a.n b.n else Lib.compareBytes a.text b.text
theorem ft {a b:XKey}(ha:a.Ok maxLen)(hb:b.Ok maxLen):ag Ph aC 355 [a.v,b.v]=some (ai .i64 (pA a b)):=by
 refine aa (fn:=lP) rfl ?_
 simp +contextual (maxSteps:=9999999) [lP,gL,v8,F3,ha,hb,pA]
 grind [SZ,cw]
theorem fu {a b:XKey}(ha:a.Ok maxLen)(hb:b.Ok maxLen):ag Ph aC 351 [a.v,b.v]=some (ai .i64 (pA a b)):=by
 refine aa (fn:=mb) rfl ?_
 simp +contextual (maxSteps:=9999999) [mb,eX,ED,ha,hb,pA,iv]
 grind [SZ,cw]
def Ll (fs:List XField)(k:Nat):Bool:=match fs[k]?,fs[k-1]? with
 |some x,some y=> !(iG x.name)||(!(rg x.n 0 1000000000)||(cw 0 k&& !(Op.bytesLess y.name x.name)))
 |_,_=>false
def db (fs:List XField):Bool:= !(lc fs.length (Ll fs))&& !(cw 6 fs.length)
theorem iZ {r:XRecord}(h:r.Ok maxLen):ag Ph aC 246 [r.v]=some (aD (db r.fs)):=by
 refine aa (fn:=oY) rfl ?_
 simp +contextual (maxSteps:=9999999) [oY]
 refine aL bG Cl.fin [.f,.t,.f,.f,.f,.f,.t,.t,.t,.f,.f,.f,.f,.f,.f,.f,.f,.f,.f,.f,.f,.f,.f,.f,.f,.f,.f,.f,.f,.f,.f,.f,.f,.f,.f,.f,.f,.f,.f,.f,.f,.f,.f,.f] (fun k=>[(8,ai .i64 k)]) r.fs.length (Ll r.fs) rfl (by simp) (fun k hk _=> ?_) (fun _ hp=> ?_)
 ·obtain⟨q1,q2⟩:=O5 h.1 hk
  simp +contextual (maxSteps:=9999999) [jO,Ll,db,hk,q1,q2,aU h.1 hk,a8 hk,XField.e.eq_1 r.fs[k],XField.e.eq_1 r.fs[k-1],iY (h.2 _ (List.getElem_mem hk)).1,fy]
 ·simp +contextual (maxSteps:=9999999) [jO,db,hp]
theorem fR {r:XRecord}(h:r.Ok maxLen):ag Ph aC 243 [r.v]=some (aD (db r.fs)):=by
 refine aa (fn:=pa) rfl ?_
 simp +contextual (maxSteps:=9999999) [pa]
 refine aL bG Cl.fin [.f,.t,.f,.t,.f,.f,.f,.f,.f,.f,.f,.f,.f,.f,.f,.f,.f,.f,.f,.f,.f,.f,.f,.f,.f,.f,.f,.f,.f,.f,.f,.f,.f,.f,.f,.f,.f,.f,.f,.f,.f,.f,.f,.f,.f,.f,.f,.f,.f,.f,.f,.f,.f] (fun k=>[(3,ai .i64 k)]) r.fs.length (Ll r.fs) rfl (by simp) (fun k hk _=> ?_) (fun _ hp=> ?_)
 ·obtain⟨q1,q2⟩:=O5 h.1 hk
  simp +contextual (maxSteps:=9999999) [jR,Ll,db,hk,q1,q2,aU h.1 hk,a8 hk,XField.e.eq_1 r.fs[k],XField.e.eq_1 r.fs[k-1],i9 (h.2 _ (List.getElem_mem hk)).1,gI]
 ·simp +contextual (maxSteps:=9999999) [jR,db,hp]
def dM {α:Type}(p:α→Bool)(xs:List α):Int:=match xs.findIdx? p with
 |some i=>(i:Int)
 |none=> -1
def pz {α:Type}(p:α→Bool)(xs:List α)(k:Nat):Bool:=match xs[k]? with
 |some x=>p x
 |none=>false
theorem Az {α:Type}{p:α→Bool}{xs:List α}{k:Nat}(hk:k<xs.length)(hj:∀j,j<k→pz p xs j=false)(h:p xs[k]=true):dM p xs=(k:Int):=by
 have:xs.findIdx? p=some k:=by
  rw[List.findIdx?_eq_some_iff_getElem]
  refine⟨hk,h,fun j hjk=> ?_⟩
  have h1:j<xs.length:=by omega
  have:=hj j hjk
  simpa[pz,h1]using this
 simp[dM,this]
theorem w9 {α:Type}{p:α→Bool}{xs:List α}(hj:∀j,j<xs.length→pz p xs j=false):dM p xs= -1:=by
 have:xs.findIdx? p=none:=by
  rw[List.findIdx?_eq_none_iff]
  intro x hx
  obtain⟨j,h1,rfl⟩:=List.mem_iff_getElem.1 hx
  simpa[pz,h1]using hj j h1
 simp[dM,this]
theorem yt {α:Type}(p:α→Bool)(xs:List α):dM p xs= -1∨∃j,∃hj:j<xs.length,dM p xs=(j:Int)∧p xs[j]=true:=by
 unfold dM
 cases h:xs.findIdx? p with
 |none=>exact .inl rfl
 |some i=>
  rw[List.findIdx?_eq_some_iff_getElem]at h
  obtain⟨h1,h2,_⟩:=h
  exact .inr ⟨i,h1,rfl,h2⟩
def UN (z:Nat):ACode:=(.seq (.region [⟨(some 9),(.bin .lss (.tmp 8) (.tmp 7)),none⟩]) (.seq (.cond (.tmp 9) .skip (.exit 0)) (.seq (.block 1 (.seq (.region [⟨(some 10),(.mv (.tmp 8)),none⟩,⟨(some 5),(.mv (.tmp 10)),none⟩]) (.seq (.region [⟨(some 11),(.mv (.tmp 1)),none⟩,⟨(some 12),(.mv (.tmp 0)),none⟩,⟨(some 13),(.mv (.tmp 5)),none⟩,⟨(some 14),(.indexA z (.tmp 12) (.tmp 13)),none⟩,⟨(some 15),(.load true z (.tmp 14)),none⟩,⟨(some 16),(.callV (.tmp 11) [(.tmp 15)]),none⟩]) (.cond (.tmp 16) (.seq (.region [⟨(some 17),(.mv (.tmp 5)),none⟩,⟨(some 4),(.mv (.tmp 17)),none⟩]) .ret) .skip)))) (.region [⟨(some 18),(.bin .add (.tmp 8) (.pv (.int .i64 1))),none⟩,⟨(some 8),(.mv (.tmp 18)),none⟩]))))
def U3 (z:Nat):AFn:=⟨19,[(.tmp 4)],(.seq (.region [⟨(some 4),(.mv (.pv (.int .i64 0))),none⟩]) (.seq (.seq (.region [⟨(some 6),(.mv (.tmp 0)),none⟩,⟨(some 7),(.len (.tmp 6)),none⟩,⟨(some 8),(.mv (.pv (.int .i64 0))),none⟩]) (.block 0 (.loop (UN z)))) (.seq (.region [⟨(some 4),(.mv (.pv (.int .i64 (-1)))),none⟩]) .ret)))⟩
theorem HY {α:Type}{e:α→List PV}{p:α→Bool}{xs:List α}{k z kc:Nat}{caps:List (List PV)}(hk:Ph k=some (U3 z))(hl:xs.length≤maxLen)(hz:∀x,(e x).length=z)(hp:∀x∈xs,ag Ph aC kc (.agg ((e x).map .pv)::caps.map rE)=some (aD (p x))):ag Ph aC k [bi (xs.map e), .one (.fn kc caps)]=some (ai .i64 (dM p xs)):=by
 refine aa hk ?_
 simp +contextual (maxSteps:=9999999) [U3]
 refine aL bG Cl.fin [.t,.t,.f,.f,.f,.f,.f,.t,.t,.f,.f,.f,.f,.f,.f,.f,.f,.f,.f] (fun k=>[(8,ai .i64 k)]) xs.length (pz p xs) rfl (by simp) (fun k hk hj=> ?_) (fun hj _=> ?_)
 ·have hc:=hp _ (List.getElem_mem hk)
  have ht:List.take z ((e xs[k]).map L.pv)=(e xs[k]).map L.pv:=List.take_of_length_le (by simp[hz])
  have hf:=Az hk hj
  simp +contextual (maxSteps:=9999999) [UN,pz,hk,hz,ht,hc,hf,aU hl hk,a8 hk,qP]
 ·simp +contextual (maxSteps:=9999999) [UN,w9 hj]
def Ck (s t:List UInt8)(x:XBucket):Bool:=x.site==s&&x.top==t
theorem xf {bs:List XBucket}(h:bs.length≤maxLen)(s t:List UInt8):ag Ph aC 175 [.agg [.pv (.lst (bs.map XBucket.e))],di s,di t]=some (ai .i64 (dM (Ck s t) bs)):=by
 have e1:=HY (e:=XBucket.e) (p:=Ck s t) (xs:=bs) (k:=209) (z:=24) (kc:=210) (caps:=[[.str s],[.str t]]) rfl h (fun _=>rfl) (fun x _=>by
  refine aa (fn:=k6) rfl ?_
  simp +contextual (maxSteps:=9999999) [k6,XBucket.e.eq_1,rE,Ck])
 refine aa (fn:=mK) rfl ?_
 simp +contextual (maxSteps:=9999999) [mK,lK,qY,e1]
theorem js {bs:List XBucket}(h:bs.length≤maxLen)(s t:List UInt8):ag Ph aC 145 [.agg [.pv (.lst (bs.map XBucket.e))],di s,di t]=some (ai .i64 (dM (Ck s t) bs)):=by
 refine aa (fn:=mW) rfl ?_
 simp +contextual (maxSteps:=9999999) [mW]
 refine aL bG Cl.fin [.f,.t,.t,.t,.f,.f,.f,.t,.f,.f,.f,.f,.f,.f,.f,.f,.f,.f,.f,.f,.f,.f,.f,.f,.f,.f,.f,.f,.f,.f,.f,.f,.f,.f] (fun k=>[(7,ai .i64 k)]) bs.length (pz (Ck s t) bs) rfl (by simp) (fun k hk hj=> ?_) (fun hj _=> ?_)
 ·have hf:=Az hk hj
  simp +contextual (maxSteps:=9999999) [iJ,pz,Ck,hk,hf,aU h hk,a8 hk,XBucket.e.eq_1 bs[k]]
 ·simp +contextual (maxSteps:=9999999) [iJ,w9 hj]
set_option maxHeartbeats 8000000
def G8 (xs:List XItem)(k:Nat):Bool:=match xs[k]?,xs[k-1]? with
 |some x,some y=> !(fA x.key)||(!(db x.rcd.fs)||(cw 0 k&& !(cw (pA y.key x.key) 0)))
 |_,_=>false
def fg (s:XStore):Bool:= !(lc s.items.length (G8 s.items))&&(iG s.name&&(!(cw 16 s.items.length)&&rg s.auto 0 1000000))
theorem jz {s:XStore}(h:s.Ok maxLen):ag Ph aC 354 [s.v]=some (aD (fg s)):=by
 refine aa (fn:=qb) rfl ?_
 simp +contextual (maxSteps:=9999999) [qb]
 refine aL bG Cl.fin [.f,.t,.f,.f,.f,.f,.t,.t,.t,.f,.f,.f,.f,.f,.f,.f,.f,.f,.f,.f,.f,.f,.f,.f,.f,.f,.f,.f,.f,.f,.f,.f,.f,.f,.f,.f,.f,.f,.f,.f,.f,.f,.f,.f,.f,.f,.f,.f,.f,.f,.f,.f,.f,.f,.f] (fun k=>[(8,ai .i64 k)]) s.items.length (G8 s.items) rfl (by simp) (fun k hk _=> ?_) (fun _ hp=> ?_)
 ·obtain⟨q1,q2⟩:=O5 h.2.1.1 hk
  obtain⟨h1,h2⟩:=h.2.1.2 _ (List.getElem_mem hk)
  have h3:=(h.2.1.2 _ (List.getElem_mem q2)).1
  have e1:=iZ h2
  have e2:=ft h3 h1
  simp +contextual (maxSteps:=9999999) [kF,G8,fg,hk,q1,q2,aU h.2.1.1 hk,a8 hk,XItem.e.eq_1 s.items[k],XItem.e.eq_1 s.items[k-1],gL h1,e1,e2]
 ·simp +contextual (maxSteps:=9999999) [kF,fg,hp,iY h.1,fy]
theorem ph {s:XStore}(h:s.Ok maxLen):ag Ph aC 350 [s.v]=some (aD (fg s)):=by
 refine aa (fn:=qj) rfl ?_
 simp +contextual (maxSteps:=9999999) [qj]
 refine aL bG Cl.fin [.f,.t,.f,.t,.f,.f,.f,.f,.f,.f,.f,.f,.f,.f,.f,.f,.f,.f,.f,.f,.f,.f,.f,.f,.f,.f,.f,.f,.f,.f,.f,.f,.f,.f,.f,.f,.f,.f,.f,.f,.f,.f,.f,.f,.f,.f,.f,.f,.f,.f,.f,.f,.f,.f,.f,.f,.f,.f,.f,.f,.f,.f,.f,.f] (fun k=>[(3,ai .i64 k)]) s.items.length (G8 s.items) rfl (by simp) (fun k hk _=> ?_) (fun _ hp=> ?_)
 ·obtain⟨q1,q2⟩:=O5 h.2.1.1 hk
  obtain⟨h1,h2⟩:=h.2.1.2 _ (List.getElem_mem hk)
  have h3:=(h.2.1.2 _ (List.getElem_mem q2)).1
  have e1:=fR h2
  have e2:=fu h3 h1
  simp +contextual (maxSteps:=9999999) [kH,G8,fg,hk,q1,q2,aU h.2.1.1 hk,a8 hk,XItem.e.eq_1 s.items[k],XItem.e.eq_1 s.items[k-1],eX h1,e1,e2]
 ·simp +contextual (maxSteps:=9999999) [kH,fg,hp,i9 h.1,gI]
structure XRange where
 hasLow:Bool
 hasHigh:Bool
 low:XKey
 high:XKey
abbrev XRange.v (r:XRange):V:= .agg [.pv (.bool r.hasLow), .pv (.bool r.hasHigh), .pv (.int .i64 r.low.kind), .pv (.int .i64 r.low.n), .pv (.str r.low.text), .pv (.int .i64 r.high.kind), .pv (.int .i64 r.high.n), .pv (.str r.high.text)]
def XRange.Ok (r:XRange):Prop:=r.low.Ok maxLen∧r.high.Ok maxLen
def JV (k:XKey)(r:XRange):Bool:=fA k&&((!r.hasLow||fA r.low)&&((!r.hasHigh||fA r.high)&&(!(r.hasLow&&cw (pA k r.low) 0)&& !(r.hasHigh&&cw 0 (pA k r.high)))))
theorem zG (a b:List UInt8):Lib.compareBytes b a= -Lib.compareBytes a b:=by
 rw[iv a b,iv b a]
 have h1:=qv a b
 cases h2:Op.bytesLess a b<;>cases h3:Op.bytesLess b a<;>simp[h2,h3]at h1⊢
theorem Jg (a b:XKey):pA b a= -pA a b:=by
 unfold pA
 rw[zG a.text b.text]
 grind [SZ,cw]
theorem N9 (a b:XKey):cw 0 (pA a b)=cw (pA b a) 0:=by
 rw[Jg a b];unfold cw;simp only[decide_eq_decide];omega
theorem yF {k:XKey}{r:XRange}(h:k.Ok maxLen)(hr:r.Ok):ag Ph aC 609 [k.v,r.v]=some (aD (JV k r)):=by
 have e1:=ft h hr.1
 have e2:=ft h hr.2
 have e3:=gL h
 have e4:=gL hr.1
 have e5:=gL hr.2
 unfold JV
 obtain⟨hl,hh,lo,hi⟩:=r
 simp only at e1 e2 e4 e5⊢
 refine aa (fn:=nJ) rfl ?_
 cases hl<;>cases hh<;>simp +contextual (maxSteps:=9999999) [nJ,e1,e2,e3,e4,e5]
theorem zg {k:XKey}{r:XRange}(h:k.Ok maxLen)(hr:r.Ok):ag Ph aC 606 [k.v,r.v]=some (aD (JV k r)):=by
 have e1:=fu hr.1 h
 have q1:=N9 r.low k
 have e2:=fu h hr.2
 have e3:=eX h
 have e4:=eX hr.1
 have e5:=eX hr.2
 unfold JV
 obtain⟨hl,hh,lo,hi⟩:=r
 simp only at e1 e2 e4 e5 q1⊢
 refine aa (fn:=nR) rfl ?_
 cases hl<;>cases hh<;>simp +contextual (maxSteps:=9999999) [nR,e1,e2,e3,e4,e5,q1]
theorem JS (b:Bool):ag Ph aC 550 [aD b]=some (ai .i64 (cond b 1 0)):=by
 refine aa (fn:=wR) rfl ?_
 simp +contextual (maxSteps:=9999999) [wR]<;>cases b<;>simp
def HW (n:List UInt8)(x:XStore):Bool:=x.name==n
theorem m9 {d:XDatabase}(h:d.stores.length≤maxLen)(n:List UInt8):ag Ph aC 404 [d.v,di n]=some (ai .i64 (dM (HW n) d.stores)):=by
 have e1:=HY (e:=XStore.e) (p:=HW n) (xs:=d.stores) (k:=410) (z:=3) (kc:=411) (caps:=[[.str n]]) rfl h (fun _=>rfl) (fun x _=>by
  refine aa (fn:=lR) rfl ?_
  simp +contextual (maxSteps:=9999999) [lR,XStore.e.eq_1,rE,HW])
 refine aa (fn:=nI) rfl ?_
 simp +contextual (maxSteps:=9999999) [nI,lK,qY,e1]
theorem nj {d:XDatabase}(h:d.stores.length≤maxLen)(n:List UInt8):ag Ph aC 400 [d.v,di n]=some (ai .i64 (dM (HW n) d.stores)):=by
 refine aa (fn:=nQ) rfl ?_
 simp +contextual (maxSteps:=9999999) [nQ]
 refine aL bG Cl.fin [.f,.t,.t,.f,.f,.t,.f,.f,.f,.f,.f,.f,.f,.f,.f,.f,.f,.f,.f,.f,.f,.f] (fun k=>[(5,ai .i64 k)]) d.stores.length (pz (HW n) d.stores) rfl (by simp) (fun k hk hj=> ?_) (fun hj _=> ?_)
 ·have hf:=Az hk hj
  simp +contextual (maxSteps:=9999999) [jn,pz,HW,hk,hf,aU h hk,a8 hk,XStore.e.eq_1 d.stores[k]]
 ·simp +contextual (maxSteps:=9999999) [jn,w9 hj]
def n9 (q:XKey)(x:XItem):Bool:=x.key.kind==q.kind&&(x.key.n==q.n&&x.key.text==q.text)
theorem kO {s:XStore}(h:s.items.length≤maxLen)(q:XKey):ag Ph aC 188 [s.v,q.v]=some (ai .i64 (dM (n9 q) s.items)):=by
 have e1:=HY (e:=XItem.e) (p:=n9 q) (xs:=s.items) (k:=215) (z:=4) (kc:=216) (caps:=[[.int .i64 q.kind, .int .i64 q.n, .str q.text]]) rfl h (fun _=>rfl) (fun x _=>by
  refine aa (fn:=mL) rfl ?_
  simp +contextual (maxSteps:=9999999) [mL,XItem.e.eq_1,rE,n9,kJ,Fv])
 refine aa (fn:=oX) rfl ?_
 simp +contextual (maxSteps:=9999999) [oX,lK,qY,e1]
theorem i7 {s:XStore}(h:s.items.length≤maxLen)(q:XKey):ag Ph aC 184 [s.v,q.v]=some (ai .i64 (dM (n9 q) s.items)):=by
 refine aa (fn:=o8) rfl ?_
 simp +contextual (maxSteps:=9999999) [o8]
 refine aL bG Cl.fin [.f,.f,.t,.t,.f,.t,.f,.f,.f,.f,.f,.f,.f,.f,.f,.f,.f,.f,.f,.f,.f,.f] (fun k=>[(5,ai .i64 k)]) s.items.length (pz (n9 q) s.items) rfl (by simp) (fun k hk hj=> ?_) (fun hj _=> ?_)
 ·have hf:=Az hk hj
  simp +contextual (maxSteps:=9999999) [jP,pz,n9,hk,hf,aU h hk,a8 hk,XItem.e.eq_1 s.items[k],kJ,Fv]
 ·simp +contextual (maxSteps:=9999999) [jP,w9 hj]
def isF (n:List UInt8)(x:XField):Bool:=x.name==n
def m8 (fs:List XField)(n:List UInt8):Int×Bool:=match fs.find? (isF n)with
 |some x=>(x.n,true)
 |none=>(0,false)
theorem To {fs:List XField}{n:List UInt8}{k:Nat}(hk:k<fs.length)(hj:∀j,j<k→pz (isF n) fs j=false)(h:isF n fs[k]=true):m8 fs n=(fs[k].n,true):=by
 have:fs.find? (isF n)=some fs[k]:=by
  rw[List.find?_eq_some_iff_getElem]
  refine⟨h,k,hk,rfl,fun j hjk=> ?_⟩
  have h1:j<fs.length:=by omega
  have:=hj j hjk
  simpa[pz,h1]using this
 simp[m8,this]
theorem Tn {fs:List XField}{n:List UInt8}(hj:∀j,j<fs.length→pz (isF n) fs j=false):m8 fs n=(0,false):=by
 have:fs.find? (isF n)=none:=by
  rw[List.find?_eq_none]
  intro x hx
  obtain⟨j,h1,rfl⟩:=List.mem_iff_getElem.1 hx
  have:=hj j h1
  simpa[pz,h1]using this
 simp[m8,this]
abbrev Sx (x:Int×Bool):V:= .tup [(false,[.pv (.int .i64 x.1)]),(false,[.pv (.bool x.2)])]
theorem t9 {r:XRecord}(h:r.fs.length≤maxLen)(n:List UInt8):ag Ph aC 217 [r.v,di n]=some (ai .i64 (dM (isF n) r.fs)):=by
 have e1:=HY (e:=XField.e) (p:=isF n) (xs:=r.fs) (k:=240) (z:=2) (kc:=241) (caps:=[[.str n]]) rfl h (fun _=>rfl) (fun x _=>by
  refine aa (fn:=nN) rfl ?_
  simp +contextual (maxSteps:=9999999) [nN,XField.e.eq_1,rE,isF])
 refine aa (fn:=qh) rfl ?_
 simp +contextual (maxSteps:=9999999) [qh,lK,qY,e1]
theorem gX {r:XRecord}(h:r.fs.length≤maxLen)(n:List UInt8):ag Ph aC 186 [r.v,di n]=some (Sx (m8 r.fs n)):=by
 refine aa (fn:=o9) rfl ?_
 simp +contextual (maxSteps:=9999999) [o9]
 refine aL bG Cl.fin [.f,.t,.t,.f,.f,.f,.t,.f,.f,.f,.f,.f,.f,.f,.f,.f,.f,.f,.f,.f,.f,.f,.f,.f,.f,.f,.f,.f] (fun k=>[(6,ai .i64 k)]) r.fs.length (pz (isF n) r.fs) rfl (by simp) (fun k hk hj=> ?_) (fun hj _=> ?_)
 ·have hf:=To hk hj
  simp +contextual (maxSteps:=9999999) [jQ,pz,isF,hk,hf,aU h hk,a8 hk,XField.e.eq_1 r.fs[k]]
 ·simp +contextual (maxSteps:=9999999) [jQ,Tn hj]
theorem OH (fs:List XField)(n:List UInt8):(dM (isF n) fs= -1∧m8 fs n=(0,false))∨∃j,∃hj:j<fs.length,dM (isF n) fs=(j:Int)∧m8 fs n=(fs[j].n,true):=by
 unfold dM m8
 cases h:fs.findIdx? (isF n)with
 |none=>
  have:fs.find? (isF n)=none:=by rw[List.findIdx?_eq_none_iff]at h;rw[List.find?_eq_none];exact fun x hx=>by simp[h x hx]
  simp[this]
 |some i=>
  rw[List.findIdx?_eq_some_iff_getElem]at h
  obtain⟨h1,h2,h3⟩:=h
  have:fs.find? (isF n)=some fs[i]:=by
   rw[List.find?_eq_some_iff_getElem]
   exact⟨h2,i,h1,rfl,fun j hj=>by simpa using h3 j hj⟩
  exact .inr ⟨i,h1,rfl,by simp[this]⟩
theorem gU {r:XRecord}(h:r.fs.length≤maxLen)(n:List UInt8):ag Ph aC 190 [r.v,di n]=some (Sx (m8 r.fs n)):=by
 have e1:=t9 h n
 rcases OH r.fs n with⟨h1,h2⟩|⟨j,hj,h1,h2⟩<;>rw[h1]at e1<;>rw[h2]
 all_goals refine aa (fn:=lC) rfl ?_
 ·simp +contextual (maxSteps:=9999999) [lC,e1,cw]
 ·simp +contextual (maxSteps:=9999999) [lC,e1,cw,hj,XField.e.eq_1 r.fs[j]]
end Gi
