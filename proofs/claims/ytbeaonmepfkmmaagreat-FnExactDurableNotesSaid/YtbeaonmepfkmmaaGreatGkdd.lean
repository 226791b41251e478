/- Of this proof. -/
import Derived.Test.YtbeaonmepfkmmaaGreatGnAd
set_option linter.unusedSimpArgs false
set_option linter.unusedVariables false
namespace Gi
open Go Go.RowKit
set_option maxHeartbeats 4000000
set_option maxRecDepth 4000
attribute [local simp] start pa a9 b6 cP dS cO dR d5 dZ pR p5 pS p6 pT p7 pU p8 pV p9 pW qa pX qb pY qc pZ qd V.cells plain bf fO isInt isStr isBool bin bN gA bO gB dV un asList L.view av V.view viewL aR aw bS bq bE comp aK bv cL bK bj bh bi aB aq aH am az aW ap aY bH aI bm bo V.flat L.flat cX cN br putAt thaw thawL thawT V.ow dY cR cS bQ dX bR cQ freezeVs freezeLs freezeL V.mut L.mut aJ cy fQ aX bu aP dN co bG cJ L.ren aM dd bP dq bF bB wp_seq wp_block aV cV bT bt bU wp_skip wp_exit wp_ret ce b9 ct cf cF cG cE bJ aL L.notArr bA bw bz cT b8 storeD aT eS bc bZ aU mf L.mov L.closed V.closed PV.bare PV.flat
def rg (n a b:Int):Bool:= !(bX n a)&& !(bX b n)
theorem eR (n a b:Int):ah Ph aN 61 [aa .i64 n,aa .i64 a,aa .i64 b]=some (aD (rg n a b)):=by
 refine ae (fn:=oB) rfl ?_
 simp +contextual (maxSteps:=9999999) [oB,rg]
theorem fP (n a b:Int):ah Ph aN 58 [aa .i64 n,aa .i64 a,aa .i64 b]=some (aD (rg n a b)):=by
 refine ae (fn:=sE) rfl ?_
 simp +contextual (maxSteps:=9999999) [sE,rg]
def SE (a b:Int):Int:=if bX a b then-1 else if bX b a then 1 else 0
theorem tU (a b:Int):ah Ph aN 362 [aa .i64 a,aa .i64 b]=some (aa .i64 (SE a b)):=by
 refine ae (fn:=kO) rfl ?_
 simp +contextual (maxSteps:=9999999) [kO,SE]
theorem C9 (a b:Bool):ah Ph aN 359 [aD a,aD b]=some (aa .i64 (if a=true then-1 else if b=true then 1 else 0)):=by
 refine ae (fn:=pH) rfl ?_
 simp +contextual (maxSteps:=9999999) [pH]
def Pu (sl:Bool)(s:List UInt8)(k:Nat):Bool:=match s[k]? with
 |some b=>(bX b.toNat 97||bX 122 b.toNat)&& !(sl&&(b.toNat:Int)==47)
 |none=>false
def uX (s:List UInt8)(m:Int)(sl:Bool):Bool:= !(mj s.length (Pu sl s))&&rg s.length 1 m
abbrev gY (s:List UInt8):Bool:=uX s 8 false
theorem Ct {s:List UInt8}(h:s.length≤maxLen)(m:Int)(sl:Bool):ah Ph aN 213 [dv s,aa .i64 m,aD sl]=some (aD (uX s m sl)):=by
 refine ae (fn:=pF) rfl ?_
 simp +contextual (maxSteps:=9999999) [pF]
 refine bD cC Cl.fin [.t,.t,.t,.f,.f,.f,.f,.t,.f,.f,.f,.f,.f,.f,.f,.f,.f,.f,.f,.f,.f,.f,.f,.f,.f,.f,.f,.f,.f,.f,.f,.f,.f,.f,.f,.f,.f,.f] (fun k=>[(7,aa .i64 k)]) s.length (Pu sl s) rfl (by simp) (fun k hk _=> ?_) (fun _ hp=> ?_)
 ·simp +contextual (maxSteps:=9999999) [km,Pu,uX,hk,bW h hk,cB hk]
 ·simp +contextual (maxSteps:=9999999) [km,uX,hp,eR]
theorem iq {s:List UInt8}(h:s.length≤maxLen):ah Ph aN 178 [dv s]=some (aD (gY s)):=by
 refine ae (fn:=pD) rfl ?_
 simp[pD,Ct h]
theorem iu {s:List UInt8}(h:s.length≤maxLen):ah Ph aN 177 [dv s]=some (aD (gY s)):=by
 refine ae (fn:=pG) rfl ?_
 simp +contextual (maxSteps:=9999999) [pG]
 refine bD cC Cl.fin [.t,.f,.f,.t,.f,.f,.f,.f,.f,.f,.f,.f,.f,.f,.f,.f,.f,.f,.f,.f,.f,.f,.f] (fun k=>[(3,aa .i64 k)]) s.length (Pu false s) rfl (by simp) (fun k hk _=> ?_) (fun _ hp=> ?_)
 ·simp +contextual (maxSteps:=9999999) [ko,Pu,gY,uX,hk,bW h hk,cB hk]
 ·simp +contextual (maxSteps:=9999999) [ko,gY,uX,hp,fP]
def Pt (s:List UInt8)(k:Nat):Bool:=match s[k]? with
 |some b=>(bX b.toNat 97||bX 122 b.toNat)&&(bX b.toNat 48||bX 57 b.toNat)
 |none=>false
def sJ (s:List UInt8):Bool:= !(mj s.length (Pt s))&& !(bX 12 s.length)
theorem wx {s:List UInt8}(h:s.length≤maxLen):ah Ph aN 90 [dv s]=some (aD (sJ s)):=by
 refine ae (fn:=mE) rfl ?_
 simp +contextual (maxSteps:=9999999) [mE]
 refine bD cC Cl.fin [.t,.f,.f,.t,.f,.f,.f,.f,.f,.f,.f,.f,.f,.f,.f,.f,.f,.f,.f,.f,.f,.f,.f,.f,.f,.f,.f,.f,.f,.f,.f,.f,.f,.f,.f,.f] (fun k=>[(3,aa .i64 k)]) s.length (Pt s) rfl (by simp) (fun k hk _=> ?_) (fun _ hp=> ?_)
 ·simp +contextual (maxSteps:=9999999) [iG,Pt,sJ,hk,bW h hk,cB hk]
 ·simp +contextual (maxSteps:=9999999) [iG,sJ,hp]
theorem Da {s:List UInt8}(h:s.length≤maxLen):ah Ph aN 88 [dv s]=some (aD (sJ s)):=by
 refine ae (fn:=pI) rfl ?_
 simp +contextual (maxSteps:=9999999) [pI]
 refine bD cC Cl.fin [.t,.f,.f,.t,.f,.f,.f,.f,.f,.f,.f,.f,.f,.f,.f,.f,.f,.f,.f,.f,.f,.f,.f,.f,.f,.f,.f,.f,.f,.f,.f,.f,.f,.f,.f] (fun k=>[(3,aa .i64 k)]) s.length (Pt s) rfl (by simp) (fun k hk _=> ?_) (fun _ hp=> ?_)
 ·simp +contextual (maxSteps:=9999999) [kq,Pt,sJ,hk,bW h hk,cB hk]
 ·simp +contextual (maxSteps:=9999999) [kq,sJ,hp]
def eZ (a:XKey):Bool:=rg a.kind 1 3&&rg a.n (-1000000000000) 1000000000000&&(!(a.kind==2)||a.n==0)&&sJ a.text&&(!(a.kind==1)||a.text==[])
theorem fT {a:XKey}(h:a.Ok maxLen):ah Ph aN 67 [a.v]=some (aD (eZ a)):=by
 refine ae (fn:=rf) rfl ?_
 simp +contextual (maxSteps:=9999999) [rf,eR,wx h.2.2,eZ]<;>grind
theorem eu {a:XKey}(h:a.Ok maxLen):ah Ph aN 65 [a.v]=some (aD (eZ a)):=by
 refine ae (fn:=rj) rfl ?_
 simp +contextual (maxSteps:=9999999) [rj,fP,Da h.2.2,eZ]<;>grind
theorem Em (a b:List UInt8):ah Ph aN 363 [dv a,dv b]=some (aa .i64 (Lib.compareBytes a b)):=Nu rfl rfl
theorem gJ :∀(a b:List UInt8),Lib.compareBytes a b=if Op.bytesLess a b=true then-1 else if Op.bytesLess b a=true then 1 else 0
 |[],[]=>rfl
 |[],_::_=>rfl
 |_::_,[]=>rfl
 |a::xz,b::bs=>by
  have ih:=gJ xz bs
  simp only[Lib.compareBytes,Op.bytesLess,ih]
  by_cases h1:a<b
  ·simp[h1]
  ·by_cases h2:b<a
   ·have h3:¬a=b:=fun h=>by subst h;exact absurd h2 (UInt8.lt_irrefl _)
    simp[h1,h2,h3]
   ·obtain rfl:a=b:=UInt8.le_antisymm (UInt8.not_lt.1 h2) (UInt8.not_lt.1 h1)
    simp[UInt8.lt_irrefl]
def nS (a b:XKey):Int:=if eZ a=false∨eZ b=false then 0 else if a.kind≠b.kind then SE a.kind b.kind else if a.n≠b.n then SE a.n b.n else Lib.compareBytes a.text b.text
theorem eM {a b:XKey}(ha:a.Ok maxLen)(hb:b.Ok maxLen):ah Ph aN 355 [a.v,b.v]=some (aa .i64 (nS a b)):=by
 refine ae (fn:=kL) rfl ?_
 simp +contextual (maxSteps:=9999999) [kL,fT,tU,Em,ha,hb,nS]
 grind [SE,bX]
theorem eN {a b:XKey}(ha:a.Ok maxLen)(hb:b.Ok maxLen):ah Ph aN 351 [a.v,b.v]=some (aa .i64 (nS a b)):=by
 refine ae (fn:=kS) rfl ?_
 simp +contextual (maxSteps:=9999999) [kS,eu,C9,ha,hb,nS,gJ]
 grind [SE,bX]
def Kg (fs:List XField)(k:Nat):Bool:=match fs[k]?,fs[k-1]? with
 |some x,some y=> !(gY x.name)||(!(rg x.n 0 1000000000)||(bX 0 k&& !(Op.bytesLess y.name x.name)))
 |_,_=>false
def cI (fs:List XField):Bool:= !(mj fs.length (Kg fs))&& !(bX 6 fs.length)
theorem ir {r:XRecord}(h:r.Ok maxLen):ah Ph aN 246 [r.v]=some (aD (cI r.fs)):=by
 refine ae (fn:=nw) rfl ?_
 simp +contextual (maxSteps:=9999999) [nw]
 refine bD cC Cl.fin [.f,.t,.f,.f,.f,.f,.t,.t,.t,.f,.f,.f,.f,.f,.f,.f,.f,.f,.f,.f,.f,.f,.f,.f,.f,.f,.f,.f,.f,.f,.f,.f,.f,.f,.f,.f,.f,.f,.f,.f,.f,.f,.f,.f] (fun k=>[(8,aa .i64 k)]) r.fs.length (Kg r.fs) rfl (by simp) (fun k hk _=> ?_) (fun _ hp=> ?_)
 ·obtain⟨q1,q2⟩:=OC h.1 hk
  simp +contextual (maxSteps:=9999999) [je,Kg,cI,hk,q1,q2,bW h.1 hk,cB hk,XField.e.eq_1 r.fs[k],XField.e.eq_1 r.fs[k-1],iq (h.2 _ (List.getElem_mem hk)).1,eR]
 ·simp +contextual (maxSteps:=9999999) [je,cI,hp]
theorem fj {r:XRecord}(h:r.Ok maxLen):ah Ph aN 243 [r.v]=some (aD (cI r.fs)):=by
 refine ae (fn:=nD) rfl ?_
 simp +contextual (maxSteps:=9999999) [nD]
 refine bD cC Cl.fin [.f,.t,.f,.t,.f,.f,.f,.f,.f,.f,.f,.f,.f,.f,.f,.f,.f,.f,.f,.f,.f,.f,.f,.f,.f,.f,.f,.f,.f,.f,.f,.f,.f,.f,.f,.f,.f,.f,.f,.f,.f,.f,.f,.f,.f,.f,.f,.f,.f,.f,.f,.f,.f] (fun k=>[(3,aa .i64 k)]) r.fs.length (Kg r.fs) rfl (by simp) (fun k hk _=> ?_) (fun _ hp=> ?_)
 ·obtain⟨q1,q2⟩:=OC h.1 hk
  simp +contextual (maxSteps:=9999999) [jh,Kg,cI,hk,q1,q2,bW h.1 hk,cB hk,XField.e.eq_1 r.fs[k],XField.e.eq_1 r.fs[k-1],iu (h.2 _ (List.getElem_mem hk)).1,fP]
 ·simp +contextual (maxSteps:=9999999) [jh,cI,hp]
def dE {α:Type}(p:α→Bool)(xs:List α):Int:=match xs.findIdx? p with
 |some i=>(i:Int)
 |none=> -1
def nR {α:Type}(p:α→Bool)(xs:List α)(k:Nat):Bool:=match xs[k]? with
 |some x=>p x
 |none=>false
theorem yr {α:Type}{p:α→Bool}{xs:List α}{k:Nat}(hk:k<xs.length)(hj:∀j,j<k→nR p xs j=false)(h:p xs[k]=true):dE p xs=(k:Int):=by
 have:xs.findIdx? p=some k:=by
  rw[List.findIdx?_eq_some_iff_getElem]
  refine⟨hk,h,fun j hjk=> ?_⟩
  have h1:j<xs.length:=by omega
  have:=hj j hjk
  simpa[nR,h1]using this
 simp[dE,this]
theorem uR {α:Type}{p:α→Bool}{xs:List α}(hj:∀j,j<xs.length→nR p xs j=false):dE p xs= -1:=by
 have:xs.findIdx? p=none:=by
  rw[List.findIdx?_eq_none_iff]
  intro x hx
  obtain⟨j,h1,rfl⟩:=List.mem_iff_getElem.1 hx
  simpa[nR,h1]using hj j h1
 simp[dE,this]
theorem wa {α:Type}(p:α→Bool)(xs:List α):dE p xs= -1∨∃j,∃hj:j<xs.length,dE p xs=(j:Int)∧p xs[j]=true:=by
 unfold dE
 cases h:xs.findIdx? p with
 |none=>exact .inl rfl
 |some i=>
  rw[List.findIdx?_eq_some_iff_getElem]at h
  obtain⟨h1,h2,_⟩:=h
  exact .inr ⟨i,h1,rfl,h2⟩
def Uy (z:Nat):ACode:=(.seq (.region [⟨(some 9),(.bin .lss (.tmp 8) (.tmp 7)),none⟩]) (.seq (.cond (.tmp 9) .skip (.exit 0)) (.seq (.block 1 (.seq (.region [⟨(some 10),(.mv (.tmp 8)),none⟩,⟨(some 5),(.mv (.tmp 10)),none⟩]) (.seq (.region [⟨(some 11),(.mv (.tmp 1)),none⟩,⟨(some 12),(.mv (.tmp 0)),none⟩,⟨(some 13),(.mv (.tmp 5)),none⟩,⟨(some 14),(.indexA z (.tmp 12) (.tmp 13)),none⟩,⟨(some 15),(.load true z (.tmp 14)),none⟩,⟨(some 16),(.callV (.tmp 11) [(.tmp 15)]),none⟩]) (.cond (.tmp 16) (.seq (.region [⟨(some 17),(.mv (.tmp 5)),none⟩,⟨(some 4),(.mv (.tmp 17)),none⟩]) .ret) .skip)))) (.region [⟨(some 18),(.bin .add (.tmp 8) (.pv (.int .i64 1))),none⟩,⟨(some 8),(.mv (.tmp 18)),none⟩]))))
def UN (z:Nat):AFn:=⟨19,[(.tmp 4)],(.seq (.region [⟨(some 4),(.mv (.pv (.int .i64 0))),none⟩]) (.seq (.seq (.region [⟨(some 6),(.mv (.tmp 0)),none⟩,⟨(some 7),(.len (.tmp 6)),none⟩,⟨(some 8),(.mv (.pv (.int .i64 0))),none⟩]) (.block 0 (.loop (Uy z)))) (.seq (.region [⟨(some 4),(.mv (.pv (.int .i64 (-1)))),none⟩]) .ret)))⟩
theorem Gs {α:Type}{e:α→List PV}{p:α→Bool}{xs:List α}{k z kc:Nat}{caps:List (List PV)}(hk:Ph k=some (UN z))(hl:xs.length≤maxLen)(hz:∀x,(e x).length=z)(hp:∀x∈xs,ah Ph aN kc (.agg ((e x).map .pv)::caps.map su)=some (aD (p x))):ah Ph aN k [aQ (xs.map e), .one (.fn kc caps)]=some (aa .i64 (dE p xs)):=by
 refine ae hk ?_
 simp +contextual (maxSteps:=9999999) [UN]
 refine bD cC Cl.fin [.t,.t,.f,.f,.f,.f,.f,.t,.t,.f,.f,.f,.f,.f,.f,.f,.f,.f,.f] (fun k=>[(8,aa .i64 k)]) xs.length (nR p xs) rfl (by simp) (fun k hk hj=> ?_) (fun hj _=> ?_)
 ·have hc:=hp _ (List.getElem_mem hk)
  have ht:List.take z ((e xs[k]).map L.pv)=(e xs[k]).map L.pv:=List.take_of_length_le (by simp[hz])
  have hf:=yr hk hj
  simp +contextual (maxSteps:=9999999) [Uy,nR,hk,hz,ht,hc,hf,bW hl hk,cB hk,o8]
 ·simp +contextual (maxSteps:=9999999) [Uy,uR hj]
def KN (s t:List UInt8)(x:XBucket):Bool:=x.site==s&&x.top==t
theorem uV {bs:List XBucket}(h:bs.length≤maxLen)(s t:List UInt8):ah Ph aN 175 [.agg [.pv (.lst (bs.map XBucket.e))],dv s,dv t]=some (aa .i64 (dE (KN s t) bs)):=by
 have e1:=Gs (e:=XBucket.e) (p:=KN s t) (xs:=bs) (k:=209) (z:=24) (kc:=210) (caps:=[[.str s],[.str t]]) rfl h (fun _=>rfl) (fun x _=>by
  refine ae (fn:=j4) rfl ?_
  simp +contextual (maxSteps:=9999999) [j4,XBucket.e.eq_1,su,KN])
 refine ae (fn:=ly) rfl ?_
 simp +contextual (maxSteps:=9999999) [ly,kH,pn,e1]
theorem vo {bs:List XBucket}(h:bs.length≤maxLen)(s t:List UInt8):ah Ph aN 145 [.agg [.pv (.lst (bs.map XBucket.e))],dv s,dv t]=some (aa .i64 (dE (KN s t) bs)):=by
 refine ae (fn:=lD) rfl ?_
 simp +contextual (maxSteps:=9999999) [lD]
 refine bD cC Cl.fin [.f,.t,.t,.t,.f,.f,.f,.t,.f,.f,.f,.f,.f,.f,.f,.f,.f,.f,.f,.f,.f,.f,.f,.f,.f,.f,.f,.f,.f,.f,.f,.f,.f,.f] (fun k=>[(7,aa .i64 k)]) bs.length (nR (KN s t) bs) rfl (by simp) (fun k hk hj=> ?_) (fun hj _=> ?_)
 ·have hf:=yr hk hj
  simp +contextual (maxSteps:=9999999) [hX,nR,KN,hk,hf,bW h hk,cB hk,XBucket.e.eq_1 bs[k]]
 ·simp +contextual (maxSteps:=9999999) [hX,uR hj]
set_option maxHeartbeats 8000000
def DD (xs:List XItem)(k:Nat):Bool:=match xs[k]?,xs[k-1]? with
 |some x,some y=> !(eZ x.key)||(!(cI x.rcd.fs)||(bX 0 k&& !(bX (nS y.key x.key) 0)))
 |_,_=>false
def d7 (s:XStore):Bool:= !(mj s.items.length (DD s.items))&&(gY s.name&&(!(bX 16 s.items.length)&&rg s.auto 0 1000000))
theorem iS {s:XStore}(h:s.Ok maxLen):ah Ph aN 354 [s.v]=some (aD (d7 s)):=by
 refine ae (fn:=oD) rfl ?_
 simp +contextual (maxSteps:=9999999) [oD]
 refine bD cC Cl.fin [.f,.t,.f,.f,.f,.f,.t,.t,.t,.f,.f,.f,.f,.f,.f,.f,.f,.f,.f,.f,.f,.f,.f,.f,.f,.f,.f,.f,.f,.f,.f,.f,.f,.f,.f,.f,.f,.f,.f,.f,.f,.f,.f,.f,.f,.f,.f,.f,.f,.f,.f,.f,.f,.f,.f] (fun k=>[(8,aa .i64 k)]) s.items.length (DD s.items) rfl (by simp) (fun k hk _=> ?_) (fun _ hp=> ?_)
 ·obtain⟨q1,q2⟩:=OC h.2.1.1 hk
  obtain⟨h1,h2⟩:=h.2.1.2 _ (List.getElem_mem hk)
  have h3:=(h.2.1.2 _ (List.getElem_mem q2)).1
  have e1:=ir h2
  have e2:=eM h3 h1
  simp +contextual (maxSteps:=9999999) [jI,DD,d7,hk,q1,q2,bW h.2.1.1 hk,cB hk,XItem.e.eq_1 s.items[k],XItem.e.eq_1 s.items[k-1],fT h1,e1,e2]
 ·simp +contextual (maxSteps:=9999999) [jI,d7,hp,iq h.1,eR]
theorem nI {s:XStore}(h:s.Ok maxLen):ah Ph aN 350 [s.v]=some (aD (d7 s)):=by
 refine ae (fn:=oH) rfl ?_
 simp +contextual (maxSteps:=9999999) [oH]
 refine bD cC Cl.fin [.f,.t,.f,.t,.f,.f,.f,.f,.f,.f,.f,.f,.f,.f,.f,.f,.f,.f,.f,.f,.f,.f,.f,.f,.f,.f,.f,.f,.f,.f,.f,.f,.f,.f,.f,.f,.f,.f,.f,.f,.f,.f,.f,.f,.f,.f,.f,.f,.f,.f,.f,.f,.f,.f,.f,.f,.f,.f,.f,.f,.f,.f,.f,.f] (fun k=>[(3,aa .i64 k)]) s.items.length (DD s.items) rfl (by simp) (fun k hk _=> ?_) (fun _ hp=> ?_)
 ·obtain⟨q1,q2⟩:=OC h.2.1.1 hk
  obtain⟨h1,h2⟩:=h.2.1.2 _ (List.getElem_mem hk)
  have h3:=(h.2.1.2 _ (List.getElem_mem q2)).1
  have e1:=fj h2
  have e2:=eN h3 h1
  simp +contextual (maxSteps:=9999999) [jJ,DD,d7,hk,q1,q2,bW h.2.1.1 hk,cB hk,XItem.e.eq_1 s.items[k],XItem.e.eq_1 s.items[k-1],eu h1,e1,e2]
 ·simp +contextual (maxSteps:=9999999) [jJ,d7,hp,iu h.1,fP]
structure XRange where
 hasLow:Bool
 hasHigh:Bool
 low:XKey
 high:XKey
abbrev XRange.v (r:XRange):V:= .agg [.pv (.bool r.hasLow), .pv (.bool r.hasHigh), .pv (.int .i64 r.low.kind), .pv (.int .i64 r.low.n), .pv (.str r.low.text), .pv (.int .i64 r.high.kind), .pv (.int .i64 r.high.n), .pv (.str r.high.text)]
def XRange.Ok (r:XRange):Prop:=r.low.Ok maxLen∧r.high.Ok maxLen
def IP (k:XKey)(r:XRange):Bool:=eZ k&&((!r.hasLow||eZ r.low)&&((!r.hasHigh||eZ r.high)&&(!(r.hasLow&&bX (nS k r.low) 0)&& !(r.hasHigh&&bX 0 (nS k r.high)))))
theorem xq (a b:List UInt8):Lib.compareBytes b a= -Lib.compareBytes a b:=by
 rw[gJ a b,gJ b a]
 have h1:=oM a b
 cases h2:Op.bytesLess a b<;>cases h3:Op.bytesLess b a<;>simp[h2,h3]at h1⊢
theorem H5 (a b:XKey):nS b a= -nS a b:=by
 unfold nS
 rw[xq a.text b.text]
 grind [SE,bX]
theorem NB (a b:XKey):bX 0 (nS a b)=bX (nS b a) 0:=by
 rw[H5 a b];unfold bX;simp only[decide_eq_decide];omega
theorem wv {k:XKey}{r:XRange}(h:k.Ok maxLen)(hr:r.Ok):ah Ph aN 609 [k.v,r.v]=some (aD (IP k r)):=by
 have e1:=eM h hr.1
 have e2:=eM h hr.2
 have e3:=fT h
 have e4:=fT hr.1
 have e5:=fT hr.2
 unfold IP
 obtain⟨hl,hh,lo,hi⟩:=r
 simp only at e1 e2 e4 e5⊢
 refine ae (fn:=mA) rfl ?_
 cases hl<;>cases hh<;>simp +contextual (maxSteps:=9999999) [mA,e1,e2,e3,e4,e5]
theorem wW {k:XKey}{r:XRange}(h:k.Ok maxLen)(hr:r.Ok):ah Ph aN 606 [k.v,r.v]=some (aD (IP k r)):=by
 have e1:=eN hr.1 h
 have q1:=NB r.low k
 have e2:=eN h hr.2
 have e3:=eu h
 have e4:=eu hr.1
 have e5:=eu hr.2
 unfold IP
 obtain⟨hl,hh,lo,hi⟩:=r
 simp only at e1 e2 e4 e5 q1⊢
 refine ae (fn:=mI) rfl ?_
 cases hl<;>cases hh<;>simp +contextual (maxSteps:=9999999) [mI,e1,e2,e3,e4,e5,q1]
def Gr (n:List UInt8)(x:XStore):Bool:=x.name==n
theorem lK {d:XDatabase}(h:d.stores.length≤maxLen)(n:List UInt8):ah Ph aN 404 [d.v,dv n]=some (aa .i64 (dE (Gr n) d.stores)):=by
 have e1:=Gs (e:=XStore.e) (p:=Gr n) (xs:=d.stores) (k:=410) (z:=3) (kc:=411) (caps:=[[.str n]]) rfl h (fun _=>rfl) (fun x _=>by
  refine ae (fn:=kM) rfl ?_
  simp +contextual (maxSteps:=9999999) [kM,XStore.e.eq_1,su,Gr])
 refine ae (fn:=mz) rfl ?_
 simp +contextual (maxSteps:=9999999) [mz,kH,pn,e1]
theorem lS {d:XDatabase}(h:d.stores.length≤maxLen)(n:List UInt8):ah Ph aN 400 [d.v,dv n]=some (aa .i64 (dE (Gr n) d.stores)):=by
 refine ae (fn:=mH) rfl ?_
 simp +contextual (maxSteps:=9999999) [mH]
 refine bD cC Cl.fin [.f,.t,.t,.f,.f,.t,.f,.f,.f,.f,.f,.f,.f,.f,.f,.f,.f,.f,.f,.f,.f,.f] (fun k=>[(5,aa .i64 k)]) d.stores.length (nR (Gr n) d.stores) rfl (by simp) (fun k hk hj=> ?_) (fun hj _=> ?_)
 ·have hf:=yr hk hj
  simp +contextual (maxSteps:=9999999) [iJ,nR,Gr,hk,hf,bW h hk,cB hk,XStore.e.eq_1 d.stores[k]]
 ·simp +contextual (maxSteps:=9999999) [iJ,uR hj]
def pd (q:XKey)(x:XItem):Bool:=x.key.kind==q.kind&&(x.key.n==q.n&&x.key.text==q.text)
theorem mK {s:XStore}(h:s.items.length≤maxLen)(q:XKey):ah Ph aN 188 [s.v,q.v]=some (aa .i64 (dE (pd q) s.items)):=by
 have e1:=Gs (e:=XItem.e) (p:=pd q) (xs:=s.items) (k:=215) (z:=4) (kc:=216) (caps:=[[.int .i64 q.kind, .int .i64 q.n, .str q.text]]) rfl h (fun _=>rfl) (fun x _=>by
  refine ae (fn:=lA) rfl ?_
  simp +contextual (maxSteps:=9999999) [lA,XItem.e.eq_1,su,pd,nV,L6])
 refine ae (fn:=nu) rfl ?_
 simp +contextual (maxSteps:=9999999) [nu,kH,pn,e1]
theorem jQ {s:XStore}(h:s.items.length≤maxLen)(q:XKey):ah Ph aN 184 [s.v,q.v]=some (aa .i64 (dE (pd q) s.items)):=by
 refine ae (fn:=nB) rfl ?_
 simp +contextual (maxSteps:=9999999) [nB]
 refine bD cC Cl.fin [.f,.f,.t,.t,.f,.t,.f,.f,.f,.f,.f,.f,.f,.f,.f,.f,.f,.f,.f,.f,.f,.f] (fun k=>[(5,aa .i64 k)]) s.items.length (nR (pd q) s.items) rfl (by simp) (fun k hk hj=> ?_) (fun hj _=> ?_)
 ·have hf:=yr hk hj
  simp +contextual (maxSteps:=9999999) [jf,nR,pd,hk,hf,bW h hk,cB hk,XItem.e.eq_1 s.items[k],nV,L6]
 ·simp +contextual (maxSteps:=9999999) [jf,uR hj]
def isF (n:List UInt8)(x:XField):Bool:=x.name==n
def lI (fs:List XField)(n:List UInt8):Int×Bool:=match fs.find? (isF n)with
 |some x=>(x.n,true)
 |none=>(0,false)
theorem S6 {fs:List XField}{n:List UInt8}{k:Nat}(hk:k<fs.length)(hj:∀j,j<k→nR (isF n) fs j=false)(h:isF n fs[k]=true):lI fs n=(fs[k].n,true):=by
 have:fs.find? (isF n)=some fs[k]:=by
  rw[List.find?_eq_some_iff_getElem]
  refine⟨h,k,hk,rfl,fun j hjk=> ?_⟩
  have h1:j<fs.length:=by omega
  have:=hj j hjk
  simpa[nR,h1]using this
 simp[lI,this]
theorem S5 {fs:List XField}{n:List UInt8}(hj:∀j,j<fs.length→nR (isF n) fs j=false):lI fs n=(0,false):=by
 have:fs.find? (isF n)=none:=by
  rw[List.find?_eq_none]
  intro x hx
  obtain⟨j,h1,rfl⟩:=List.mem_iff_getElem.1 hx
  have:=hj j h1
  simpa[nR,h1]using this
 simp[lI,this]
abbrev Se (x:Int×Bool):V:= .tup [(false,[.pv (.int .i64 x.1)]),(false,[.pv (.bool x.2)])]
theorem r7 {r:XRecord}(h:r.fs.length≤maxLen)(n:List UInt8):ah Ph aN 217 [r.v,dv n]=some (aa .i64 (dE (isF n) r.fs)):=by
 have e1:=Gs (e:=XField.e) (p:=isF n) (xs:=r.fs) (k:=240) (z:=2) (kc:=241) (caps:=[[.str n]]) rfl h (fun _=>rfl) (fun x _=>by
  refine ae (fn:=mD) rfl ?_
  simp +contextual (maxSteps:=9999999) [mD,XField.e.eq_1,su,isF])
 refine ae (fn:=oF) rfl ?_
 simp +contextual (maxSteps:=9999999) [oF,kH,pn,e1]
theorem gh {r:XRecord}(h:r.fs.length≤maxLen)(n:List UInt8):ah Ph aN 186 [r.v,dv n]=some (Se (lI r.fs n)):=by
 refine ae (fn:=nC) rfl ?_
 simp +contextual (maxSteps:=9999999) [nC]
 refine bD cC Cl.fin [.f,.t,.t,.f,.f,.f,.t,.f,.f,.f,.f,.f,.f,.f,.f,.f,.f,.f,.f,.f,.f,.f,.f,.f,.f,.f,.f,.f] (fun k=>[(6,aa .i64 k)]) r.fs.length (nR (isF n) r.fs) rfl (by simp) (fun k hk hj=> ?_) (fun hj _=> ?_)
 ·have hf:=S6 hk hj
  simp +contextual (maxSteps:=9999999) [jg,nR,isF,hk,hf,bW h hk,cB hk,XField.e.eq_1 r.fs[k]]
 ·simp +contextual (maxSteps:=9999999) [jg,S5 hj]
theorem N5 (fs:List XField)(n:List UInt8):(dE (isF n) fs= -1∧lI fs n=(0,false))∨∃j,∃hj:j<fs.length,dE (isF n) fs=(j:Int)∧lI fs n=(fs[j].n,true):=by
 unfold dE lI
 cases h:fs.findIdx? (isF n)with
 |none=>
  have:fs.find? (isF n)=none:=by rw[List.findIdx?_eq_none_iff]at h;rw[List.find?_eq_none];exact fun x hx=>by simp[h x hx]
  simp[this]
 |some i=>
  rw[List.findIdx?_eq_some_iff_getElem]at h
  obtain⟨h1,h2,h3⟩:=h
  have:fs.find? (isF n)=some fs[i]:=by
   rw[List.find?_eq_some_iff_getElem]
   exact⟨h2,i,h1,rfl,fun j hj=>by simpa using h3 j hj⟩
  exact .inr ⟨i,h1,rfl,by simp[this]⟩
theorem f8 {r:XRecord}(h:r.fs.length≤maxLen)(n:List UInt8):ah Ph aN 190 [r.v,dv n]=some (Se (lI r.fs n)):=by
 have e1:=r7 h n
 rcases N5 r.fs n with⟨h1,h2⟩|⟨j,hj,h1,h2⟩<;>rw[h1]at e1<;>rw[h2]
 all_goals refine ae (fn:=ku) rfl ?_
 ·simp +contextual (maxSteps:=9999999) [ku,e1,bX]
 ·simp +contextual (maxSteps:=9999999) [ku,e1,bX,hj,XField.e.eq_1 r.fs[j]]
end Gi
