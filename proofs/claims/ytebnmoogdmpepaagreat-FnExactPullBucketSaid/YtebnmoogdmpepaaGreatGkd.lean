/- Of this proof. -/
import Derived.Test.YtebnmoogdmpepaaGreatGzc
set_option linter.unusedSimpArgs false
set_option linter.unusedVariables false
namespace Gi
open Go Go.RowKit
set_option maxHeartbeats 8000000
set_option maxRecDepth 8000
attribute [local simp] start f9 aw ah aJ bf bJ cI Opd.ev put V.cells plain bA fR isInt isStr isBool bin cK un asList L.view aj V.view viewL aW am cF bS comp aQ bI ai V.flat L.flat db da bB putAt freezeVs freezeLs freezeL V.mut L.mut lent AObj.unz L.unsub sN wu k9 vo mG zM PV.bare PV.flat kV dV thaw thawL AObj.zone ji xb Hm ic sa Rh Vm Ri MS.ts iA ib io fC il
def ln (z:Nat):List (List PV)→L
 |[]=> .pv (.lst [])
 |r::rs=> .down z (r::rs)
def oz (z:Nat)(rows rows':List (List PV)):List (Bool×List L):=match rows with
 |[]=>[]
 |_::_=>[(false,[.down z rows'])]
theorem Ie (z:Nat)(c:List (List PV)):(c=[]∧nd z c= .nil∧ln z c= .pv (.lst [])∧(∀r,oz z c r=[])∧nK z c= .nil)∨(c≠[]∧nd z c= .down z c∧ln z c= .down z c∧(∀r,oz z c r=[(false,[.down z r])])∧nK z c= .own z c):=by
 cases c with
 |nil=>exact .inl ⟨rfl,rfl,rfl,fun _=>rfl,rfl⟩
 |cons r rs=>exact .inr ⟨by simp,rfl,rfl,fun _=>rfl,rfl⟩
def qs (c3 c4 c6 c7 c8 c9:List (List PV))(k:Int):List (List (List PV)×Int):=
 let q3:=cN az c3 k
 let q4:=cN az c4 q3.2
 let q6:=cN az c6 q4.2
 let q7:=cN az c7 q6.2
 let q8:=cN az c8 q7.2
 let q9:=cN az c9 q8.2
 [q3,q4,q6,q7,q8,q9]
theorem Du (k:Int):ag Ph aM (426+jX) [.agg [.pv (.lst [])],aa .i64 k]=some (.tup [(false,[.pv (.int .i64 k)])]):=by
 have c:=(vq (ext:=aM)).1 k
 refine uU (fn:=mq) rfl rfl rfl ?_
 simp[mq,c]
theorem Wl {c0 c2 c5:Int}{on:Bool}{c3 c4 c6 c7 c8 c9:List (List PV)}(h:bM fE [.int .i64 c0, .bool on, .int .i64 c2, .lst c3, .lst c4, .int .i64 c5, .lst c6, .lst c7, .lst c8, .lst c9]){k:Int}(k0:0≤k)(hk:(cN az c9 (cN az c8 (cN az c7 (cN az c6 (cN az c4 (cN az c3 k).2).2).2).2).2).2≤xk):
 ag Ph aM (420+jX) [.agg [.pv (.int .i64 c0), .pv (.bool on), .pv (.int .i64 c2),ln 24 c3, .down 11 c4, .pv (.int .i64 c5), .down 4 c6, .down 3 c7,ln 4 c8,ln 5 c9],aa .i64 k]=some (.tup ((false,[.pv (.int .i64 (cN az c9 (cN az c8 (cN az c7 (cN az c6 (cN az c4 (cN az c3 k).2).2).2).2).2).2)])::(oz 24 c3 (cN az c3 k).1++((false,[.down 11 (cN az c4 (cN az c3 k).2).1])::(false,[.down 4 (cN az c6 (cN az c4 (cN az c3 k).2).2).1])::(false,[.down 3 (cN az c7 (cN az c6 (cN az c4 (cN az c3 k).2).2).2).1])::(oz 4 c8 (cN az c8 (cN az c7 (cN az c6 (cN az c4 (cN az c3 k).2).2).2).2).1++oz 5 c9 (cN az c9 (cN az c8 (cN az c7 (cN az c6 (cN az c4 (cN az c3 k).2).2).2).2).2).1))))):=by
 simp only[fE,bM]at h
 obtain⟨_,_,_,g3,g4,_,g6,g7,g8,g9,_⟩:=h
 have l3:=pq (mT:=az) c3 k
 have l4:=pq (mT:=az) c4 (cN az c3 k).2
 have l6:=pq (mT:=az) c6 (cN az c4 (cN az c3 k).2).2
 have l7:=pq (mT:=az) c7 (cN az c6 (cN az c4 (cN az c3 k).2).2).2
 have l8:=pq (mT:=az) c8 (cN az c7 (cN az c6 (cN az c4 (cN az c3 k).2).2).2).2
 have l9:=pq (mT:=az) c9 (cN az c8 (cN az c7 (cN az c6 (cN az c4 (cN az c3 k).2).2).2).2).2
 have s3:ag Ph aM (426+jX) [.agg [ln 24 c3],aa .i64 k]=some (.tup ((false,[.pv (.int .i64 (cN az c3 k).2)])::oz 24 c3 (cN az c3 k).1)):=by
  cases c3 with
  |nil=>exact Du k
  |cons r rs=>exact vu (ext:=aM) [.lst (r::rs)] ⟨g3,trivial⟩ k k0 (by show(cN az (r::rs) k).2≤xk;omega)
 have s4:ag Ph aM (427+jX) [.one (.down 11 c4),aa .i64 (cN az c3 k).2]=some (.tup [(false,[.pv (.int .i64 (cN az c4 (cN az c3 k).2).2)]),(false,[.down 11 (cN az c4 (cN az c3 k).2).1])]):=(zR (ext:=aM)).2 c4 g4 _ (by omega) (by omega)
 have s6:ag Ph aM (428+jX) [.agg [.down 4 c6],aa .i64 (cN az c4 (cN az c3 k).2).2]=some (.tup [(false,[.pv (.int .i64 (cN az c6 (cN az c4 (cN az c3 k).2).2).2)]),(false,[.down 4 (cN az c6 (cN az c4 (cN az c3 k).2).2).1])]):=tq (ext:=aM) [.lst c6] ⟨g6,trivial⟩ _ (by omega) (by show(cN az c6 _).2≤xk;omega)
 have s7:ag Ph aM (429+jX) [.agg [.down 3 c7],aa .i64 (cN az c6 (cN az c4 (cN az c3 k).2).2).2]=some (.tup [(false,[.pv (.int .i64 (cN az c7 (cN az c6 (cN az c4 (cN az c3 k).2).2).2).2)]),(false,[.down 3 (cN az c7 (cN az c6 (cN az c4 (cN az c3 k).2).2).2).1])]):=vt (ext:=aM) [.lst c7] ⟨g7,trivial⟩ _ (by omega) (by show(cN az c7 _).2≤xk;omega)
 have s8:ag Ph aM (430+jX) [.one (ln 4 c8),aa .i64 (cN az c7 (cN az c6 (cN az c4 (cN az c3 k).2).2).2).2]=some (.tup ((false,[.pv (.int .i64 (cN az c8 (cN az c7 (cN az c6 (cN az c4 (cN az c3 k).2).2).2).2).2)])::oz 4 c8 (cN az c8 (cN az c7 (cN az c6 (cN az c4 (cN az c3 k).2).2).2).2).1)):=by
  cases c8 with
  |nil=>exact(uj (ext:=aM)).1 _
  |cons r rs=>exact(uj (ext:=aM)).2 (r::rs) g8 _ (by omega) (by omega)
 have s9:ag Ph aM (431+jX) [.one (ln 5 c9),aa .i64 (cN az c8 (cN az c7 (cN az c6 (cN az c4 (cN az c3 k).2).2).2).2).2]=some (.tup ((false,[.pv (.int .i64 (cN az c9 (cN az c8 (cN az c7 (cN az c6 (cN az c4 (cN az c3 k).2).2).2).2).2).2)])::oz 5 c9 (cN az c9 (cN az c8 (cN az c7 (cN az c6 (cN az c4 (cN az c3 k).2).2).2).2).2).1)):=by
  cases c9 with
  |nil=>exact(qU (ext:=aM)).1 _
  |cons r rs=>exact(qU (ext:=aM)).2 (r::rs) g9 _ (by omega) (by omega)
 clear hk k0 g3 g4 g6 g7 g8 g9 l3 l4 l6 l7 l8 l9
 generalize cN az c3 k=q3 at s3 s4 s6 s7 s8 s9⊢
 generalize cN az c4 q3.2=q4 at s4 s6 s7 s8 s9⊢
 generalize cN az c6 q4.2=q6 at s6 s7 s8 s9⊢
 generalize cN az c7 q6.2=q7 at s7 s8 s9⊢
 generalize cN az c8 q7.2=q8 at s8 s9⊢
 generalize cN az c9 q8.2=q9 at s9⊢
 rcases Ie 24 c3 with⟨_,_,u3,v3,_⟩|⟨_,_,u3,v3,_⟩<;>rcases Ie 4 c8 with⟨_,_,u8,v8,_⟩|⟨_,_,u8,v8,_⟩<;>rcases Ie 5 c9 with⟨_,_,u9,v9,_⟩|⟨_,_,u9,v9,_⟩<;>simp only[u3,v3,u8,v8,u9,v9]at s3 s8 s9⊢ <;>(refine uU (fn:=n9) rfl rfl rfl ?_;simp[n9,s3,s4,s6,s7,s8,s9])
def WR (c0:Int)(c1:Bool)(c2:Int)(c3 c4:List (List PV))(c5:Int)(c6 c7 c8 c9:List (List PV)):List PV:=[.int .i64 c0, .bool c1, .int .i64 c2, .lst c3, .lst c4, .int .i64 c5, .lst c6, .lst c7, .lst c8, .lst c9]
def WP (c0:Int)(c1:Bool)(c2:Int)(c3 c4:List (List PV))(c5:Int)(c6 c7 c8 c9:List (List PV)):List L:=[.pv (.int .i64 c0), .pv (.bool c1), .pv (.int .i64 c2), .pv (.lst c3), .pv (.lst c4), .pv (.int .i64 c5), .pv (.lst c6), .pv (.lst c7), .pv (.lst c8), .pv (.lst c9)]
theorem TH (k:Int):cN az [] k=([],k):=rfl
end Gi
namespace Gi
open Go Go.RowKit
set_option maxHeartbeats 4000000
set_option maxRecDepth 4000
attribute [local simp] start oH bJ cI cS ed cR dZ eu ep pz pI pA pJ pB pK pC pL pD pM pE pO pF pP pG pQ pH pR V.cells plain bA fR isInt isStr isBool bin bY gj bZ gl ee un asList L.view aj V.view viewL aW am ce bD bS comp aQ bI cH bP bq bo bp aC aq aY al aB aI au bi bF aE br bt V.flat L.flat db da bB putAt thaw thawL thawT V.ow ej cV cW ca eh cd cU freezeVs freezeLs freezeL V.mut L.mut aH dE fK aZ bC aN dv bR bj bV L.ren aP dg bW dq bU bH wp_seq wp_block bg cZ cf bE cj wp_skip wp_exit wp_ret ct cr cz cu cC cD cB bO aF L.notArr aU aS aT cY bz storeD bc eP bu co ba k8 L.mov L.closed V.closed PV.bare PV.flat
def rg (n a b:Int):Bool:= !(cT n a)&& !(cT b n)
theorem bL (n a b:Int):ag Ph aM 61 [aa .i64 n,aa .i64 a,aa .i64 b]=some (aA (rg n a b)):=by
 refine ae (fn:=qk) rfl ?_
 simp +contextual (maxSteps:=9999999) [qk,rg]
theorem cq (n a b:Int):ag Ph aM 58 [aa .i64 n,aa .i64 a,aa .i64 b]=some (aA (rg n a b)):=by
 refine ae (fn:=u0) rfl ?_
 simp +contextual (maxSteps:=9999999) [u0,rg]
def Ui (a b:Int):Int:=if cT a b then-1 else if cT b a then 1 else 0
theorem wJ (a b:Int):ag Ph aM 362 [aa .i64 a,aa .i64 b]=some (aa .i64 (Ui a b)):=by
 refine ae (fn:=mi) rfl ?_
 simp +contextual (maxSteps:=9999999) [mi,Ui]
theorem Gd (a b:Bool):ag Ph aM 359 [aA a,aA b]=some (aa .i64 (if a=true then-1 else if b=true then 1 else 0)):=by
 refine ae (fn:=sA) rfl ?_
 simp +contextual (maxSteps:=9999999) [sA]
def MZ (sl:Bool)(s:List UInt8)(k:Nat):Bool:=match s[k]? with
 |some b=>(cT b.toNat 97||cT 122 b.toNat)&& !(sl&&(b.toNat:Int)==47)
 |none=>false
def sL (s:List UInt8)(m:Int)(sl:Bool):Bool:= !(gD s.length (MZ sl s))&&rg s.length 1 m
abbrev dB (s:List UInt8):Bool:=sL s 8 false
theorem vm {s:List UInt8}(h:s.length≤maxLen)(m:Int)(sl:Bool):ag Ph aM 213 [eB s,aa .i64 m,aA sl]=some (aA (sL s m sl)):=by
 refine ae (fn:=so) rfl ?_
 simp +contextual (maxSteps:=9999999) [so]
 refine aG bm Cl.fin [.t,.t,.t,.f,.f,.f,.f,.t,.f,.f,.f,.f,.f,.f,.f,.f,.f,.f,.f,.f,.f,.f,.f,.f,.f,.f,.f,.f,.f,.f,.f,.f,.f,.f,.f,.f,.f,.f] (fun k=>[(7,aa .i64 k)]) s.length (MZ sl s) rfl (by simp) (fun k hk _=> ?_) (fun _ hp=> ?_)
 ·simp +contextual (maxSteps:=9999999) [lM,MZ,sL,hk,aR h hk,bd hk]
 ·simp +contextual (maxSteps:=9999999) [lM,sL,hp,bL]
theorem bX {s:List UInt8}(h:s.length≤maxLen):ag Ph aM 178 [eB s]=some (aA (dB s)):=by
 refine ae (fn:=sj) rfl ?_
 simp[sj,vm h]
theorem du {s:List UInt8}(h:s.length≤maxLen):ag Ph aM 177 [eB s]=some (aA (dB s)):=by
 refine ae (fn:=su) rfl ?_
 simp +contextual (maxSteps:=9999999) [su]
 refine aG bm Cl.fin [.t,.f,.f,.t,.f,.f,.f,.f,.f,.f,.f,.f,.f,.f,.f,.f,.f,.f,.f,.f,.f,.f,.f] (fun k=>[(3,aa .i64 k)]) s.length (MZ false s) rfl (by simp) (fun k hk _=> ?_) (fun _ hp=> ?_)
 ·simp +contextual (maxSteps:=9999999) [lN,MZ,dB,sL,hk,aR h hk,bd hk]
 ·simp +contextual (maxSteps:=9999999) [lN,dB,sL,hp,cq]
def Ry (s:List UInt8)(k:Nat):Bool:=match s[k]? with
 |some b=>(cT b.toNat 97||cT 122 b.toNat)&&(cT b.toNat 48||cT 57 b.toNat)
 |none=>false
def vn (s:List UInt8):Bool:= !(gD s.length (Ry s))&& !(cT 12 s.length)
theorem zI {s:List UInt8}(h:s.length≤maxLen):ag Ph aM 90 [eB s]=some (aA (vn s)):=by
 refine ae (fn:=n8) rfl ?_
 simp +contextual (maxSteps:=9999999) [n8]
 refine aG bm Cl.fin [.t,.f,.f,.t,.f,.f,.f,.f,.f,.f,.f,.f,.f,.f,.f,.f,.f,.f,.f,.f,.f,.f,.f,.f,.f,.f,.f,.f,.f,.f,.f,.f,.f,.f,.f,.f] (fun k=>[(3,aa .i64 k)]) s.length (Ry s) rfl (by simp) (fun k hk _=> ?_) (fun _ hp=> ?_)
 ·simp +contextual (maxSteps:=9999999) [js,Ry,vn,hk,aR h hk,bd hk]
 ·simp +contextual (maxSteps:=9999999) [js,vn,hp]
theorem Ge {s:List UInt8}(h:s.length≤maxLen):ag Ph aM 88 [eB s]=some (aA (vn s)):=by
 refine ae (fn:=sB) rfl ?_
 simp +contextual (maxSteps:=9999999) [sB]
 refine aG bm Cl.fin [.t,.f,.f,.t,.f,.f,.f,.f,.f,.f,.f,.f,.f,.f,.f,.f,.f,.f,.f,.f,.f,.f,.f,.f,.f,.f,.f,.f,.f,.f,.f,.f,.f,.f,.f] (fun k=>[(3,aa .i64 k)]) s.length (Ry s) rfl (by simp) (fun k hk _=> ?_) (fun _ hp=> ?_)
 ·simp +contextual (maxSteps:=9999999) [lQ,Ry,vn,hk,aR h hk,bd hk]
 ·simp +contextual (maxSteps:=9999999) [lQ,vn,hp]
def kD (a:XKey):Bool:=rg a.kind 1 3&&rg a.n (-1000000000000) 1000000000000&&(!(a.kind==2)||a.n==0)&&vn a.text&&(!(a.kind==1)||a.text==[])
theorem lD {a:XKey}(h:a.Ok maxLen):ag Ph aM 67 [a.v]=some (aA (kD a)):=by
 refine ae (fn:=tW) rfl ?_
 simp +contextual (maxSteps:=9999999) [tW,bL,zI h.2.2,kD]<;>grind
theorem lF {a:XKey}(h:a.Ok maxLen):ag Ph aM 65 [a.v]=some (aA (kD a)):=by
 refine ae (fn:=tX) rfl ?_
 simp +contextual (maxSteps:=9999999) [tX,cq,Ge h.2.2,kD]<;>grind
theorem Hz (a b:List UInt8):ag Ph aM 363 [eB a,eB b]=some (aa .i64 (Lib.compareBytes a b)):=PL rfl rfl
theorem iw :∀(a b:List UInt8),Lib.compareBytes a b=if Op.bytesLess a b=true then-1 else if Op.bytesLess b a=true then 1 else 0
 |[],[]=>rfl
 |[],_::_=>rfl
 |_::_,[]=>rfl
 |a::xz,b::bs=>by
  have ih:=iw xz bs
  simp only[Lib.compareBytes,Op.bytesLess,ih]
  by_cases h1:a<b
  ·simp[h1]
  ·by_cases h2:b<a
   ·have h3:¬a=b:=fun h=>by subst h;exact absurd h2 (UInt8.lt_irrefl _)
    simp[h1,h2,h3]
   ·obtain rfl:a=b:=UInt8.le_antisymm (UInt8.not_lt.1 h2) (UInt8.not_lt.1 h1)
    simp[UInt8.lt_irrefl]
def sV (a b:XKey):Int:=if kD a=false∨kD b=false then 0 else if a.kind≠b.kind then Ui a.kind b.kind else if a.n≠b.n then Ui a.n b.n else Lib.compareBytes a.text b.text
theorem iN {a b:XKey}(ha:a.Ok maxLen)(hb:b.Ok maxLen):ag Ph aM 355 [a.v,b.v]=some (aa .i64 (sV a b)):=by
 refine ae (fn:=mc) rfl ?_
 simp +contextual (maxSteps:=9999999) [mc,lD,wJ,Hz,ha,hb,sV]
 grind [Ui,cT]
theorem iO {a b:XKey}(ha:a.Ok maxLen)(hb:b.Ok maxLen):ag Ph aM 351 [a.v,b.v]=some (aa .i64 (sV a b)):=by
 refine ae (fn:=mz) rfl ?_
 simp +contextual (maxSteps:=9999999) [mz,lF,Gd,ha,hb,sV,iw]
 grind [Ui,cT]
def MX (fs:List XField)(k:Nat):Bool:=match fs[k]?,fs[k-1]? with
 |some x,some y=> !(dB x.name)||(!(rg x.n 0 1000000000)||(cT 0 k&& !(Op.bytesLess y.name x.name)))
 |_,_=>false
def eA (fs:List XField):Bool:= !(gD fs.length (MX fs))&& !(cT 6 fs.length)
theorem kT {r:XRecord}(h:r.Ok maxLen):ag Ph aM 246 [r.v]=some (aA (eA r.fs)):=by
 refine ae (fn:=oV) rfl ?_
 simp +contextual (maxSteps:=9999999) [oV]
 refine aG bm Cl.fin [.f,.t,.f,.f,.f,.f,.t,.t,.t,.f,.f,.f,.f,.f,.f,.f,.f,.f,.f,.f,.f,.f,.f,.f,.f,.f,.f,.f,.f,.f,.f,.f,.f,.f,.f,.f,.f,.f,.f,.f,.f,.f,.f,.f] (fun k=>[(8,aa .i64 k)]) r.fs.length (MX r.fs) rfl (by simp) (fun k hk _=> ?_) (fun _ hp=> ?_)
 ·obtain⟨q1,q2⟩:=wQ h.1 hk
  simp +contextual (maxSteps:=9999999) [j3,MX,eA,hk,q1,q2,aR h.1 hk,bd hk,XField.e.eq_1 r.fs[k],XField.e.eq_1 r.fs[k-1],bX (h.2 _ (Zf hk)).1,bL]
 ·simp +contextual (maxSteps:=9999999) [j3,eA,hp]
theorem jg {r:XRecord}(h:r.Ok maxLen):ag Ph aM 243 [r.v]=some (aA (eA r.fs)):=by
 refine ae (fn:=pg) rfl ?_
 simp +contextual (maxSteps:=9999999) [pg]
 refine aG bm Cl.fin [.f,.t,.f,.t,.f,.f,.f,.f,.f,.f,.f,.f,.f,.f,.f,.f,.f,.f,.f,.f,.f,.f,.f,.f,.f,.f,.f,.f,.f,.f,.f,.f,.f,.f,.f,.f,.f,.f,.f,.f,.f,.f,.f,.f,.f,.f,.f,.f,.f,.f,.f,.f,.f] (fun k=>[(3,aa .i64 k)]) r.fs.length (MX r.fs) rfl (by simp) (fun k hk _=> ?_) (fun _ hp=> ?_)
 ·obtain⟨q1,q2⟩:=wQ h.1 hk
  simp +contextual (maxSteps:=9999999) [j8,MX,eA,hk,q1,q2,aR h.1 hk,bd hk,XField.e.eq_1 r.fs[k],XField.e.eq_1 r.fs[k-1],du (h.2 _ (Zf hk)).1,cq]
 ·simp +contextual (maxSteps:=9999999) [j8,eA,hp]
def dR {α:Type}(p:α→Bool)(xs:List α):Int:=match xs.findIdx? p with
 |some i=>(i:Int)
 |none=> -1
def ir {α:Type}(p:α→Bool)(xs:List α)(k:Nat):Bool:=match xs[k]? with
 |some x=>p x
 |none=>false
theorem sI {α:Type}{p:α→Bool}{xs:List α}{k:Nat}(hk:k<xs.length)(hj:∀j,j<k→ir p xs j=false)(h:p xs[k]=true):dR p xs=(k:Int):=by
 have:xs.findIdx? p=some k:=by
  rw[Yi]
  refine⟨hk,h,fun j hjk=> ?_⟩
  have h1:j<xs.length:=by omega
  have:=hj j hjk
  simpa[ir,h1]using this
 simp[dR,this]
theorem sH {α:Type}{p:α→Bool}{xs:List α}(hj:∀j,j<xs.length→ir p xs j=false):dR p xs= -1:=by
 have:xs.findIdx? p=none:=by
  rw[Xd]
  intro x hx
  obtain⟨j,h1,rfl⟩:=Y4.1 hx
  simpa[ir,h1]using hj j h1
 simp[dR,this]
theorem zo {α:Type}(p:α→Bool)(xs:List α):dR p xs= -1∨∃j,∃hj:j<xs.length,dR p xs=(j:Int)∧p xs[j]=true:=by
 unfold dR
 cases h:xs.findIdx? p with
 |none=>exact .inl rfl
 |some i=>
  rw[Yi]at h
  obtain⟨h1,h2,_⟩:=h
  exact .inr ⟨i,h1,rfl,h2⟩
def VV (z:Nat):ACode:=(.seq (.region [⟨(some 9),(.bin .lss (.tmp 8) (.tmp 7)),none⟩]) (.seq (.cond (.tmp 9) .skip (.exit 0)) (.seq (.block 1 (.seq (.region [⟨(some 10),(.mv (.tmp 8)),none⟩,⟨(some 5),(.mv (.tmp 10)),none⟩]) (.seq (.region [⟨(some 11),(.mv (.tmp 1)),none⟩,⟨(some 12),(.mv (.tmp 0)),none⟩,⟨(some 13),(.mv (.tmp 5)),none⟩,⟨(some 14),(.indexA z (.tmp 12) (.tmp 13)),none⟩,⟨(some 15),(.load true z (.tmp 14)),none⟩,⟨(some 16),(.callV (.tmp 11) [(.tmp 15)]),none⟩]) (.cond (.tmp 16) (.seq (.region [⟨(some 17),(.mv (.tmp 5)),none⟩,⟨(some 4),(.mv (.tmp 17)),none⟩]) .ret) .skip)))) (.region [⟨(some 18),(.bin .add (.tmp 8) (.pv (.int .i64 1))),none⟩,⟨(some 8),(.mv (.tmp 18)),none⟩]))))
def V5 (z:Nat):AFn:=⟨19,[(.tmp 4)],(.seq (.region [⟨(some 4),(.mv (.pv (.int .i64 0))),none⟩]) (.seq (.seq (.region [⟨(some 6),(.mv (.tmp 0)),none⟩,⟨(some 7),(.len (.tmp 6)),none⟩,⟨(some 8),(.mv (.pv (.int .i64 0))),none⟩]) (.block 0 (.loop (VV z)))) (.seq (.region [⟨(some 4),(.mv (.pv (.int .i64 (-1)))),none⟩]) .ret)))⟩
theorem BC {α:Type}{e:α→List PV}{p:α→Bool}{xs:List α}{k z kc:Nat}{caps:List (List PV)}(hk:Ph k=some (V5 z))(hl:xs.length≤maxLen)(hz:∀x,(e x).length=z)(hp:∀x∈xs,ag Ph aM kc (.agg ((e x).map .pv)::caps.map tR)=some (aA (p x))):ag Ph aM k [cA (xs.map e), .one (.fn kc caps)]=some (aa .i64 (dR p xs)):=by
 refine ae hk ?_
 simp +contextual (maxSteps:=9999999) [V5]
 refine aG bm Cl.fin [.t,.t,.f,.f,.f,.f,.f,.t,.t,.f,.f,.f,.f,.f,.f,.f,.f,.f,.f] (fun k=>[(8,aa .i64 k)]) xs.length (ir p xs) rfl (by simp) (fun k hk hj=> ?_) (fun hj _=> ?_)
 ·have hc:=hp _ (Zf hk)
  have ht:List.take z ((e xs[k]).map L.pv)=(e xs[k]).map L.pv:=Zs (by simp[hz])
  have hf:=sI hk hj
  simp +contextual (maxSteps:=9999999) [VV,ir,hk,hz,ht,hc,hf,aR hl hk,bd hk,rp]
 ·simp +contextual (maxSteps:=9999999) [VV,sH hj]
def BB (s t:List UInt8)(x:XBucket):Bool:=x.site==s&&x.top==t
theorem mC {bs:List XBucket}(h:bs.length≤maxLen)(s t:List UInt8):ag Ph aM 175 [.agg [.pv (.lst (bs.map XBucket.e))],eB s,eB t]=some (aa .i64 (dR (BB s t) bs)):=by
 have e1:=BC (e:=XBucket.e) (p:=BB s t) (xs:=bs) (k:=209) (z:=24) (kc:=210) (caps:=[[.str s],[.str t]]) rfl h (fun _=>rfl) (fun x _=>by
  refine ae (fn:=lc) rfl ?_
  simp +contextual (maxSteps:=9999999) [lc,XBucket.e.eq_1,tR,BB])
 refine ae (fn:=mW) rfl ?_
 simp +contextual (maxSteps:=9999999) [mW,la,qi,e1]
theorem jC {bs:List XBucket}(h:bs.length≤maxLen)(s t:List UInt8):ag Ph aM 145 [.agg [.pv (.lst (bs.map XBucket.e))],eB s,eB t]=some (aa .i64 (dR (BB s t) bs)):=by
 refine ae (fn:=ng) rfl ?_
 simp +contextual (maxSteps:=9999999) [ng]
 refine aG bm Cl.fin [.f,.t,.t,.t,.f,.f,.f,.t,.f,.f,.f,.f,.f,.f,.f,.f,.f,.f,.f,.f,.f,.f,.f,.f,.f,.f,.f,.f,.f,.f,.f,.f,.f,.f] (fun k=>[(7,aa .i64 k)]) bs.length (ir (BB s t) bs) rfl (by simp) (fun k hk hj=> ?_) (fun hj _=> ?_)
 ·have hf:=sI hk hj
  simp +contextual (maxSteps:=9999999) [iG,ir,BB,hk,hf,aR h hk,bd hk,XBucket.e.eq_1 bs[k]]
 ·simp +contextual (maxSteps:=9999999) [iG,sH hj]
set_option maxHeartbeats 8000000
def GN (xs:List XItem)(k:Nat):Bool:=match xs[k]?,xs[k-1]? with
 |some x,some y=> !(kD x.key)||(!(eA x.rcd.fs)||(cT 0 k&& !(cT (sV y.key x.key) 0)))
 |_,_=>false
def eO (s:XStore):Bool:= !(gD s.items.length (GN s.items))&&(dB s.name&&(!(cT 16 s.items.length)&&rg s.auto 0 1000000))
theorem ik {s:XStore}(h:s.Ok maxLen):ag Ph aM 354 [s.v]=some (aA (eO s)):=by
 refine ae (fn:=qm) rfl ?_
 simp +contextual (maxSteps:=9999999) [qm]
 refine aG bm Cl.fin [.f,.t,.f,.f,.f,.f,.t,.t,.t,.f,.f,.f,.f,.f,.f,.f,.f,.f,.f,.f,.f,.f,.f,.f,.f,.f,.f,.f,.f,.f,.f,.f,.f,.f,.f,.f,.f,.f,.f,.f,.f,.f,.f,.f,.f,.f,.f,.f,.f,.f,.f,.f,.f,.f,.f] (fun k=>[(8,aa .i64 k)]) s.items.length (GN s.items) rfl (by simp) (fun k hk _=> ?_) (fun _ hp=> ?_)
 ·obtain⟨q1,q2⟩:=wQ h.2.1.1 hk
  obtain⟨h1,h2⟩:=h.2.1.2 _ (Zf hk)
  have h3:=(h.2.1.2 _ (Zf q2)).1
  have e1:=kT h2
  have e2:=iN h3 h1
  simp +contextual (maxSteps:=9999999) [kP,GN,eO,hk,q1,q2,aR h.2.1.1 hk,bd hk,XItem.e.eq_1 s.items[k],XItem.e.eq_1 s.items[k-1],lD h1,e1,e2]
 ·simp +contextual (maxSteps:=9999999) [kP,eO,hp,bX h.1,bL]
theorem lX {s:XStore}(h:s.Ok maxLen):ag Ph aM 350 [s.v]=some (aA (eO s)):=by
 refine ae (fn:=qu) rfl ?_
 simp +contextual (maxSteps:=9999999) [qu]
 refine aG bm Cl.fin [.f,.t,.f,.t,.f,.f,.f,.f,.f,.f,.f,.f,.f,.f,.f,.f,.f,.f,.f,.f,.f,.f,.f,.f,.f,.f,.f,.f,.f,.f,.f,.f,.f,.f,.f,.f,.f,.f,.f,.f,.f,.f,.f,.f,.f,.f,.f,.f,.f,.f,.f,.f,.f,.f,.f,.f,.f,.f,.f,.f,.f,.f,.f,.f] (fun k=>[(3,aa .i64 k)]) s.items.length (GN s.items) rfl (by simp) (fun k hk _=> ?_) (fun _ hp=> ?_)
 ·obtain⟨q1,q2⟩:=wQ h.2.1.1 hk
  obtain⟨h1,h2⟩:=h.2.1.2 _ (Zf hk)
  have h3:=(h.2.1.2 _ (Zf q2)).1
  have e1:=jg h2
  have e2:=iO h3 h1
  simp +contextual (maxSteps:=9999999) [kQ,GN,eO,hk,q1,q2,aR h.2.1.1 hk,bd hk,XItem.e.eq_1 s.items[k],XItem.e.eq_1 s.items[k-1],lF h1,e1,e2]
 ·simp +contextual (maxSteps:=9999999) [kQ,eO,hp,du h.1,cq]
structure XRange where
 hasLow:Bool
 hasHigh:Bool
 low:XKey
 high:XKey
abbrev XRange.v (r:XRange):V:= .agg [.pv (.bool r.hasLow), .pv (.bool r.hasHigh), .pv (.int .i64 r.low.kind), .pv (.int .i64 r.low.n), .pv (.str r.low.text), .pv (.int .i64 r.high.kind), .pv (.int .i64 r.high.n), .pv (.str r.high.text)]
def XRange.Ok (r:XRange):Prop:=r.low.Ok maxLen∧r.high.Ok maxLen
theorem Ay (a b:List UInt8):Lib.compareBytes b a= -Lib.compareBytes a b:=by
 rw[iw a b,iw b a]
 have h1:=qT a b
 cases h2:Op.bytesLess a b<;>cases h3:Op.bytesLess b a<;>simp[h2,h3]at h1⊢
theorem RB (a b:XKey):sV b a= -sV a b:=by
 unfold sV
 rw[Ay a.text b.text]
 grind [Ui,cT]
def Ty (n:List UInt8)(x:XStore):Bool:=x.name==n
theorem zE {d:XDatabase}(h:d.stores.length≤maxLen)(n:List UInt8):ag Ph aM 404 [d.v,eB n]=some (aa .i64 (dR (Ty n) d.stores)):=by
 have e1:=BC (e:=XStore.e) (p:=Ty n) (xs:=d.stores) (k:=410) (z:=3) (kc:=411) (caps:=[[.str n]]) rfl h (fun _=>rfl) (fun x _=>by
  refine ae (fn:=me) rfl ?_
  simp +contextual (maxSteps:=9999999) [me,XStore.e.eq_1,tR,Ty])
 refine ae (fn:=nT) rfl ?_
 simp +contextual (maxSteps:=9999999) [nT,la,qi,e1]
theorem Ae {d:XDatabase}(h:d.stores.length≤maxLen)(n:List UInt8):ag Ph aM 400 [d.v,eB n]=some (aa .i64 (dR (Ty n) d.stores)):=by
 refine ae (fn:=od) rfl ?_
 simp +contextual (maxSteps:=9999999) [od]
 refine aG bm Cl.fin [.f,.t,.t,.f,.f,.t,.f,.f,.f,.f,.f,.f,.f,.f,.f,.f,.f,.f,.f,.f,.f,.f] (fun k=>[(5,aa .i64 k)]) d.stores.length (ir (Ty n) d.stores) rfl (by simp) (fun k hk hj=> ?_) (fun hj _=> ?_)
 ·have hf:=sI hk hj
  simp +contextual (maxSteps:=9999999) [ju,ir,Ty,hk,hf,aR h hk,bd hk,XStore.e.eq_1 d.stores[k]]
 ·simp +contextual (maxSteps:=9999999) [ju,sH hj]
def Ce (q:XKey)(x:XItem):Bool:=x.key.kind==q.kind&&(x.key.n==q.n&&x.key.text==q.text)
theorem td {s:XStore}(h:s.items.length≤maxLen)(q:XKey):ag Ph aM 188 [s.v,q.v]=some (aa .i64 (dR (Ce q) s.items)):=by
 have e1:=BC (e:=XItem.e) (p:=Ce q) (xs:=s.items) (k:=215) (z:=4) (kc:=216) (caps:=[[.int .i64 q.kind, .int .i64 q.n, .str q.text]]) rfl h (fun _=>rfl) (fun x _=>by
  refine ae (fn:=mX) rfl ?_
  simp +contextual (maxSteps:=9999999) [mX,XItem.e.eq_1,tR,Ce,pT,Ox])
 refine ae (fn:=oT) rfl ?_
 simp +contextual (maxSteps:=9999999) [oT,la,qi,e1]
theorem tx {s:XStore}(h:s.items.length≤maxLen)(q:XKey):ag Ph aM 184 [s.v,q.v]=some (aa .i64 (dR (Ce q) s.items)):=by
 refine ae (fn:=pe) rfl ?_
 simp +contextual (maxSteps:=9999999) [pe]
 refine aG bm Cl.fin [.f,.f,.t,.t,.f,.t,.f,.f,.f,.f,.f,.f,.f,.f,.f,.f,.f,.f,.f,.f,.f,.f] (fun k=>[(5,aa .i64 k)]) s.items.length (ir (Ce q) s.items) rfl (by simp) (fun k hk hj=> ?_) (fun hj _=> ?_)
 ·have hf:=sI hk hj
  simp +contextual (maxSteps:=9999999) [j5,ir,Ce,hk,hf,aR h hk,bd hk,XItem.e.eq_1 s.items[k],pT,Ox]
 ·simp +contextual (maxSteps:=9999999) [j5,sH hj]
def isF (n:List UInt8)(x:XField):Bool:=x.name==n
def ru (fs:List XField)(n:List UInt8):Int×Bool:=match fs.find? (isF n)with
 |some x=>(x.n,true)
 |none=>(0,false)
theorem UB {fs:List XField}{n:List UInt8}{k:Nat}(hk:k<fs.length)(hj:∀j,j<k→ir (isF n) fs j=false)(h:isF n fs[k]=true):ru fs n=(fs[k].n,true):=by
 have:fs.find? (isF n)=some fs[k]:=by
  rw[List.find?_eq_some_iff_getElem]
  refine⟨h,k,hk,rfl,fun j hjk=> ?_⟩
  have h1:j<fs.length:=by omega
  have:=hj j hjk
  simpa[ir,h1]using this
 simp[ru,this]
theorem UA {fs:List XField}{n:List UInt8}(hj:∀j,j<fs.length→ir (isF n) fs j=false):ru fs n=(0,false):=by
 have:fs.find? (isF n)=none:=by
  rw[List.find?_eq_none]
  intro x hx
  obtain⟨j,h1,rfl⟩:=Y4.1 hx
  have:=hj j h1
  simpa[ir,h1]using this
 simp[ru,this]
abbrev Vw (x:Int×Bool):V:= .tup [(false,[.pv (.int .i64 x.1)]),(false,[.pv (.bool x.2)])]
theorem uz {r:XRecord}(h:r.fs.length≤maxLen)(n:List UInt8):ag Ph aM 217 [r.v,eB n]=some (aa .i64 (dR (isF n) r.fs)):=by
 have e1:=BC (e:=XField.e) (p:=isF n) (xs:=r.fs) (k:=240) (z:=2) (kc:=241) (caps:=[[.str n]]) rfl h (fun _=>rfl) (fun x _=>by
  refine ae (fn:=n7) rfl ?_
  simp +contextual (maxSteps:=9999999) [n7,XField.e.eq_1,tR,isF])
 refine ae (fn:=qr) rfl ?_
 simp +contextual (maxSteps:=9999999) [qr,la,qi,e1]
theorem jf {r:XRecord}(h:r.fs.length≤maxLen)(n:List UInt8):ag Ph aM 186 [r.v,eB n]=some (Vw (ru r.fs n)):=by
 refine ae (fn:=pf) rfl ?_
 simp +contextual (maxSteps:=9999999) [pf]
 refine aG bm Cl.fin [.f,.t,.t,.f,.f,.f,.t,.f,.f,.f,.f,.f,.f,.f,.f,.f,.f,.f,.f,.f,.f,.f,.f,.f,.f,.f,.f,.f] (fun k=>[(6,aa .i64 k)]) r.fs.length (ir (isF n) r.fs) rfl (by simp) (fun k hk hj=> ?_) (fun hj _=> ?_)
 ·have hf:=UB hk hj
  simp +contextual (maxSteps:=9999999) [j6,ir,isF,hk,hf,aR h hk,bd hk,XField.e.eq_1 r.fs[k]]
 ·simp +contextual (maxSteps:=9999999) [j6,UA hj]
theorem Qh (fs:List XField)(n:List UInt8):(dR (isF n) fs= -1∧ru fs n=(0,false))∨∃j,∃hj:j<fs.length,dR (isF n) fs=(j:Int)∧ru fs n=(fs[j].n,true):=by
 unfold dR ru
 cases h:fs.findIdx? (isF n)with
 |none=>
  have:fs.find? (isF n)=none:=by rw[Xd]at h;rw[List.find?_eq_none];exact fun x hx=>by simp[h x hx]
  simp[this]
 |some i=>
  rw[Yi]at h
  obtain⟨h1,h2,h3⟩:=h
  have:fs.find? (isF n)=some fs[i]:=by
   rw[List.find?_eq_some_iff_getElem]
   exact⟨h2,i,h1,rfl,fun j hj=>by simpa using h3 j hj⟩
  exact .inr ⟨i,h1,rfl,by simp[this]⟩
theorem jd {r:XRecord}(h:r.fs.length≤maxLen)(n:List UInt8):ag Ph aM 190 [r.v,eB n]=some (Vw (ru r.fs n)):=by
 have e1:=uz h n
 rcases Qh r.fs n with⟨h1,h2⟩|⟨j,hj,h1,h2⟩<;>rw[h1]at e1<;>rw[h2]
 all_goals refine ae (fn:=lS) rfl ?_
 ·simp +contextual (maxSteps:=9999999) [lS,e1,cT]
 ·simp +contextual (maxSteps:=9999999) [lS,e1,cT,hj,XField.e.eq_1 r.fs[j]]
end Gi
