/- Of this proof. -/
import Derived.Test.YtpfadfkomcbecaaGreatGzc
set_option linter.unusedSimpArgs false
set_option linter.unusedVariables false
namespace Gi
open Go Go.RowKit
set_option maxHeartbeats 8000000
set_option maxRecDepth 8000
attribute [local simp] start ft aj ah az aH bf bU Opd.ev put V.cells plain bm gu isInt isStr isBool bin bM un asList L.view ap V.view viewL aV au bE bN comp aK bq ai V.flat L.flat dG dk bt putAt freezeVs freezeLs freezeL V.mut L.mut lent AObj.unz L.unsub ql tM jW sL k8 xB PV.bare PV.flat jP dh thaw thawL AObj.zone io uk FB gy pT OU SK OV MS.ts gK gx gE eU gD
def ln (z:Nat):List (List PV)→L
 |[]=> .pv (.lst [])
 |r::rs=> .down z (r::rs)
def oz (z:Nat)(rows rows':List (List PV)):List (Bool×List L):=match rows with
 |[]=>[]
 |_::_=>[(false,[.down z rows'])]
theorem Gu (z:Nat)(c:List (List PV)):(c=[]∧nd z c= .nil∧ln z c= .pv (.lst [])∧(∀r,oz z c r=[])∧FN z c= .nil)∨(c≠[]∧nd z c= .down z c∧ln z c= .down z c∧(∀r,oz z c r=[(false,[.down z r])])∧FN z c= .own z c):=by
 cases c with
 |nil=>exact .inl ⟨rfl,rfl,rfl,fun _=>rfl,rfl⟩
 |cons r rs=>exact .inr ⟨by simp,rfl,rfl,fun _=>rfl,rfl⟩
def qs (c3 c4 c6 c7 c8 c9:List (List PV))(k:Int):List (List (List PV)×Int):=
 let q3:=bR am c3 k
 let q4:=bR am c4 q3.2
 let q6:=bR am c6 q4.2
 let q7:=bR am c7 q6.2
 let q8:=bR am c8 q7.2
 let q9:=bR am c9 q8.2
 [q3,q4,q6,q7,q8,q9]
theorem BF (k:Int):ag Ph aF (426+jN) [.agg [.pv (.lst [])],aa .i64 k]=some (.tup [(false,[.pv (.int .i64 k)])]):=by
 have c:=(sN (ext:=aF)).1 k
 refine sp (fn:=kX) rfl rfl rfl ?_
 simp[kX,c]
theorem TR {c0 c2 c5:Int}{on:Bool}{c3 c4 c6 c7 c8 c9:List (List PV)}(h:aZ ew [.int .i64 c0, .bool on, .int .i64 c2, .lst c3, .lst c4, .int .i64 c5, .lst c6, .lst c7, .lst c8, .lst c9]){k:Int}(k0:0≤k)(hk:(bR am c9 (bR am c8 (bR am c7 (bR am c6 (bR am c4 (bR am c3 k).2).2).2).2).2).2≤uB):
 ag Ph aF (420+jN) [.agg [.pv (.int .i64 c0), .pv (.bool on), .pv (.int .i64 c2),ln 24 c3, .down 11 c4, .pv (.int .i64 c5), .down 4 c6, .down 3 c7,ln 4 c8,ln 5 c9],aa .i64 k]=some (.tup ((false,[.pv (.int .i64 (bR am c9 (bR am c8 (bR am c7 (bR am c6 (bR am c4 (bR am c3 k).2).2).2).2).2).2)])::(oz 24 c3 (bR am c3 k).1++((false,[.down 11 (bR am c4 (bR am c3 k).2).1])::(false,[.down 4 (bR am c6 (bR am c4 (bR am c3 k).2).2).1])::(false,[.down 3 (bR am c7 (bR am c6 (bR am c4 (bR am c3 k).2).2).2).1])::(oz 4 c8 (bR am c8 (bR am c7 (bR am c6 (bR am c4 (bR am c3 k).2).2).2).2).1++oz 5 c9 (bR am c9 (bR am c8 (bR am c7 (bR am c6 (bR am c4 (bR am c3 k).2).2).2).2).2).1))))):=by
 simp only[ew,aZ]at h
 obtain⟨_,_,_,g3,g4,_,g6,g7,g8,g9,_⟩:=h
 have l3:=nR (mT:=am) c3 k
 have l4:=nR (mT:=am) c4 (bR am c3 k).2
 have l6:=nR (mT:=am) c6 (bR am c4 (bR am c3 k).2).2
 have l7:=nR (mT:=am) c7 (bR am c6 (bR am c4 (bR am c3 k).2).2).2
 have l8:=nR (mT:=am) c8 (bR am c7 (bR am c6 (bR am c4 (bR am c3 k).2).2).2).2
 have l9:=nR (mT:=am) c9 (bR am c8 (bR am c7 (bR am c6 (bR am c4 (bR am c3 k).2).2).2).2).2
 have s3:ag Ph aF (426+jN) [.agg [ln 24 c3],aa .i64 k]=some (.tup ((false,[.pv (.int .i64 (bR am c3 k).2)])::oz 24 c3 (bR am c3 k).1)):=by
  cases c3 with
  |nil=>exact BF k
  |cons r rs=>exact sP (ext:=aF) [.lst (r::rs)] ⟨g3,trivial⟩ k k0 (by show(bR am (r::rs) k).2≤uB;omega)
 have s4:ag Ph aF (427+jN) [.one (.down 11 c4),aa .i64 (bR am c3 k).2]=some (.tup [(false,[.pv (.int .i64 (bR am c4 (bR am c3 k).2).2)]),(false,[.down 11 (bR am c4 (bR am c3 k).2).1])]):=(xG (ext:=aF)).2 c4 g4 _ (by omega) (by omega)
 have s6:ag Ph aF (428+jN) [.agg [.down 4 c6],aa .i64 (bR am c4 (bR am c3 k).2).2]=some (.tup [(false,[.pv (.int .i64 (bR am c6 (bR am c4 (bR am c3 k).2).2).2)]),(false,[.down 4 (bR am c6 (bR am c4 (bR am c3 k).2).2).1])]):=qI (ext:=aF) [.lst c6] ⟨g6,trivial⟩ _ (by omega) (by show(bR am c6 _).2≤uB;omega)
 have s7:ag Ph aF (429+jN) [.agg [.down 3 c7],aa .i64 (bR am c6 (bR am c4 (bR am c3 k).2).2).2]=some (.tup [(false,[.pv (.int .i64 (bR am c7 (bR am c6 (bR am c4 (bR am c3 k).2).2).2).2)]),(false,[.down 3 (bR am c7 (bR am c6 (bR am c4 (bR am c3 k).2).2).2).1])]):=sO (ext:=aF) [.lst c7] ⟨g7,trivial⟩ _ (by omega) (by show(bR am c7 _).2≤uB;omega)
 have s8:ag Ph aF (430+jN) [.one (ln 4 c8),aa .i64 (bR am c7 (bR am c6 (bR am c4 (bR am c3 k).2).2).2).2]=some (.tup ((false,[.pv (.int .i64 (bR am c8 (bR am c7 (bR am c6 (bR am c4 (bR am c3 k).2).2).2).2).2)])::oz 4 c8 (bR am c8 (bR am c7 (bR am c6 (bR am c4 (bR am c3 k).2).2).2).2).1)):=by
  cases c8 with
  |nil=>exact(rE (ext:=aF)).1 _
  |cons r rs=>exact(rE (ext:=aF)).2 (r::rs) g8 _ (by omega) (by omega)
 have s9:ag Ph aF (431+jN) [.one (ln 5 c9),aa .i64 (bR am c8 (bR am c7 (bR am c6 (bR am c4 (bR am c3 k).2).2).2).2).2]=some (.tup ((false,[.pv (.int .i64 (bR am c9 (bR am c8 (bR am c7 (bR am c6 (bR am c4 (bR am c3 k).2).2).2).2).2).2)])::oz 5 c9 (bR am c9 (bR am c8 (bR am c7 (bR am c6 (bR am c4 (bR am c3 k).2).2).2).2).2).1)):=by
  cases c9 with
  |nil=>exact(pj (ext:=aF)).1 _
  |cons r rs=>exact(pj (ext:=aF)).2 (r::rs) g9 _ (by omega) (by omega)
 clear hk k0 g3 g4 g6 g7 g8 g9 l3 l4 l6 l7 l8 l9
 generalize bR am c3 k=q3 at s3 s4 s6 s7 s8 s9⊢
 generalize bR am c4 q3.2=q4 at s4 s6 s7 s8 s9⊢
 generalize bR am c6 q4.2=q6 at s6 s7 s8 s9⊢
 generalize bR am c7 q6.2=q7 at s7 s8 s9⊢
 generalize bR am c8 q7.2=q8 at s8 s9⊢
 generalize bR am c9 q8.2=q9 at s9⊢
 rcases Gu 24 c3 with⟨_,_,u3,v3,_⟩|⟨_,_,u3,v3,_⟩<;>rcases Gu 4 c8 with⟨_,_,u8,v8,_⟩|⟨_,_,u8,v8,_⟩<;>rcases Gu 5 c9 with⟨_,_,u9,v9,_⟩|⟨_,_,u9,v9,_⟩<;>simp only[u3,v3,u8,v8,u9,v9]at s3 s8 s9⊢ <;>(refine sp (fn:=mZ) rfl rfl rfl ?_;simp[mZ,s3,s4,s6,s7,s8,s9])
def WR (c0:Int)(c1:Bool)(c2:Int)(c3 c4:List (List PV))(c5:Int)(c6 c7 c8 c9:List (List PV)):List PV:=[.int .i64 c0, .bool c1, .int .i64 c2, .lst c3, .lst c4, .int .i64 c5, .lst c6, .lst c7, .lst c8, .lst c9]
def WP (c0:Int)(c1:Bool)(c2:Int)(c3 c4:List (List PV))(c5:Int)(c6 c7 c8 c9:List (List PV)):List L:=[.pv (.int .i64 c0), .pv (.bool c1), .pv (.int .i64 c2), .pv (.lst c3), .pv (.lst c4), .pv (.int .i64 c5), .pv (.lst c6), .pv (.lst c7), .pv (.lst c8), .pv (.lst c9)]
theorem Q2 (k:Int):bR am [] k=([],k):=rfl
end Gi
namespace Gi
open Go Go.RowKit
set_option maxHeartbeats 4000000
set_option maxRecDepth 4000
attribute [local simp] start sj bf bU dQ fY dP fX f7 f6 uH uQ uI uR uJ uS uK uT uL uU uM uV uN uW uO uX uP uY V.cells plain bm gu isInt isStr isBool bin cQ jJ cR jK fZ un asList L.view ap V.view viewL aV au cU bX bN comp aK bq dw co bz bw bx bI bi cq aW bD aR aX bG cr bF bC bH V.flat L.flat dG dk bt putAt thaw thawL thawT V.ow f5 dU dV cS f4 cT dS freezeVs freezeLs freezeL V.mut L.mut aJ eS iO aN bd aG dj bK bg bQ L.ren aT dH ca dL bO bB wp_seq wp_block bv dY cW bY cX wp_skip wp_exit wp_ret cG cE cP cH dd de db cj aU L.notArr aQ aO aP dX bn storeD a9 fR bo cD be nX L.mov L.closed V.closed PV.bare PV.flat
def rg (n a b:Int):Bool:= !(dK n a)&& !(dK b n)
theorem a8 (n a b:Int):ag Ph aF 61 [aa .i64 n,aa .i64 a,aa .i64 b]=some (ar (rg n a b)):=by
 refine ae (fn:=oF) rfl ?_
 simp +contextual (maxSteps:=9999999) [oF,rg]
theorem br (n a b:Int):ag Ph aF 58 [aa .i64 n,aa .i64 a,aa .i64 b]=some (ar (rg n a b)):=by
 refine ae (fn:=sy) rfl ?_
 simp +contextual (maxSteps:=9999999) [sy,rg]
def Sd (a b:Int):Int:=if dK a b then-1 else if dK b a then 1 else 0
theorem tZ (a b:Int):ag Ph aF 362 [aa .i64 a,aa .i64 b]=some (aa .i64 (Sd a b)):=by
 refine ae (fn:=kR) rfl ?_
 simp +contextual (maxSteps:=9999999) [kR,Sd]
theorem Ek (a b:Bool):ag Ph aF 359 [ar a,ar b]=some (aa .i64 (if a=true then-1 else if b=true then 1 else 0)):=by
 refine ae (fn:=qb) rfl ?_
 simp +contextual (maxSteps:=9999999) [qb]
def KP (sl:Bool)(s:List UInt8)(k:Nat):Bool:=match s[k]? with
 |some b=>(dK b.toNat 97||dK 122 b.toNat)&& !(sl&&(b.toNat:Int)==47)
 |none=>false
def qj (s:List UInt8)(m:Int)(sl:Bool):Bool:= !(fT s.length (KP sl s))&&rg s.length 1 m
abbrev cC (s:List UInt8):Bool:=qj s 8 false
theorem sJ {s:List UInt8}(h:s.length≤maxLen)(m:Int)(sl:Bool):ag Ph aF 213 [fJ s,aa .i64 m,ar sl]=some (ar (qj s m sl)):=by
 refine ae (fn:=p6) rfl ?_
 simp +contextual (maxSteps:=9999999) [p6]
 refine aA aM Cl.fin [.t,.t,.t,.f,.f,.f,.f,.t,.f,.f,.f,.f,.f,.f,.f,.f,.f,.f,.f,.f,.f,.f,.f,.f,.f,.f,.f,.f,.f,.f,.f,.f,.f,.f,.f,.f,.f,.f] (fun k=>[(7,aa .i64 k)]) s.length (KP sl s) rfl (by simp) (fun k hk _=> ?_) (fun _ hp=> ?_)
 ·simp +contextual (maxSteps:=9999999) [ku,KP,qj,hk,aD h hk,aS hk]
 ·simp +contextual (maxSteps:=9999999) [ku,qj,hp,a8]
theorem bj {s:List UInt8}(h:s.length≤maxLen):ag Ph aF 178 [fJ s]=some (ar (cC s)):=by
 refine ae (fn:=pZ) rfl ?_
 simp[pZ,sJ h]
theorem cf {s:List UInt8}(h:s.length≤maxLen):ag Ph aF 177 [fJ s]=some (ar (cC s)):=by
 refine ae (fn:=p7) rfl ?_
 simp +contextual (maxSteps:=9999999) [p7]
 refine aA aM Cl.fin [.t,.f,.f,.t,.f,.f,.f,.f,.f,.f,.f,.f,.f,.f,.f,.f,.f,.f,.f,.f,.f,.f,.f] (fun k=>[(3,aa .i64 k)]) s.length (KP false s) rfl (by simp) (fun k hk _=> ?_) (fun _ hp=> ?_)
 ·simp +contextual (maxSteps:=9999999) [kw,KP,cC,qj,hk,aD h hk,aS hk]
 ·simp +contextual (maxSteps:=9999999) [kw,cC,qj,hp,br]
def Pf (s:List UInt8)(k:Nat):Bool:=match s[k]? with
 |some b=>(dK b.toNat 97||dK 122 b.toNat)&&(dK b.toNat 48||dK 57 b.toNat)
 |none=>false
def sK (s:List UInt8):Bool:= !(fT s.length (Pf s))&& !(dK 12 s.length)
theorem xu {s:List UInt8}(h:s.length≤maxLen):ag Ph aF 90 [fJ s]=some (ar (sK s)):=by
 refine ae (fn:=mY) rfl ?_
 simp +contextual (maxSteps:=9999999) [mY]
 refine aA aM Cl.fin [.t,.f,.f,.t,.f,.f,.f,.f,.f,.f,.f,.f,.f,.f,.f,.f,.f,.f,.f,.f,.f,.f,.f,.f,.f,.f,.f,.f,.f,.f,.f,.f,.f,.f,.f,.f] (fun k=>[(3,aa .i64 k)]) s.length (Pf s) rfl (by simp) (fun k hk _=> ?_) (fun _ hp=> ?_)
 ·simp +contextual (maxSteps:=9999999) [iB,Pf,sK,hk,aD h hk,aS hk]
 ·simp +contextual (maxSteps:=9999999) [iB,sK,hp]
theorem El {s:List UInt8}(h:s.length≤maxLen):ag Ph aF 88 [fJ s]=some (ar (sK s)):=by
 refine ae (fn:=qc) rfl ?_
 simp +contextual (maxSteps:=9999999) [qc]
 refine aA aM Cl.fin [.t,.f,.f,.t,.f,.f,.f,.f,.f,.f,.f,.f,.f,.f,.f,.f,.f,.f,.f,.f,.f,.f,.f,.f,.f,.f,.f,.f,.f,.f,.f,.f,.f,.f,.f] (fun k=>[(3,aa .i64 k)]) s.length (Pf s) rfl (by simp) (fun k hk _=> ?_) (fun _ hp=> ?_)
 ·simp +contextual (maxSteps:=9999999) [kC,Pf,sK,hk,aD h hk,aS hk]
 ·simp +contextual (maxSteps:=9999999) [kC,sK,hp]
def qE (a:XKey):Bool:=rg a.kind 1 3&&rg a.n (-1000000000000) 1000000000000&&(!(a.kind==2)||a.n==0)&&sK a.text&&(!(a.kind==1)||a.text==[])
theorem nh {a:XKey}(h:a.Ok maxLen):ag Ph aF 67 [a.v]=some (ar (qE a)):=by
 refine ae (fn:=rh) rfl ?_
 simp +contextual (maxSteps:=9999999) [rh,a8,xu h.2.2,qE]<;>grind
theorem ni {a:XKey}(h:a.Ok maxLen):ag Ph aF 65 [a.v]=some (ar (qE a)):=by
 refine ae (fn:=rj) rfl ?_
 simp +contextual (maxSteps:=9999999) [rj,br,El h.2.2,qE]<;>grind
theorem FP (a b:List UInt8):ag Ph aF 363 [fJ a,fJ b]=some (aa .i64 (Lib.compareBytes a b)):=Nn rfl rfl
theorem pP :∀(a b:List UInt8),Lib.compareBytes a b=if Op.bytesLess a b=true then-1 else if Op.bytesLess b a=true then 1 else 0
 |[],[]=>rfl
 |[],_::_=>rfl
 |_::_,[]=>rfl
 |a::xz,b::bs=>by
  have ih:=pP xz bs
  simp only[Lib.compareBytes,Op.bytesLess,ih]
  by_cases h1:a<b
  ·simp[h1]
  ·by_cases h2:b<a
   ·have h3:¬a=b:=fun h=>by subst h;exact absurd h2 (UInt8.lt_irrefl _)
    simp[h1,h2,h3]
   ·obtain rfl:a=b:=UInt8.le_antisymm (UInt8.not_lt.1 h2) (UInt8.not_lt.1 h1)
    simp[UInt8.lt_irrefl]
def Ns (a b:XKey):Int:=if qE a=false∨qE b=false then 0 else if a.kind≠b.kind then Sd a.kind b.kind else if a.n≠b.n then Sd a.n b.n else Lib.compareBytes a.text b.text
theorem nU {a b:XKey}(ha:a.Ok maxLen)(hb:b.Ok maxLen):ag Ph aF 355 [a.v,b.v]=some (aa .i64 (Ns a b)):=by
 refine ae (fn:=kM) rfl ?_
 simp +contextual (maxSteps:=9999999) [kM,nh,tZ,FP,ha,hb,Ns]
 grind [Sd,dK]
theorem nW {a b:XKey}(ha:a.Ok maxLen)(hb:b.Ok maxLen):ag Ph aF 351 [a.v,b.v]=some (aa .i64 (Ns a b)):=by
 refine ae (fn:=kZ) rfl ?_
 simp +contextual (maxSteps:=9999999) [kZ,ni,Ek,ha,hb,Ns,pP]
 grind [Sd,dK]
def Nc (fs:List XField)(k:Nat):Bool:=match fs[k]?,fs[k-1]? with
 |some x,some y=> !(cC x.name)||(!(rg x.n 0 1000000000)||(dK 0 k&& !(Op.bytesLess y.name x.name)))
 |_,_=>false
def nV (fs:List XField):Bool:= !(fT fs.length (Nc fs))&& !(dK 6 fs.length)
theorem qB {r:XRecord}(h:r.Ok maxLen):ag Ph aF 246 [r.v]=some (ar (nV r.fs)):=by
 refine ae (fn:=nB) rfl ?_
 simp +contextual (maxSteps:=9999999) [nB]
 refine aA aM Cl.fin [.f,.t,.f,.f,.f,.f,.t,.t,.t,.f,.f,.f,.f,.f,.f,.f,.f,.f,.f,.f,.f,.f,.f,.f,.f,.f,.f,.f,.f,.f,.f,.f,.f,.f,.f,.f,.f,.f,.f,.f,.f,.f,.f,.f] (fun k=>[(8,aa .i64 k)]) r.fs.length (Nc r.fs) rfl (by simp) (fun k hk _=> ?_) (fun _ hp=> ?_)
 ·obtain⟨q1,q2⟩:=ua h.1 hk
  simp +contextual (maxSteps:=9999999) [jf,Nc,nV,hk,q1,q2,aD h.1 hk,aS hk,XField.e.eq_1 r.fs[k],XField.e.eq_1 r.fs[k-1],bj (h.2 _ (List.getElem_mem hk)).1,a8]
 ·simp +contextual (maxSteps:=9999999) [jf,nV,hp]
theorem qM {r:XRecord}(h:r.Ok maxLen):ag Ph aF 243 [r.v]=some (ar (nV r.fs)):=by
 refine ae (fn:=nK) rfl ?_
 simp +contextual (maxSteps:=9999999) [nK]
 refine aA aM Cl.fin [.f,.t,.f,.t,.f,.f,.f,.f,.f,.f,.f,.f,.f,.f,.f,.f,.f,.f,.f,.f,.f,.f,.f,.f,.f,.f,.f,.f,.f,.f,.f,.f,.f,.f,.f,.f,.f,.f,.f,.f,.f,.f,.f,.f,.f,.f,.f,.f,.f,.f,.f,.f,.f] (fun k=>[(3,aa .i64 k)]) r.fs.length (Nc r.fs) rfl (by simp) (fun k hk _=> ?_) (fun _ hp=> ?_)
 ·obtain⟨q1,q2⟩:=ua h.1 hk
  simp +contextual (maxSteps:=9999999) [jj,Nc,nV,hk,q1,q2,aD h.1 hk,aS hk,XField.e.eq_1 r.fs[k],XField.e.eq_1 r.fs[k-1],cf (h.2 _ (List.getElem_mem hk)).1,br]
 ·simp +contextual (maxSteps:=9999999) [jj,nV,hp]
def gv {α:Type}(p:α→Bool)(xs:List α):Int:=match xs.findIdx? p with
 |some i=>(i:Int)
 |none=> -1
def iu {α:Type}(p:α→Bool)(xs:List α)(k:Nat):Bool:=match xs[k]? with
 |some x=>p x
 |none=>false
theorem vE {α:Type}{p:α→Bool}{xs:List α}{k:Nat}(hk:k<xs.length)(hj:∀j,j<k→iu p xs j=false)(h:p xs[k]=true):gv p xs=(k:Int):=by
 have:xs.findIdx? p=some k:=by
  rw[List.findIdx?_eq_some_iff_getElem]
  refine⟨hk,h,fun j hjk=> ?_⟩
  have h1:j<xs.length:=by omega
  have:=hj j hjk
  simpa[iu,h1]using this
 simp[gv,this]
theorem zp {α:Type}{p:α→Bool}{xs:List α}(hj:∀j,j<xs.length→iu p xs j=false):gv p xs= -1:=by
 have:xs.findIdx? p=none:=by
  rw[List.findIdx?_eq_none_iff]
  intro x hx
  obtain⟨j,h1,rfl⟩:=List.mem_iff_getElem.1 hx
  simpa[iu,h1]using hj j h1
 simp[gv,this]
theorem QN {α:Type}(p:α→Bool)(xs:List α):gv p xs= -1∨∃j,∃hj:j<xs.length,gv p xs=(j:Int)∧p xs[j]=true:=by
 unfold gv
 cases h:xs.findIdx? p with
 |none=>exact .inl rfl
 |some i=>
  rw[List.findIdx?_eq_some_iff_getElem]at h
  obtain⟨h1,h2,_⟩:=h
  exact .inr ⟨i,h1,rfl,h2⟩
def To (z:Nat):ACode:=(.seq (.region [⟨(some 9),(.bin .lss (.tmp 8) (.tmp 7)),none⟩]) (.seq (.cond (.tmp 9) .skip (.exit 0)) (.seq (.block 1 (.seq (.region [⟨(some 10),(.mv (.tmp 8)),none⟩,⟨(some 5),(.mv (.tmp 10)),none⟩]) (.seq (.region [⟨(some 11),(.mv (.tmp 1)),none⟩,⟨(some 12),(.mv (.tmp 0)),none⟩,⟨(some 13),(.mv (.tmp 5)),none⟩,⟨(some 14),(.indexA z (.tmp 12) (.tmp 13)),none⟩,⟨(some 15),(.load true z (.tmp 14)),none⟩,⟨(some 16),(.callV (.tmp 11) [(.tmp 15)]),none⟩]) (.cond (.tmp 16) (.seq (.region [⟨(some 17),(.mv (.tmp 5)),none⟩,⟨(some 4),(.mv (.tmp 17)),none⟩]) .ret) .skip)))) (.region [⟨(some 18),(.bin .add (.tmp 8) (.pv (.int .i64 1))),none⟩,⟨(some 8),(.mv (.tmp 18)),none⟩]))))
def Tz (z:Nat):AFn:=⟨19,[(.tmp 4)],(.seq (.region [⟨(some 4),(.mv (.pv (.int .i64 0))),none⟩]) (.seq (.seq (.region [⟨(some 6),(.mv (.tmp 0)),none⟩,⟨(some 7),(.len (.tmp 6)),none⟩,⟨(some 8),(.mv (.pv (.int .i64 0))),none⟩]) (.block 0 (.loop (To z)))) (.seq (.region [⟨(some 4),(.mv (.pv (.int .i64 (-1)))),none⟩]) .ret)))⟩
theorem DT {α:Type}{e:α→List PV}{p:α→Bool}{xs:List α}{k z kc:Nat}{caps:List (List PV)}(hk:Ph k=some (Tz z))(hl:xs.length≤maxLen)(hz:∀x,(e x).length=z)(hp:∀x∈xs,ag Ph aF kc (.agg ((e x).map .pv)::caps.map r9)=some (ar (p x))):ag Ph aF k [bu (xs.map e), .one (.fn kc caps)]=some (aa .i64 (gv p xs)):=by
 refine ae hk ?_
 simp +contextual (maxSteps:=9999999) [Tz]
 refine aA aM Cl.fin [.t,.t,.f,.f,.f,.f,.f,.t,.t,.f,.f,.f,.f,.f,.f,.f,.f,.f,.f] (fun k=>[(8,aa .i64 k)]) xs.length (iu p xs) rfl (by simp) (fun k hk hj=> ?_) (fun hj _=> ?_)
 ·have hc:=hp _ (List.getElem_mem hk)
  have ht:List.take z ((e xs[k]).map L.pv)=(e xs[k]).map L.pv:=List.take_of_length_le (by simp[hz])
  have hf:=vE hk hj
  simp +contextual (maxSteps:=9999999) [To,iu,hk,hz,ht,hc,hf,aD hl hk,aS hk,pD]
 ·simp +contextual (maxSteps:=9999999) [To,zp hj]
def PN (s t:List UInt8)(x:XBucket):Bool:=x.site==s&&x.top==t
theorem vG {bs:List XBucket}(h:bs.length≤maxLen)(s t:List UInt8):ag Ph aF 175 [.agg [.pv (.lst (bs.map XBucket.e))],fJ s,fJ t]=some (aa .i64 (gv (PN s t) bs)):=by
 have e1:=DT (e:=XBucket.e) (p:=PN s t) (xs:=bs) (k:=209) (z:=24) (kc:=210) (caps:=[[.str s],[.str t]]) rfl h (fun _=>rfl) (fun x _=>by
  refine ae (fn:=jX) rfl ?_
  simp +contextual (maxSteps:=9999999) [jX,XBucket.e.eq_1,r9,PN])
 refine ae (fn:=lD) rfl ?_
 simp +contextual (maxSteps:=9999999) [lD,kK,pO,e1]
theorem v5 {bs:List XBucket}(h:bs.length≤maxLen)(s t:List UInt8):ag Ph aF 145 [.agg [.pv (.lst (bs.map XBucket.e))],fJ s,fJ t]=some (aa .i64 (gv (PN s t) bs)):=by
 refine ae (fn:=lP) rfl ?_
 simp +contextual (maxSteps:=9999999) [lP]
 refine aA aM Cl.fin [.f,.t,.t,.t,.f,.f,.f,.t,.f,.f,.f,.f,.f,.f,.f,.f,.f,.f,.f,.f,.f,.f,.f,.f,.f,.f,.f,.f,.f,.f,.f,.f,.f,.f] (fun k=>[(7,aa .i64 k)]) bs.length (iu (PN s t) bs) rfl (by simp) (fun k hk hj=> ?_) (fun hj _=> ?_)
 ·have hf:=vE hk hj
  simp +contextual (maxSteps:=9999999) [gS,iu,PN,hk,hf,aD h hk,aS hk,XBucket.e.eq_1 bs[k]]
 ·simp +contextual (maxSteps:=9999999) [gS,zp hj]
set_option maxHeartbeats 8000000
def Pa (xs:List XItem)(k:Nat):Bool:=match xs[k]?,xs[k-1]? with
 |some x,some y=> !(qE x.key)||(!(nV x.rcd.fs)||(dK 0 k&& !(dK (Ns y.key x.key) 0)))
 |_,_=>false
def mi (s:XStore):Bool:= !(fT s.items.length (Pa s.items))&&(cC s.name&&(!(dK 16 s.items.length)&&rg s.auto 0 1000000))
theorem nQ {s:XStore}(h:s.Ok maxLen):ag Ph aF 354 [s.v]=some (ar (mi s)):=by
 refine ae (fn:=oH) rfl ?_
 simp +contextual (maxSteps:=9999999) [oH]
 refine aA aM Cl.fin [.f,.t,.f,.f,.f,.f,.t,.t,.t,.f,.f,.f,.f,.f,.f,.f,.f,.f,.f,.f,.f,.f,.f,.f,.f,.f,.f,.f,.f,.f,.f,.f,.f,.f,.f,.f,.f,.f,.f,.f,.f,.f,.f,.f,.f,.f,.f,.f,.f,.f,.f,.f,.f,.f,.f] (fun k=>[(8,aa .i64 k)]) s.items.length (Pa s.items) rfl (by simp) (fun k hk _=> ?_) (fun _ hp=> ?_)
 ·obtain⟨q1,q2⟩:=ua h.2.1.1 hk
  obtain⟨h1,h2⟩:=h.2.1.2 _ (List.getElem_mem hk)
  have h3:=(h.2.1.2 _ (List.getElem_mem q2)).1
  have e1:=qB h2
  have e2:=nU h3 h1
  simp +contextual (maxSteps:=9999999) [jF,Pa,mi,hk,q1,q2,aD h.2.1.1 hk,aS hk,XItem.e.eq_1 s.items[k],XItem.e.eq_1 s.items[k-1],nh h1,e1,e2]
 ·simp +contextual (maxSteps:=9999999) [jF,mi,hp,bj h.1,a8]
theorem nS {s:XStore}(h:s.Ok maxLen):ag Ph aF 350 [s.v]=some (ar (mi s)):=by
 refine ae (fn:=oN) rfl ?_
 simp +contextual (maxSteps:=9999999) [oN]
 refine aA aM Cl.fin [.f,.t,.f,.t,.f,.f,.f,.f,.f,.f,.f,.f,.f,.f,.f,.f,.f,.f,.f,.f,.f,.f,.f,.f,.f,.f,.f,.f,.f,.f,.f,.f,.f,.f,.f,.f,.f,.f,.f,.f,.f,.f,.f,.f,.f,.f,.f,.f,.f,.f,.f,.f,.f,.f,.f,.f,.f,.f,.f,.f,.f,.f,.f,.f] (fun k=>[(3,aa .i64 k)]) s.items.length (Pa s.items) rfl (by simp) (fun k hk _=> ?_) (fun _ hp=> ?_)
 ·obtain⟨q1,q2⟩:=ua h.2.1.1 hk
  obtain⟨h1,h2⟩:=h.2.1.2 _ (List.getElem_mem hk)
  have h3:=(h.2.1.2 _ (List.getElem_mem q2)).1
  have e1:=qM h2
  have e2:=nW h3 h1
  simp +contextual (maxSteps:=9999999) [jH,Pa,mi,hk,q1,q2,aD h.2.1.1 hk,aS hk,XItem.e.eq_1 s.items[k],XItem.e.eq_1 s.items[k-1],ni h1,e1,e2]
 ·simp +contextual (maxSteps:=9999999) [jH,mi,hp,cf h.1,br]
structure XRange where
 hasLow:Bool
 hasHigh:Bool
 low:XKey
 high:XKey
abbrev XRange.v (r:XRange):V:= .agg [.pv (.bool r.hasLow), .pv (.bool r.hasHigh), .pv (.int .i64 r.low.kind), .pv (.int .i64 r.low.n), .pv (.str r.low.text), .pv (.int .i64 r.high.kind), .pv (.int .i64 r.high.n), .pv (.str r.high.text)]
def XRange.Ok (r:XRange):Prop:=r.low.Ok maxLen∧r.high.Ok maxLen
def QW (n:List UInt8)(x:XStore):Bool:=x.name==n
theorem xm {d:XDatabase}(h:d.stores.length≤maxLen)(n:List UInt8):ag Ph aF 404 [d.v,fJ n]=some (aa .i64 (gv (QW n) d.stores)):=by
 have e1:=DT (e:=XStore.e) (p:=QW n) (xs:=d.stores) (k:=410) (z:=3) (kc:=411) (caps:=[[.str n]]) rfl h (fun _=>rfl) (fun x _=>by
  refine ae (fn:=kN) rfl ?_
  simp +contextual (maxSteps:=9999999) [kN,XStore.e.eq_1,r9,QW])
 refine ae (fn:=mM) rfl ?_
 simp +contextual (maxSteps:=9999999) [mM,kK,pO,e1]
theorem xQ {d:XDatabase}(h:d.stores.length≤maxLen)(n:List UInt8):ag Ph aF 400 [d.v,fJ n]=some (aa .i64 (gv (QW n) d.stores)):=by
 refine ae (fn:=m4) rfl ?_
 simp +contextual (maxSteps:=9999999) [m4]
 refine aA aM Cl.fin [.f,.t,.t,.f,.f,.t,.f,.f,.f,.f,.f,.f,.f,.f,.f,.f,.f,.f,.f,.f,.f,.f] (fun k=>[(5,aa .i64 k)]) d.stores.length (iu (QW n) d.stores) rfl (by simp) (fun k hk hj=> ?_) (fun hj _=> ?_)
 ·have hf:=vE hk hj
  simp +contextual (maxSteps:=9999999) [iD,iu,QW,hk,hf,aD h hk,aS hk,XStore.e.eq_1 d.stores[k]]
 ·simp +contextual (maxSteps:=9999999) [iD,zp hj]
def isF (n:List UInt8)(x:XField):Bool:=x.name==n
def pG (fs:List XField)(n:List UInt8):Int×Bool:=match fs.find? (isF n)with
 |some x=>(x.n,true)
 |none=>(0,false)
theorem RP {fs:List XField}{n:List UInt8}{k:Nat}(hk:k<fs.length)(hj:∀j,j<k→iu (isF n) fs j=false)(h:isF n fs[k]=true):pG fs n=(fs[k].n,true):=by
 have:fs.find? (isF n)=some fs[k]:=by
  rw[List.find?_eq_some_iff_getElem]
  refine⟨h,k,hk,rfl,fun j hjk=> ?_⟩
  have h1:j<fs.length:=by omega
  have:=hj j hjk
  simpa[iu,h1]using this
 simp[pG,this]
theorem RO {fs:List XField}{n:List UInt8}(hj:∀j,j<fs.length→iu (isF n) fs j=false):pG fs n=(0,false):=by
 have:fs.find? (isF n)=none:=by
  rw[List.find?_eq_none]
  intro x hx
  obtain⟨j,h1,rfl⟩:=List.mem_iff_getElem.1 hx
  have:=hj j h1
  simpa[iu,h1]using this
 simp[pG,this]
abbrev SW (x:Int×Bool):V:= .tup [(false,[.pv (.int .i64 x.1)]),(false,[.pv (.bool x.2)])]
theorem BC {r:XRecord}(h:r.fs.length≤maxLen)(n:List UInt8):ag Ph aF 217 [r.v,fJ n]=some (aa .i64 (gv (isF n) r.fs)):=by
 have e1:=DT (e:=XField.e) (p:=isF n) (xs:=r.fs) (k:=240) (z:=2) (kc:=241) (caps:=[[.str n]]) rfl h (fun _=>rfl) (fun x _=>by
  refine ae (fn:=mX) rfl ?_
  simp +contextual (maxSteps:=9999999) [mX,XField.e.eq_1,r9,isF])
 refine ae (fn:=oK) rfl ?_
 simp +contextual (maxSteps:=9999999) [oK,kK,pO,e1]
theorem il {r:XRecord}(h:r.fs.length≤maxLen)(n:List UInt8):ag Ph aF 186 [r.v,fJ n]=some (SW (pG r.fs n)):=by
 refine ae (fn:=nJ) rfl ?_
 simp +contextual (maxSteps:=9999999) [nJ]
 refine aA aM Cl.fin [.f,.t,.t,.f,.f,.f,.t,.f,.f,.f,.f,.f,.f,.f,.f,.f,.f,.f,.f,.f,.f,.f,.f,.f,.f,.f,.f,.f] (fun k=>[(6,aa .i64 k)]) r.fs.length (iu (isF n) r.fs) rfl (by simp) (fun k hk hj=> ?_) (fun hj _=> ?_)
 ·have hf:=RP hk hj
  simp +contextual (maxSteps:=9999999) [jh,iu,isF,hk,hf,aD h hk,aS hk,XField.e.eq_1 r.fs[k]]
 ·simp +contextual (maxSteps:=9999999) [jh,RO hj]
theorem NT (fs:List XField)(n:List UInt8):(gv (isF n) fs= -1∧pG fs n=(0,false))∨∃j,∃hj:j<fs.length,gv (isF n) fs=(j:Int)∧pG fs n=(fs[j].n,true):=by
 unfold gv pG
 cases h:fs.findIdx? (isF n)with
 |none=>
  have:fs.find? (isF n)=none:=by rw[List.findIdx?_eq_none_iff]at h;rw[List.find?_eq_none];exact fun x hx=>by simp[h x hx]
  simp[this]
 |some i=>
  rw[List.findIdx?_eq_some_iff_getElem]at h
  obtain⟨h1,h2,h3⟩:=h
  have:fs.find? (isF n)=some fs[i]:=by
   rw[List.find?_eq_some_iff_getElem]
   exact⟨h2,i,h1,rfl,fun j hj=>by simpa using h3 j hj⟩
  exact .inr ⟨i,h1,rfl,by simp[this]⟩
theorem ik {r:XRecord}(h:r.fs.length≤maxLen)(n:List UInt8):ag Ph aF 190 [r.v,fJ n]=some (SW (pG r.fs n)):=by
 have e1:=BC h n
 rcases NT r.fs n with⟨h1,h2⟩|⟨j,hj,h1,h2⟩<;>rw[h1]at e1<;>rw[h2]
 all_goals refine ae (fn:=kD) rfl ?_
 ·simp +contextual (maxSteps:=9999999) [kD,e1,dK]
 ·simp +contextual (maxSteps:=9999999) [kD,e1,dK,hj,XField.e.eq_1 r.fs[j]]
end Gi
namespace Gi
open Go Go.RowKit
set_option maxHeartbeats 4000000
def OP :Nat→Nat→List UInt8
 |0,_=>[]
 |f+1,n=>if n<128 then [UInt8.ofNat n]else UInt8.ofNat (n%128+128)::OP f (n/128)
def qV (n:Nat):List UInt8:=OP 6 n
theorem MX :∀(f n:Nat),(OP f n).length≤f
 |0,n=>by simp[OP]
 |f+1,n=>by
  have:=MX f (n/128)
  unfold OP
  split<;>simp<;>omega
theorem rU (n:Nat):(qV n).length≤6:=MX 6 n
theorem GI {n:Nat}(h:n<128):(qV n).length=1:=by simp[qV,OP,h]
def Iy (s:List UInt8):List UInt8:=qV s.length++s
def Sa (x:Nat):List UInt8:=[UInt8.ofNat (x/1099511627776),UInt8.ofNat (x/4294967296),UInt8.ofNat (x/16777216),UInt8.ofNat (x/65536),UInt8.ofNat (x/256),UInt8.ofNat x]
def lC (k:XKey):List UInt8:=if qE k=true then UInt8.ofNat k.kind.toNat::((if k.kind=2 then []else Sa (k.n+1000000000000).toNat)++k.text)else []
theorem Ea {n a b:Int}:rg n a b=true↔a≤n∧n≤b:=by simp[rg,dK]
theorem zI {k:XKey}(h:qE k=true):1≤k.kind∧k.kind≤3∧-1000000000000≤k.n∧k.n≤1000000000000∧(k.kind=2→k.n=0)∧k.text.length≤12:=by
 unfold qE sK at h
 simp only[Bool.and_eq_true,Ea,Bool.or_eq_true,Bool.not_eq_true',beq_eq_false_iff_ne,beq_iff_eq]at h
 obtain⟨⟨⟨⟨⟨h1,h2⟩,h3,h4⟩,h5⟩,_,h6⟩,_⟩:=h
 have:=of_decide_eq_false h6
 exact⟨h1,h2,h3,h4,fun q=>h5.resolve_left (fun z=>z q),by omega⟩
theorem CC (k:XKey):(lC k).length≤19:=by
 unfold lC
 split
 ·rename_i h
  have:=(zI h).2.2.2.2.2
  split<;>simp[Sa]<;>omega
 ·simp
def QI (f:XField):List UInt8:=Iy f.name++qV f.n.toNat
def iv (l:List XField):List UInt8:=l.flatMap QI
def sa (r:XRecord):List UInt8:=if nV r.fs=true then qV r.fs.length++iv r.fs else []
def TC (f:XField):Prop:=f.name.length≤8∧0≤f.n∧f.n≤1000000000000
theorem Lj {s:List UInt8}(h:cC s=true):1≤s.length∧s.length≤8:=by
 simp only[cC,qj,Bool.and_eq_true,Ea]at h
 omega
theorem zS {r:XRecord}(h:nV r.fs=true):r.fs.length≤6∧∀f∈r.fs,TC f:=by
 simp only[nV,Bool.and_eq_true,Bool.not_eq_true']at h
 have hl:=of_decide_eq_false h.2
 refine⟨by omega,fun f m=> ?_⟩
 obtain⟨j,hj,rfl⟩:=List.mem_iff_getElem.1 m
 have:=O5 h.1 hj
 simp only[Nc,hj,show j-1<r.fs.length by omega,List.getElem?_eq_getElem,Bool.or_eq_false_iff,Bool.not_eq_false',Ea]at this
 have q:=Lj this.1
 exact⟨q.2,this.2.1.1,by omega⟩
theorem tC :∀(l:List XField),(∀f∈l,TC f)→(iv l).length≤15*l.length
 |[],h=>by simp[iv]
 |f::l,h=>by
  have ih:=tC l (fun g m=>h g (by simp[m]))
  have h1:=(h f (by simp)).1
  have h2:=GI (n:=f.name.length) (by omega)
  have h3:=rU f.n.toNat
  simp only[iv,List.flatMap_cons,QI,Iy,List.length_append,List.length_cons]at ih⊢
  omega
theorem CE (r:XRecord):(sa r).length≤91:=by
 unfold sa
 split
 ·rename_i h
  obtain⟨h1,h2⟩:=zS h
  have:=tC r.fs h2
  have:=GI (n:=r.fs.length) (by omega)
  simp only[List.length_append]
  omega
 ·simp
structure Raw where
 kind:Nat
 a:List UInt8
 b:List UInt8
 c:List UInt8
 d:List UInt8
structure XOp where
 kind:Int
 store:List UInt8
 key:XKey
 rcd:XRecord
 field:List UInt8
def XOp.e (x:XOp):List PV:=[.int .i64 x.kind, .str x.store, .int .i64 x.key.kind, .int .i64 x.key.n, .str x.key.text, .lst (x.rcd.fs.map XField.e), .str x.field]
abbrev XOp.v (x:XOp):V:= .agg [.pv (.int .i64 x.kind), .pv (.str x.store), .pv (.int .i64 x.key.kind), .pv (.int .i64 x.key.n), .pv (.str x.key.text), .pv (.lst (x.rcd.fs.map XField.e)), .pv (.str x.field)]
def XOp.Ok (B:Nat)(x:XOp):Prop:=pI x.kind∧x.store.length≤B∧x.key.Ok B∧x.rcd.Ok B∧x.field.length≤B
end Gi
