/- Of this proof. -/
import Derived.KernelRfl
import Derived.Test.YtgmnakghjemjlaaGreatGpr
import Derived.Test.YtgmnakghjemjlaaGreatGka
set_option linter.unusedSimpArgs false
set_option linter.unusedVariables false
namespace Gi
open Go Go.RowKit
mutual
def Qw :PTy→Bool
 | .lst ts=>decide (ts.length≤64)&&Jx ts
 |_=>true
def Jx :List PTy→Bool
 |[]=>true
 |t::ts=>Qw t&&Jx ts
end
mutual
theorem OI (mT:Int→List UInt8):∀(p:PV)(t:PTy)(k:Int),ni t p→Qw t=true→(jA mT p k).2≤k+1+64*(sz p:Int)
 | .int κ n,t,k,h,hn=>by simp only[jA,sz];omega
 | .bool b,t,k,h,hn=>by simp only[jA,sz];omega
 | .str s,t,k,h,hn=>by simp only[jA,sz];omega
 | .lst rows,t,k,h,hn=>by
  cases t with
  |lst ts=>
   simp only[Qw,Bool.and_eq_true,decide_eq_true_eq]at hn
   have:=F7 mT rows ts k (aL h).2 hn.1 hn.2
   rw[jJ]
   simp only[jA]
   omega
  |int κ=>simp[ni]at h
  |bool=>simp[ni]at h
  |str=>simp[ni]at h
theorem Kz (mT:Int→List UInt8):∀(ps:List PV)(ts:List PTy)(k:Int),ba ts ps→Jx ts=true→(nB mT ps k).2≤k+ps.length+64*(eO ps:Int)
 |[],ts,k,h,hn=>by simp only[nB,eO,List.length_nil];omega
 |p::ps,[],k,h,hn=>by simp[ba]at h
 |p::ps,t::ts,k,h,hn=>by
  simp only[Jx,Bool.and_eq_true]at hn
  have h1:ni t p∧ba ts ps:=by simpa only[ba]using h
  have a:=OI mT p t k h1.1 hn.1
  have b:=Kz mT ps ts (jA mT p k).2 h1.2 hn.2
  simp only[nB,eO,List.length_cons]
  omega
theorem F7 (mT:Int→List UInt8):∀(rows:List (List PV))(ts:List PTy)(k:Int),(∀r∈rows,ba ts r)→ts.length≤64→Jx ts=true→(bQ mT rows k).2≤k+64*((rows.length:Int)+(cC rows:Int))
 |[],ts,k,h,hl,hn=>by simp only[bQ,cC,List.length_nil];omega
 |r::rows,ts,k,h,hl,hn=>by
  have hr:=h r (by simp)
  have a:=Kz mT r ts k hr hn
  have b:=F7 mT rows ts (nB mT r k).2 (fun r m=>h r (by simp[m])) hl hn
  have:=i9 hr
  simp only[bQ,cC,List.length_cons]
  omega
end
theorem sI (mT:Int→List UInt8):∀(ps:List PV)(ts:List PTy)(k:Int),ba ts ps→Jx ts=true→(eY mT ps k).2≤k+64*(eO ps:Int)
 |[],ts,k,h,hn=>by simp only[eY,eO];omega
 |p::ps,[],k,h,hn=>by simp[ba]at h
 |p::ps,t::ts,k,h,hn=>by
  simp only[Jx,Bool.and_eq_true]at hn
  have h1:ni t p∧ba ts ps:=by simpa only[ba]using h
  cases p with
  |lst rows=>
   cases t with
   |lst us=>
    have hn1:=hn.1
    simp only[Qw,Bool.and_eq_true,decide_eq_true_eq]at hn1
    have a:=F7 mT rows us k (aL h1.1).2 hn1.1 hn1.2
    have b:=sI mT ps ts (bQ mT rows k).2 h1.2 hn.2
    simp only[eY,eO,jJ]
    omega
   |int κ=>simp[ni]at h1
   |bool=>simp[ni]at h1
   |str=>simp[ni]at h1
  |int κ n=>have b:=sI mT ps ts k h1.2 hn.2;simp only[eY,eO];omega
  |bool c=>have b:=sI mT ps ts k h1.2 hn.2;simp only[eY,eO];omega
  |str s=>have b:=sI mT ps ts k h1.2 hn.2;simp only[eY,eO];omega
theorem OQ {ts:List PTy}{ps:List PV}(h:ba ts ps):(gA ts ps).map du=ps.map .pv:=by
 refine fy (P:=fun ts ps=>(gA ts ps).map du=ps.map .pv) rfl ?_ ?_ ts ps h
 ·intro us rows ts ps _ _ ih
  cases rows<;>simp only[gA,uz,List.map_cons,du,ih]
 ·intro t p ts ps h1 ht hp _ ih
  simp only[gA,vX ht h1,List.map_cons,du,ih]
theorem Ma {ts:List PTy}{ps:List PV}(h:ba ts ps)(hh:List AObj):pb hh (.agg (gA ts ps))=(.agg (iE hh.length ts ps),hh++gn ts ps):=by
 have key:∀(ts:List PTy)(ps:List PV),ba ts ps→∀hh:List AObj,∃ds,thawL hh (gA ts ps)=(iE hh.length ts ps,hh++ds)∧ds.map AObj.zone=gn ts ps:=by
  refine fy ?_ ?_ ?_
  ·intro hh;exact⟨[],by simp[gA,thawL,iE],rfl⟩
  ·intro us rows ts ps _ _ ih hh
   cases rows with
   |nil=>
    obtain⟨ds,e1,e2⟩:=ih (hh++[.arr us.length []])
    refine⟨.arr us.length []::ds,?_,by simp only[List.map_cons,e2,AObj.zone,gn]⟩
    simp only[gA,uz,thawL,e1,iE,List.length_append,List.length_singleton,List.append_assoc,List.cons_append,List.nil_append]
   |cons r rows=>
    obtain⟨ds,e1,e2⟩:=ih (hh++[.darr us.length (r::rows)])
    refine⟨.darr us.length (r::rows)::ds,?_,by simp only[List.map_cons,e2,AObj.zone,gn]⟩
    simp only[gA,uz,thawL,e1,iE,List.length_append,List.length_singleton,List.append_assoc,List.cons_append,List.nil_append]
  ·intro t p ts ps h1 ht hp _ ih hh
   obtain⟨ds,e1,e2⟩:=ih hh
   refine⟨ds,?_,by rw[e2,gy ht]⟩
   simp only[gA,vX ht h1]
   rw[kO ht]
   simp only[thawL,e1]
 obtain⟨ds,e1,_⟩:=key ts ps h hh
 obtain⟨ds',f1,f2⟩:=key ts ps h []
 simp only[pb,thaw,e1,f1,List.nil_append,f2]
end Gi
namespace Gi
open Go Go.RowKit
set_option maxHeartbeats 8000000
set_option maxRecDepth 8000
attribute [local simp] bu fm aj ah az aI bg bX Opd.ev put V.cells plain bn f9 isInt isStr isBool bin bD un asList L.view ap V.view viewL aS av bx bP comp aK bt ai V.flat L.flat dL du bA putAt freezeVs freezeLs freezeL V.mut L.mut lent AObj.unz L.unsub pE sL jB rE kE wt PV.bare PV.flat jt cV thaw thawL AObj.zone hC tn D7 gg o7 MK Qj ML MS.ts gv gf gm eQ gl
def ln (z:Nat):List (List PV)→L
 |[]=> .pv (.lst [])
 |r::rs=> .down z (r::rs)
def oz (z:Nat)(rows rows':List (List PV)):List (Bool×List L):=match rows with
 |[]=>[]
 |_::_=>[(false,[.down z rows'])]
theorem ES (z:Nat)(c:List (List PV)):(c=[]∧nd z c= .nil∧ln z c= .pv (.lst [])∧(∀r,oz z c r=[])∧Ei z c= .nil)∨(c≠[]∧nd z c= .down z c∧ln z c= .down z c∧(∀r,oz z c r=[(false,[.down z r])])∧Ei z c= .own z c):=by
 cases c with
 |nil=>exact .inl ⟨rfl,rfl,rfl,fun _=>rfl,rfl⟩
 |cons r rs=>exact .inr ⟨by simp,rfl,rfl,fun _=>rfl,rfl⟩
def qs (c3 c4 c6 c7 c8 c9:List (List PV))(k:Int):List (List (List PV)×Int):=
 let q3:=bQ am c3 k
 let q4:=bQ am c4 q3.2
 let q6:=bQ am c6 q4.2
 let q7:=bQ am c7 q6.2
 let q8:=bQ am c8 q7.2
 let q9:=bQ am c9 q8.2
 [q3,q4,q6,q7,q8,q9]
theorem Ay (k:Int):ag Ph aG (426+jr) [.agg [.pv (.lst [])],aa .i64 k]=some (.tup [(false,[.pv (.int .i64 k)])]):=by
 have c:=(rJ (ext:=aG)).1 k
 refine qW (fn:=ky) rfl rfl rfl ?_
 simp[ky,c]
theorem Rg {c0 c2 c5:Int}{on:Bool}{c3 c4 c6 c7 c8 c9:List (List PV)}(h:ba eT [.int .i64 c0, .bool on, .int .i64 c2, .lst c3, .lst c4, .int .i64 c5, .lst c6, .lst c7, .lst c8, .lst c9]){k:Int}(k0:0≤k)(hk:(bQ am c9 (bQ am c8 (bQ am c7 (bQ am c6 (bQ am c4 (bQ am c3 k).2).2).2).2).2).2≤tC):
 ag Ph aG (420+jr) [.agg [.pv (.int .i64 c0), .pv (.bool on), .pv (.int .i64 c2),ln 24 c3, .down 11 c4, .pv (.int .i64 c5), .down 4 c6, .down 3 c7,ln 4 c8,ln 5 c9],aa .i64 k]=some (.tup ((false,[.pv (.int .i64 (bQ am c9 (bQ am c8 (bQ am c7 (bQ am c6 (bQ am c4 (bQ am c3 k).2).2).2).2).2).2)])::(oz 24 c3 (bQ am c3 k).1++((false,[.down 11 (bQ am c4 (bQ am c3 k).2).1])::(false,[.down 4 (bQ am c6 (bQ am c4 (bQ am c3 k).2).2).1])::(false,[.down 3 (bQ am c7 (bQ am c6 (bQ am c4 (bQ am c3 k).2).2).2).1])::(oz 4 c8 (bQ am c8 (bQ am c7 (bQ am c6 (bQ am c4 (bQ am c3 k).2).2).2).2).1++oz 5 c9 (bQ am c9 (bQ am c8 (bQ am c7 (bQ am c6 (bQ am c4 (bQ am c3 k).2).2).2).2).2).1))))):=by
 simp only[eT,ba]at h
 obtain⟨_,_,_,g3,g4,_,g6,g7,g8,g9,_⟩:=h
 have l3:=m8 (mT:=am) c3 k
 have l4:=m8 (mT:=am) c4 (bQ am c3 k).2
 have l6:=m8 (mT:=am) c6 (bQ am c4 (bQ am c3 k).2).2
 have l7:=m8 (mT:=am) c7 (bQ am c6 (bQ am c4 (bQ am c3 k).2).2).2
 have l8:=m8 (mT:=am) c8 (bQ am c7 (bQ am c6 (bQ am c4 (bQ am c3 k).2).2).2).2
 have l9:=m8 (mT:=am) c9 (bQ am c8 (bQ am c7 (bQ am c6 (bQ am c4 (bQ am c3 k).2).2).2).2).2
 have s3:ag Ph aG (426+jr) [.agg [ln 24 c3],aa .i64 k]=some (.tup ((false,[.pv (.int .i64 (bQ am c3 k).2)])::oz 24 c3 (bQ am c3 k).1)):=by
  cases c3 with
  |nil=>exact Ay k
  |cons r rs=>exact rS (ext:=aG) [.lst (r::rs)] ⟨g3,trivial⟩ k k0 (by show(bQ am (r::rs) k).2≤tC;omega)
 have s4:ag Ph aG (427+jr) [.one (.down 11 c4),aa .i64 (bQ am c3 k).2]=some (.tup [(false,[.pv (.int .i64 (bQ am c4 (bQ am c3 k).2).2)]),(false,[.down 11 (bQ am c4 (bQ am c3 k).2).1])]):=(wy (ext:=aG)).2 c4 g4 _ (by omega) (by omega)
 have s6:ag Ph aG (428+jr) [.agg [.down 4 c6],aa .i64 (bQ am c4 (bQ am c3 k).2).2]=some (.tup [(false,[.pv (.int .i64 (bQ am c6 (bQ am c4 (bQ am c3 k).2).2).2)]),(false,[.down 4 (bQ am c6 (bQ am c4 (bQ am c3 k).2).2).1])]):=pW (ext:=aG) [.lst c6] ⟨g6,trivial⟩ _ (by omega) (by show(bQ am c6 _).2≤tC;omega)
 have s7:ag Ph aG (429+jr) [.agg [.down 3 c7],aa .i64 (bQ am c6 (bQ am c4 (bQ am c3 k).2).2).2]=some (.tup [(false,[.pv (.int .i64 (bQ am c7 (bQ am c6 (bQ am c4 (bQ am c3 k).2).2).2).2)]),(false,[.down 3 (bQ am c7 (bQ am c6 (bQ am c4 (bQ am c3 k).2).2).2).1])]):=rR (ext:=aG) [.lst c7] ⟨g7,trivial⟩ _ (by omega) (by show(bQ am c7 _).2≤tC;omega)
 have s8:ag Ph aG (430+jr) [.one (ln 4 c8),aa .i64 (bQ am c7 (bQ am c6 (bQ am c4 (bQ am c3 k).2).2).2).2]=some (.tup ((false,[.pv (.int .i64 (bQ am c8 (bQ am c7 (bQ am c6 (bQ am c4 (bQ am c3 k).2).2).2).2).2)])::oz 4 c8 (bQ am c8 (bQ am c7 (bQ am c6 (bQ am c4 (bQ am c3 k).2).2).2).2).1)):=by
  cases c8 with
  |nil=>exact(qy (ext:=aG)).1 _
  |cons r rs=>exact(qy (ext:=aG)).2 (r::rs) g8 _ (by omega) (by omega)
 have s9:ag Ph aG (431+jr) [.one (ln 5 c9),aa .i64 (bQ am c8 (bQ am c7 (bQ am c6 (bQ am c4 (bQ am c3 k).2).2).2).2).2]=some (.tup ((false,[.pv (.int .i64 (bQ am c9 (bQ am c8 (bQ am c7 (bQ am c6 (bQ am c4 (bQ am c3 k).2).2).2).2).2).2)])::oz 5 c9 (bQ am c9 (bQ am c8 (bQ am c7 (bQ am c6 (bQ am c4 (bQ am c3 k).2).2).2).2).2).1)):=by
  cases c9 with
  |nil=>exact(oA (ext:=aG)).1 _
  |cons r rs=>exact(oA (ext:=aG)).2 (r::rs) g9 _ (by omega) (by omega)
 clear hk k0 g3 g4 g6 g7 g8 g9 l3 l4 l6 l7 l8 l9
 generalize bQ am c3 k=q3 at s3 s4 s6 s7 s8 s9⊢
 generalize bQ am c4 q3.2=q4 at s4 s6 s7 s8 s9⊢
 generalize bQ am c6 q4.2=q6 at s6 s7 s8 s9⊢
 generalize bQ am c7 q6.2=q7 at s7 s8 s9⊢
 generalize bQ am c8 q7.2=q8 at s8 s9⊢
 generalize bQ am c9 q8.2=q9 at s9⊢
 rcases ES 24 c3 with⟨_,_,u3,v3,_⟩|⟨_,_,u3,v3,_⟩<;>rcases ES 4 c8 with⟨_,_,u8,v8,_⟩|⟨_,_,u8,v8,_⟩<;>rcases ES 5 c9 with⟨_,_,u9,v9,_⟩|⟨_,_,u9,v9,_⟩<;>simp only[u3,v3,u8,v8,u9,v9]at s3 s8 s9⊢ <;>(refine qW (fn:=mf) rfl rfl rfl ?_;simp[mf,s3,s4,s6,s7,s8,s9])
end Gi
namespace Gi
open Go Go.RowKit
set_option maxHeartbeats 4000000
set_option maxRecDepth 4000
attribute [local simp] bu sQ bg bX ep fZ ej fY f8 f7 uP uY uQ uZ uR u0 uS vd uT ve uU vf uV vg uW vh uX vi V.cells plain bn f9 isInt isStr isBool bin cW jN cX jO f4 un asList L.view ap V.view viewL aS av da cf bP comp aK bt dz ct bI bG bH bO bj cz aX bK aQ aY bM cB bL bJ bN V.flat L.flat dL du bA putAt thaw thawL thawT V.ow f6 ew ez cY f5 cZ eu freezeVs freezeLs freezeL V.mut L.mut aJ fq i7 aM be aE dq bE bi bS L.ren aU dM cj dQ bT bC wp_seq wp_block bF eB db cg dd wp_skip wp_exit wp_ret cN cM cS cO dj dk di cq aW L.notArr aP aN aO eA bo storeD bc fR br cE bf nE L.mov L.closed V.closed PV.bare PV.flat
def rg (n a b:Int):Bool:= !(dK n a)&& !(dK b n)
theorem aZ (n a b:Int):ag Ph aG 61 [aa .i64 n,aa .i64 a,aa .i64 b]=some (au (rg n a b)):=by
 refine ae (fn:=nJ) rfl ?_
 simp +contextual (maxSteps:=9999999) [nJ,rg]
theorem bq (n a b:Int):ag Ph aG 58 [aa .i64 n,aa .i64 a,aa .i64 b]=some (au (rg n a b)):=by
 refine ae (fn:=rf) rfl ?_
 simp +contextual (maxSteps:=9999999) [rf,rg]
def PR (a b:Int):Int:=if dK a b then-1 else if dK b a then 1 else 0
theorem sY (a b:Int):ag Ph aG 362 [aa .i64 a,aa .i64 b]=some (aa .i64 (PR a b)):=by
 refine ae (fn:=kl) rfl ?_
 simp +contextual (maxSteps:=9999999) [kl,PR]
theorem CY (a b:Bool):ag Ph aG 359 [au a,au b]=some (aa .i64 (if a=true then-1 else if b=true then 1 else 0)):=by
 refine ae (fn:=pt) rfl ?_
 simp +contextual (maxSteps:=9999999) [pt]
def I1 (sl:Bool)(s:List UInt8)(k:Nat):Bool:=match s[k]? with
 |some b=>(dK b.toNat 97||dK 122 b.toNat)&& !(sl&&(b.toNat:Int)==47)
 |none=>false
def pD (s:List UInt8)(m:Int)(sl:Bool):Bool:= !(fL s.length (I1 sl s))&&rg s.length 1 m
abbrev cy (s:List UInt8):Bool:=pD s 8 false
theorem rz {s:List UInt8}(h:s.length≤maxLen)(m:Int)(sl:Bool):ag Ph aG 213 [dS s,aa .i64 m,au sl]=some (au (pD s m sl)):=by
 refine ae (fn:=pm) rfl ?_
 simp +contextual (maxSteps:=9999999) [pm]
 refine aB aR Cl.fin [.t,.t,.t,.f,.f,.f,.f,.t,.f,.f,.f,.f,.f,.f,.f,.f,.f,.f,.f,.f,.f,.f,.f,.f,.f,.f,.f,.f,.f,.f,.f,.f,.f,.f,.f,.f,.f,.f] (fun k=>[(7,aa .i64 k)]) s.length (I1 sl s) rfl (by simp) (fun k hk _=> ?_) (fun _ hp=> ?_)
 ·simp +contextual (maxSteps:=9999999) [jW,I1,pD,hk,aF h hk,aV hk]
 ·simp +contextual (maxSteps:=9999999) [jW,pD,hp,aZ]
theorem bh {s:List UInt8}(h:s.length≤maxLen):ag Ph aG 178 [dS s]=some (au (cy s)):=by
 refine ae (fn:=ph) rfl ?_
 simp[ph,rz h]
theorem ca {s:List UInt8}(h:s.length≤maxLen):ag Ph aG 177 [dS s]=some (au (cy s)):=by
 refine ae (fn:=pn) rfl ?_
 simp +contextual (maxSteps:=9999999) [pn]
 refine aB aR Cl.fin [.t,.f,.f,.t,.f,.f,.f,.f,.f,.f,.f,.f,.f,.f,.f,.f,.f,.f,.f,.f,.f,.f,.f] (fun k=>[(3,aa .i64 k)]) s.length (I1 false s) rfl (by simp) (fun k hk _=> ?_) (fun _ hp=> ?_)
 ·simp +contextual (maxSteps:=9999999) [jX,I1,cy,pD,hk,aF h hk,aV hk]
 ·simp +contextual (maxSteps:=9999999) [jX,cy,pD,hp,bq]
def M6 (s:List UInt8)(k:Nat):Bool:=match s[k]? with
 |some b=>(dK b.toNat 97||dK 122 b.toNat)&&(dK b.toNat 48||dK 57 b.toNat)
 |none=>false
def rB (s:List UInt8):Bool:= !(fL s.length (M6 s))&& !(dK 12 s.length)
theorem wl {s:List UInt8}(h:s.length≤maxLen):ag Ph aG 90 [dS s]=some (au (rB s)):=by
 refine ae (fn:=me) rfl ?_
 simp +contextual (maxSteps:=9999999) [me]
 refine aB aR Cl.fin [.t,.f,.f,.t,.f,.f,.f,.f,.f,.f,.f,.f,.f,.f,.f,.f,.f,.f,.f,.f,.f,.f,.f,.f,.f,.f,.f,.f,.f,.f,.f,.f,.f,.f,.f,.f] (fun k=>[(3,aa .i64 k)]) s.length (M6 s) rfl (by simp) (fun k hk _=> ?_) (fun _ hp=> ?_)
 ·simp +contextual (maxSteps:=9999999) [ii,M6,rB,hk,aF h hk,aV hk]
 ·simp +contextual (maxSteps:=9999999) [ii,rB,hp]
theorem CZ {s:List UInt8}(h:s.length≤maxLen):ag Ph aG 88 [dS s]=some (au (rB s)):=by
 refine ae (fn:=pw) rfl ?_
 simp +contextual (maxSteps:=9999999) [pw]
 refine aB aR Cl.fin [.t,.f,.f,.t,.f,.f,.f,.f,.f,.f,.f,.f,.f,.f,.f,.f,.f,.f,.f,.f,.f,.f,.f,.f,.f,.f,.f,.f,.f,.f,.f,.f,.f,.f,.f] (fun k=>[(3,aa .i64 k)]) s.length (M6 s) rfl (by simp) (fun k hk _=> ?_) (fun _ hp=> ?_)
 ·simp +contextual (maxSteps:=9999999) [j0,M6,rB,hk,aF h hk,aV hk]
 ·simp +contextual (maxSteps:=9999999) [j0,rB,hp]
def pT (a:XKey):Bool:=rg a.kind 1 3&&rg a.n (-1000000000000) 1000000000000&&(!(a.kind==2)||a.n==0)&&rB a.text&&(!(a.kind==1)||a.text==[])
theorem mB {a:XKey}(h:a.Ok maxLen):ag Ph aG 67 [a.v]=some (au (pT a)):=by
 refine ae (fn:=ql) rfl ?_
 simp +contextual (maxSteps:=9999999) [ql,aZ,wl h.2.2,pT]<;>grind
theorem mC {a:XKey}(h:a.Ok maxLen):ag Ph aG 65 [a.v]=some (au (pT a)):=by
 refine ae (fn:=qm) rfl ?_
 simp +contextual (maxSteps:=9999999) [qm,bq,CZ h.2.2,pT]<;>grind
theorem Ej (a b:List UInt8):ag Ph aG 363 [dS a,dS b]=some (aa .i64 (Lib.compareBytes a b)):=Lj rfl rfl
theorem o4 :∀(a b:List UInt8),Lib.compareBytes a b=if Op.bytesLess a b=true then-1 else if Op.bytesLess b a=true then 1 else 0
 |[],[]=>rfl
 |[],_::_=>rfl
 |_::_,[]=>rfl
 |a::xz,b::bs=>by
  have ih:=o4 xz bs
  simp only[Lib.compareBytes,Op.bytesLess,ih]
  by_cases h1:a<b
  ·simp[h1]
  ·by_cases h2:b<a
   ·have h3:¬a=b:=fun h=>by subst h;exact absurd h2 (UInt8.lt_irrefl _)
    simp[h1,h2,h3]
   ·obtain rfl:a=b:=UInt8.le_antisymm (UInt8.not_lt.1 h2) (UInt8.not_lt.1 h1)
    simp[UInt8.lt_irrefl]
def Lo (a b:XKey):Int:=if pT a=false∨pT b=false then 0 else if a.kind≠b.kind then PR a.kind b.kind else if a.n≠b.n then PR a.n b.n else Lib.compareBytes a.text b.text
theorem nf {a b:XKey}(ha:a.Ok maxLen)(hb:b.Ok maxLen):ag Ph aG 355 [a.v,b.v]=some (aa .i64 (Lo a b)):=by
 refine ae (fn:=kg) rfl ?_
 simp +contextual (maxSteps:=9999999) [kg,mB,sY,Ej,ha,hb,Lo]
 grind [PR,dK]
theorem nh {a b:XKey}(ha:a.Ok maxLen)(hb:b.Ok maxLen):ag Ph aG 351 [a.v,b.v]=some (aa .i64 (Lo a b)):=by
 refine ae (fn:=kB) rfl ?_
 simp +contextual (maxSteps:=9999999) [kB,mC,CY,ha,hb,Lo,o4]
 grind [PR,dK]
def La (fs:List XField)(k:Nat):Bool:=match fs[k]?,fs[k-1]? with
 |some x,some y=> !(cy x.name)||(!(rg x.n 0 1000000000)||(dK 0 k&& !(Op.bytesLess y.name x.name)))
 |_,_=>false
def ng (fs:List XField):Bool:= !(fL fs.length (La fs))&& !(dK 6 fs.length)
theorem pQ {r:XRecord}(h:r.Ok maxLen):ag Ph aG 246 [r.v]=some (au (ng r.fs)):=by
 refine ae (fn:=mO) rfl ?_
 simp +contextual (maxSteps:=9999999) [mO]
 refine aB aR Cl.fin [.f,.t,.f,.f,.f,.f,.t,.t,.t,.f,.f,.f,.f,.f,.f,.f,.f,.f,.f,.f,.f,.f,.f,.f,.f,.f,.f,.f,.f,.f,.f,.f,.f,.f,.f,.f,.f,.f,.f,.f,.f,.f,.f,.f] (fun k=>[(8,aa .i64 k)]) r.fs.length (La r.fs) rfl (by simp) (fun k hk _=> ?_) (fun _ hp=> ?_)
 ·obtain⟨q1,q2⟩:=td h.1 hk
  simp +contextual (maxSteps:=9999999) [iQ,La,ng,hk,q1,q2,aF h.1 hk,aV hk,XField.e.eq_1 r.fs[k],XField.e.eq_1 r.fs[k-1],bh (h.2 _ (List.getElem_mem hk)).1,aZ]
 ·simp +contextual (maxSteps:=9999999) [iQ,ng,hp]
theorem p4 {r:XRecord}(h:r.Ok maxLen):ag Ph aG 243 [r.v]=some (au (ng r.fs)):=by
 refine ae (fn:=mY) rfl ?_
 simp +contextual (maxSteps:=9999999) [mY]
 refine aB aR Cl.fin [.f,.t,.f,.t,.f,.f,.f,.f,.f,.f,.f,.f,.f,.f,.f,.f,.f,.f,.f,.f,.f,.f,.f,.f,.f,.f,.f,.f,.f,.f,.f,.f,.f,.f,.f,.f,.f,.f,.f,.f,.f,.f,.f,.f,.f,.f,.f,.f,.f,.f,.f,.f,.f] (fun k=>[(3,aa .i64 k)]) r.fs.length (La r.fs) rfl (by simp) (fun k hk _=> ?_) (fun _ hp=> ?_)
 ·obtain⟨q1,q2⟩:=td h.1 hk
  simp +contextual (maxSteps:=9999999) [iU,La,ng,hk,q1,q2,aF h.1 hk,aV hk,XField.e.eq_1 r.fs[k],XField.e.eq_1 r.fs[k-1],ca (h.2 _ (List.getElem_mem hk)).1,bq]
 ·simp +contextual (maxSteps:=9999999) [iU,ng,hp]
def gB {α:Type}(p:α→Bool)(xs:List α):Int:=match xs.findIdx? p with
 |some i=>(i:Int)
 |none=> -1
def iO {α:Type}(p:α→Bool)(xs:List α)(k:Nat):Bool:=match xs[k]? with
 |some x=>p x
 |none=>false
theorem ye {α:Type}{p:α→Bool}{xs:List α}{k:Nat}(hk:k<xs.length)(hj:∀j,j<k→iO p xs j=false)(h:p xs[k]=true):gB p xs=(k:Int):=by
 have:xs.findIdx? p=some k:=by
  rw[List.findIdx?_eq_some_iff_getElem]
  refine⟨hk,h,fun j hjk=> ?_⟩
  have h1:j<xs.length:=by omega
  have:=hj j hjk
  simpa[iO,h1]using this
 simp[gB,this]
theorem Cd {α:Type}{p:α→Bool}{xs:List α}(hj:∀j,j<xs.length→iO p xs j=false):gB p xs= -1:=by
 have:xs.findIdx? p=none:=by
  rw[List.findIdx?_eq_none_iff]
  intro x hx
  obtain⟨j,h1,rfl⟩:=List.mem_iff_getElem.1 hx
  simpa[iO,h1]using hj j h1
 simp[gB,this]
theorem Ov {α:Type}(p:α→Bool)(xs:List α):gB p xs= -1∨∃j,∃hj:j<xs.length,gB p xs=(j:Int)∧p xs[j]=true:=by
 unfold gB
 cases h:xs.findIdx? p with
 |none=>exact .inl rfl
 |some i=>
  rw[List.findIdx?_eq_some_iff_getElem]at h
  obtain⟨h1,h2,_⟩:=h
  exact .inr ⟨i,h1,rfl,h2⟩
def QU (z:Nat):ACode:=(.seq (.region [⟨(some 9),(.bin .lss (.tmp 8) (.tmp 7)),none⟩]) (.seq (.cond (.tmp 9) .skip (.exit 0)) (.seq (.block 1 (.seq (.region [⟨(some 10),(.mv (.tmp 8)),none⟩,⟨(some 5),(.mv (.tmp 10)),none⟩]) (.seq (.region [⟨(some 11),(.mv (.tmp 1)),none⟩,⟨(some 12),(.mv (.tmp 0)),none⟩,⟨(some 13),(.mv (.tmp 5)),none⟩,⟨(some 14),(.indexA z (.tmp 12) (.tmp 13)),none⟩,⟨(some 15),(.load true z (.tmp 14)),none⟩,⟨(some 16),(.callV (.tmp 11) [(.tmp 15)]),none⟩]) (.cond (.tmp 16) (.seq (.region [⟨(some 17),(.mv (.tmp 5)),none⟩,⟨(some 4),(.mv (.tmp 17)),none⟩]) .ret) .skip)))) (.region [⟨(some 18),(.bin .add (.tmp 8) (.pv (.int .i64 1))),none⟩,⟨(some 8),(.mv (.tmp 18)),none⟩]))))
def Q0 (z:Nat):AFn:=⟨19,[(.tmp 4)],(.seq (.region [⟨(some 4),(.mv (.pv (.int .i64 0))),none⟩]) (.seq (.seq (.region [⟨(some 6),(.mv (.tmp 0)),none⟩,⟨(some 7),(.len (.tmp 6)),none⟩,⟨(some 8),(.mv (.pv (.int .i64 0))),none⟩]) (.block 0 (.loop (QU z)))) (.seq (.region [⟨(some 4),(.mv (.pv (.int .i64 (-1)))),none⟩]) .ret)))⟩
theorem FX {α:Type}{e:α→List PV}{p:α→Bool}{xs:List α}{k z kc:Nat}{caps:List (List PV)}(hk:Ph k=some (Q0 z))(hl:xs.length≤maxLen)(hz:∀x,(e x).length=z)(hp:∀x∈xs,ag Ph aG kc (.agg ((e x).map .pv)::caps.map G9)=some (au (p x))):ag Ph aG k [bv (xs.map e), .one (.fn kc caps)]=some (aa .i64 (gB p xs)):=by
 refine ae hk ?_
 simp +contextual (maxSteps:=9999999) [Q0]
 refine aB aR Cl.fin [.t,.t,.f,.f,.f,.f,.f,.t,.t,.f,.f,.f,.f,.f,.f,.f,.f,.f,.f] (fun k=>[(8,aa .i64 k)]) xs.length (iO p xs) rfl (by simp) (fun k hk hj=> ?_) (fun hj _=> ?_)
 ·have hc:=hp _ (List.getElem_mem hk)
  have ht:List.take z ((e xs[k]).map L.pv)=(e xs[k]).map L.pv:=List.take_of_length_le (by simp[hz])
  have hf:=ye hk hj
  simp +contextual (maxSteps:=9999999) [QU,iO,hk,hz,ht,hc,hf,aF hl hk,aV hk,oQ]
 ·simp +contextual (maxSteps:=9999999) [QU,Cd hj]
def IT (s t:List UInt8)(x:XBucket):Bool:=x.site==s&&x.top==t
theorem ot {bs:List XBucket}(h:bs.length≤maxLen)(s t:List UInt8):ag Ph aG 175 [.agg [.pv (.lst (bs.map XBucket.e))],dS s,dS t]=some (aa .i64 (gB (IT s t) bs)):=by
 have e1:=FX (e:=XBucket.e) (p:=IT s t) (xs:=bs) (k:=209) (z:=24) (kc:=210) (caps:=[[.str s],[.str t]]) rfl h (fun _=>rfl) (fun x _=>by
  refine ae (fn:=jC) rfl ?_
  simp +contextual (maxSteps:=9999999) [jC,XBucket.e.eq_1,G9,IT])
 refine ae (fn:=kT) rfl ?_
 simp +contextual (maxSteps:=9999999) [kT,lN,qG,e1]
theorem oG {bs:List XBucket}(h:bs.length≤maxLen)(s t:List UInt8):ag Ph aG 145 [.agg [.pv (.lst (bs.map XBucket.e))],dS s,dS t]=some (aa .i64 (gB (IT s t) bs)):=by
 refine ae (fn:=la) rfl ?_
 simp +contextual (maxSteps:=9999999) [la]
 refine aB aR Cl.fin [.f,.t,.t,.t,.f,.f,.f,.t,.f,.f,.f,.f,.f,.f,.f,.f,.f,.f,.f,.f,.f,.f,.f,.f,.f,.f,.f,.f,.f,.f,.f,.f,.f,.f] (fun k=>[(7,aa .i64 k)]) bs.length (iO (IT s t) bs) rfl (by simp) (fun k hk hj=> ?_) (fun hj _=> ?_)
 ·have hf:=ye hk hj
  simp +contextual (maxSteps:=9999999) [gE,iO,IT,hk,hf,aF h hk,aV hk,XBucket.e.eq_1 bs[k]]
 ·simp +contextual (maxSteps:=9999999) [gE,Cd hj]
set_option maxHeartbeats 8000000
def M2 (xs:List XItem)(k:Nat):Bool:=match xs[k]?,xs[k-1]? with
 |some x,some y=> !(pT x.key)||(!(ng x.rcd.fs)||(dK 0 k&& !(dK (Lo y.key x.key) 0)))
 |_,_=>false
def lB (s:XStore):Bool:= !(fL s.items.length (M2 s.items))&&(cy s.name&&(!(dK 16 s.items.length)&&rg s.auto 0 1000000))
theorem m7 {s:XStore}(h:s.Ok maxLen):ag Ph aG 354 [s.v]=some (au (lB s)):=by
 refine ae (fn:=nL) rfl ?_
 simp +contextual (maxSteps:=9999999) [nL]
 refine aB aR Cl.fin [.f,.t,.f,.f,.f,.f,.t,.t,.t,.f,.f,.f,.f,.f,.f,.f,.f,.f,.f,.f,.f,.f,.f,.f,.f,.f,.f,.f,.f,.f,.f,.f,.f,.f,.f,.f,.f,.f,.f,.f,.f,.f,.f,.f,.f,.f,.f,.f,.f,.f,.f,.f,.f,.f,.f] (fun k=>[(8,aa .i64 k)]) s.items.length (M2 s.items) rfl (by simp) (fun k hk _=> ?_) (fun _ hp=> ?_)
 ·obtain⟨q1,q2⟩:=td h.2.1.1 hk
  obtain⟨h1,h2⟩:=h.2.1.2 _ (List.getElem_mem hk)
  have h3:=(h.2.1.2 _ (List.getElem_mem q2)).1
  have e1:=pQ h2
  have e2:=nf h3 h1
  simp +contextual (maxSteps:=9999999) [jn,M2,lB,hk,q1,q2,aF h.2.1.1 hk,aV hk,XItem.e.eq_1 s.items[k],XItem.e.eq_1 s.items[k-1],mB h1,e1,e2]
 ·simp +contextual (maxSteps:=9999999) [jn,lB,hp,bh h.1,aZ]
theorem m9 {s:XStore}(h:s.Ok maxLen):ag Ph aG 350 [s.v]=some (au (lB s)):=by
 refine ae (fn:=nQ) rfl ?_
 simp +contextual (maxSteps:=9999999) [nQ]
 refine aB aR Cl.fin [.f,.t,.f,.t,.f,.f,.f,.f,.f,.f,.f,.f,.f,.f,.f,.f,.f,.f,.f,.f,.f,.f,.f,.f,.f,.f,.f,.f,.f,.f,.f,.f,.f,.f,.f,.f,.f,.f,.f,.f,.f,.f,.f,.f,.f,.f,.f,.f,.f,.f,.f,.f,.f,.f,.f,.f,.f,.f,.f,.f,.f,.f,.f,.f] (fun k=>[(3,aa .i64 k)]) s.items.length (M2 s.items) rfl (by simp) (fun k hk _=> ?_) (fun _ hp=> ?_)
 ·obtain⟨q1,q2⟩:=td h.2.1.1 hk
  obtain⟨h1,h2⟩:=h.2.1.2 _ (List.getElem_mem hk)
  have h3:=(h.2.1.2 _ (List.getElem_mem q2)).1
  have e1:=p4 h2
  have e2:=nh h3 h1
  simp +contextual (maxSteps:=9999999) [jo,M2,lB,hk,q1,q2,aF h.2.1.1 hk,aV hk,XItem.e.eq_1 s.items[k],XItem.e.eq_1 s.items[k-1],mC h1,e1,e2]
 ·simp +contextual (maxSteps:=9999999) [jo,lB,hp,ca h.1,bq]
structure XRange where
 hasLow:Bool
 hasHigh:Bool
 low:XKey
 high:XKey
abbrev XRange.v (r:XRange):V:= .agg [.pv (.bool r.hasLow), .pv (.bool r.hasHigh), .pv (.int .i64 r.low.kind), .pv (.int .i64 r.low.n), .pv (.str r.low.text), .pv (.int .i64 r.high.kind), .pv (.int .i64 r.high.n), .pv (.str r.high.text)]
def XRange.Ok (r:XRange):Prop:=r.low.Ok maxLen∧r.high.Ok maxLen
def OD (n:List UInt8)(x:XStore):Bool:=x.name==n
theorem wc {d:XDatabase}(h:d.stores.length≤maxLen)(n:List UInt8):ag Ph aG 404 [d.v,dS n]=some (aa .i64 (gB (OD n) d.stores)):=by
 have e1:=FX (e:=XStore.e) (p:=OD n) (xs:=d.stores) (k:=410) (z:=3) (kc:=411) (caps:=[[.str n]]) rfl h (fun _=>rfl) (fun x _=>by
  refine ae (fn:=kh) rfl ?_
  simp +contextual (maxSteps:=9999999) [kh,XStore.e.eq_1,G9,OD])
 refine ae (fn:=lS) rfl ?_
 simp +contextual (maxSteps:=9999999) [lS,lN,qG,e1]
theorem wI {d:XDatabase}(h:d.stores.length≤maxLen)(n:List UInt8):ag Ph aG 400 [d.v,dS n]=some (aa .i64 (gB (OD n) d.stores)):=by
 refine ae (fn:=mh) rfl ?_
 simp +contextual (maxSteps:=9999999) [mh]
 refine aB aR Cl.fin [.f,.t,.t,.f,.f,.t,.f,.f,.f,.f,.f,.f,.f,.f,.f,.f,.f,.f,.f,.f,.f,.f] (fun k=>[(5,aa .i64 k)]) d.stores.length (iO (OD n) d.stores) rfl (by simp) (fun k hk hj=> ?_) (fun hj _=> ?_)
 ·have hf:=ye hk hj
  simp +contextual (maxSteps:=9999999) [ik,iO,OD,hk,hf,aF h hk,aV hk,XStore.e.eq_1 d.stores[k]]
 ·simp +contextual (maxSteps:=9999999) [ik,Cd hj]
def isF (n:List UInt8)(x:XField):Bool:=x.name==n
def oT (fs:List XField)(n:List UInt8):Int×Bool:=match fs.find? (isF n)with
 |some x=>(x.n,true)
 |none=>(0,false)
theorem Px {fs:List XField}{n:List UInt8}{k:Nat}(hk:k<fs.length)(hj:∀j,j<k→iO (isF n) fs j=false)(h:isF n fs[k]=true):oT fs n=(fs[k].n,true):=by
 have:fs.find? (isF n)=some fs[k]:=by
  rw[List.find?_eq_some_iff_getElem]
  refine⟨h,k,hk,rfl,fun j hjk=> ?_⟩
  have h1:j<fs.length:=by omega
  have:=hj j hjk
  simpa[iO,h1]using this
 simp[oT,this]
theorem Pw {fs:List XField}{n:List UInt8}(hj:∀j,j<fs.length→iO (isF n) fs j=false):oT fs n=(0,false):=by
 have:fs.find? (isF n)=none:=by
  rw[List.find?_eq_none]
  intro x hx
  obtain⟨j,h1,rfl⟩:=List.mem_iff_getElem.1 hx
  have:=hj j h1
  simpa[iO,h1]using this
 simp[oT,this]
abbrev Qs (x:Int×Bool):V:= .tup [(false,[.pv (.int .i64 x.1)]),(false,[.pv (.bool x.2)])]
theorem Aw {r:XRecord}(h:r.fs.length≤maxLen)(n:List UInt8):ag Ph aG 217 [r.v,dS n]=some (aa .i64 (gB (isF n) r.fs)):=by
 have e1:=FX (e:=XField.e) (p:=isF n) (xs:=r.fs) (k:=240) (z:=2) (kc:=241) (caps:=[[.str n]]) rfl h (fun _=>rfl) (fun x _=>by
  refine ae (fn:=mc) rfl ?_
  simp +contextual (maxSteps:=9999999) [mc,XField.e.eq_1,G9,isF])
 refine ae (fn:=nO) rfl ?_
 simp +contextual (maxSteps:=9999999) [nO,lN,qG,e1]
theorem gZ {r:XRecord}(h:r.fs.length≤maxLen)(n:List UInt8):ag Ph aG 186 [r.v,dS n]=some (Qs (oT r.fs n)):=by
 refine ae (fn:=mX) rfl ?_
 simp +contextual (maxSteps:=9999999) [mX]
 refine aB aR Cl.fin [.f,.t,.t,.f,.f,.f,.t,.f,.f,.f,.f,.f,.f,.f,.f,.f,.f,.f,.f,.f,.f,.f,.f,.f,.f,.f,.f,.f] (fun k=>[(6,aa .i64 k)]) r.fs.length (iO (isF n) r.fs) rfl (by simp) (fun k hk hj=> ?_) (fun hj _=> ?_)
 ·have hf:=Px hk hj
  simp +contextual (maxSteps:=9999999) [iS,iO,isF,hk,hf,aF h hk,aV hk,XField.e.eq_1 r.fs[k]]
 ·simp +contextual (maxSteps:=9999999) [iS,Pw hj]
theorem LQ (fs:List XField)(n:List UInt8):(gB (isF n) fs= -1∧oT fs n=(0,false))∨∃j,∃hj:j<fs.length,gB (isF n) fs=(j:Int)∧oT fs n=(fs[j].n,true):=by
 unfold gB oT
 cases h:fs.findIdx? (isF n)with
 |none=>
  have:fs.find? (isF n)=none:=by rw[List.findIdx?_eq_none_iff]at h;rw[List.find?_eq_none];exact fun x hx=>by simp[h x hx]
  simp[this]
 |some i=>
  rw[List.findIdx?_eq_some_iff_getElem]at h
  obtain⟨h1,h2,h3⟩:=h
  have:fs.find? (isF n)=some fs[i]:=by
   rw[List.find?_eq_some_iff_getElem]
   exact⟨h2,i,h1,rfl,fun j hj=>by simpa using h3 j hj⟩
  exact .inr ⟨i,h1,rfl,by simp[this]⟩
theorem gY {r:XRecord}(h:r.fs.length≤maxLen)(n:List UInt8):ag Ph aG 190 [r.v,dS n]=some (Qs (oT r.fs n)):=by
 have e1:=Aw h n
 rcases LQ r.fs n with⟨h1,h2⟩|⟨j,hj,h1,h2⟩<;>rw[h1]at e1<;>rw[h2]
 all_goals refine ae (fn:=j3) rfl ?_
 ·simp +contextual (maxSteps:=9999999) [j3,e1,dK]
 ·simp +contextual (maxSteps:=9999999) [j3,e1,dK,hj,XField.e.eq_1 r.fs[j]]
end Gi
