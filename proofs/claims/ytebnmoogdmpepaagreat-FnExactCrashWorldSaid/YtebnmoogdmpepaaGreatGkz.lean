/- Of this proof. -/
import Derived.Test.YtebnmoogdmpepaaGreatGoB
import Derived.Test.YtebnmoogdmpepaaGreatGkh
import Derived.Test.YtebnmoogdmpepaaGreatGko
import Derived.Test.YtebnmoogdmpepaaGreatGks
set_option linter.unusedSimpArgs false
set_option linter.unusedVariables false
namespace Gi
open Go Go.RowKit
set_option maxHeartbeats 8000000
set_option maxRecDepth 4000
attribute [local simp] start rB bj cf dG fp dF fo fx fw tJ tT tK tU tL tV tM tW tN tX tO tY tP tZ tQ t6 tR t7 V.cells plain bo gn isInt isStr isBool bin cC iT cD iU fq un asList L.view am V.view viewL aY ar cH bP bM comp aJ bH df bY bz bw bx bG bc ca aN bB aT aO bE cd bD bA bF V.flat L.flat dO di bv putAt thaw thawL thawT V.ow fv dK dL cE fu cF dJ freezeVs freezeLs freezeL V.mut L.mut aG ez ie aW bm aF dz bL bf bS L.ren aV dA ce dM bO bh wp_seq wp_block bt dP cI bR cJ wp_skip wp_exit wp_ret cA cy cP cB cW cX cV bX aM L.notArr aS aQ aR dN bp storeD aX fD br ct bd m9 L.mov L.closed V.closed PV.bare PV.flat
def JX (v:Int)(c:XCache):Bool:=c.version==v
theorem yO {cs:List XCache}(h:cs.length≤maxLen)(v:Int):ah Ph au 152 [.agg [.pv (.lst (cs.map XCache.e))],aa .i64 v]=some (aa .i64 (gu (JX v) cs)):=by
 have e1:=Fj (e:=XCache.e) (p:=JX v) (xs:=cs) (k:=179) (z:=2) (kc:=180) (caps:=[[.int .i64 v]]) rfl h (fun _=>rfl) (fun x _=>by
  refine ae (fn:=ly) rfl ?_
  simp +contextual (maxSteps:=9999999) [ly,XCache.e.eq_1,ww,JX])
 refine ae (fn:=nk) rfl ?_
 simp +contextual (maxSteps:=9999999) [nk,mc,rH,e1]
theorem zz {cs:List XCache}(h:cs.length≤maxLen)(v:Int):ah Ph au 150 [.agg [.pv (.lst (cs.map XCache.e))],aa .i64 v]=some (aa .i64 (gu (JX v) cs)):=by
 refine ae (fn:=nF) rfl ?_
 simp +contextual (maxSteps:=9999999) [nF]
 refine aC aU Cl.fin [.f,.t,.t,.f,.f,.t,.f,.f,.f,.f,.f,.f,.f,.f,.f,.f,.f,.f,.f,.f,.f,.f] (fun k=>[(5,aa .i64 k)]) cs.length (iZ (JX v) cs) rfl (by simp) (fun k hk hj=> ?_) (fun hj _=> ?_)
 ·have hf:=xb hk hj
  have hx:=XCache.e.eq_1 cs[k]
  have hs:JX v cs[k]=(cs[k].version==v):=rfl
  cases hg:JX v cs[k]
  ·rw[hg]at hs
   simp(maxSteps:=9999999) [gI,iZ,hk,hg,←hs,hx,aE h hk,aZ hk]
  ·have hf2:=hf hg
   have ha:iZ (JX v) cs k=true:=by simp only[iZ,hk,Zr,hg]
   rw[hg]at hs
   generalize iZ (JX v) cs k=A at ha⊢
   simp(maxSteps:=9999999) [gI,ha,hk,←hs,hf2,hx,aE h hk,aZ hk]
 ·simp +contextual (maxSteps:=9999999) [gI,AZ hj]
def D1 (cs:List XCache)(v:Int):List XCache×Bool:=bif cQ (gu (JX v) cs) 0 then(cs,false)else(cs.take (gu (JX v) cs).toNat++cs.drop ((gu (JX v) cs).toNat+1),true)
def SE (cs:List XCache)(v:Int):L:=bif cQ (gu (JX v) cs) 0 then nd 2 (cs.map XCache.e)else .down 2 ((D1 cs v).1.map XCache.e)
theorem RN {z:Nat}{c:List (List PV)}(h:0<c.length):nd z c= .down z c:=by cases c<;>simp_all[nd]
theorem yM {B:Nat}(hB:B≤1048576){x:XCacheSet}(h:x.Ok B)(v:Int):ah Ph au 643 [.agg [.pv (.lst (x.caches.map XCache.e))],aa .i64 v]=some (.tup [(true,[SE x.caches v]),(false,[.pv (.bool (D1 x.caches v).2)])]):=by
 have c:=oe hB h
 have f:=yO (cs:=x.caches) (by have:=h.1;unfold maxLen;omega) v
 rcases vp (JX v) x.caches with⟨q1,_⟩|⟨k,hk,q1,_⟩
 ·have l0:cQ (-1) 0=true:=rfl
  rw[q1]at f
  simp only[SE,D1,q1,l0,cond_true]
  have N:=eu 2 (x.caches.map XCache.e)
  generalize nd 2 (x.caches.map XCache.e)=n at N c⊢
  rcases N with⟨-,rfl⟩|⟨-,rfl⟩<;>(refine ae (fn:=iD) rfl ?_;simp(maxSteps:=9999999) [iD,c,f,l0])
 ·have l0:cQ (k:Int) 0=false:=kQ (by omega)
  have w1:IntKind.i64.wrap ((k:Int)+1)=(k:Int)+1:=aE (by have:=h.1;show x.caches.length≤maxLen;unfold maxLen;omega) hk
  rw[q1]at f
  have hm:(D1 x.caches v).1.map XCache.e=(x.caches.map XCache.e).take k++(x.caches.map XCache.e).drop (k+1):=by
   simp[D1,q1,l0,List.map_take,List.map_drop]
  have h2:(D1 x.caches v).2=true:=by simp[D1,q1,l0]
  simp only[SE,q1,l0,cond_false,hm,h2]
  rw[RN (by rw[Zs];omega)]at c
  have hlen:(x.caches.map XCache.e).length=x.caches.length:=Zs ..
  generalize x.caches.map XCache.e=L at*
  have t1:((k:Int)+1).toNat=k+1:=rfl
  have b1:(0:Int)≤(k:Int)∧(k:Int)<(k:Int)+1∧(k:Int)+1≤(L.length:Int):=by omega
  refine ae (fn:=iD) rfl ?_
  simp(maxSteps:=9999999) [iD,c,f,l0,w1,t1,b1,aX]
theorem zx {B:Nat}(hB:B≤1048576){x:XCacheSet}(h:x.Ok B)(v:Int):ah Ph au 640 [.agg [.pv (.lst (x.caches.map XCache.e))],aa .i64 v]=some (.tup [(true,[SE x.caches v]),(false,[.pv (.bool (D1 x.caches v).2)])]):=by
 have c:=tE hB h
 have f:=zz (cs:=x.caches) (by have:=h.1;unfold maxLen;omega) v
 rcases vp (JX v) x.caches with⟨q1,_⟩|⟨k,hk,q1,_⟩
 ·have l0:cQ (-1) 0=true:=rfl
  rw[q1]at f
  simp only[SE,D1,q1,l0,cond_true]
  have N:=eu 2 (x.caches.map XCache.e)
  generalize nd 2 (x.caches.map XCache.e)=n at N c⊢
  rcases N with⟨-,rfl⟩|⟨-,rfl⟩<;>(refine ae (fn:=iI) rfl ?_;simp(maxSteps:=9999999) [iI,c,f,l0])
 ·have l0:cQ (k:Int) 0=false:=kQ (by omega)
  have w1:IntKind.i64.wrap ((k:Int)+1)=(k:Int)+1:=aE (by have:=h.1;show x.caches.length≤maxLen;unfold maxLen;omega) hk
  rw[q1]at f
  have hm:(D1 x.caches v).1.map XCache.e=(x.caches.map XCache.e).take k++(x.caches.map XCache.e).drop (k+1):=by
   simp[D1,q1,l0,List.map_take,List.map_drop]
  have h2:(D1 x.caches v).2=true:=by simp[D1,q1,l0]
  simp only[SE,q1,l0,cond_false,hm,h2]
  rw[RN (by rw[Zs];omega)]at c
  have hlen:(x.caches.map XCache.e).length=x.caches.length:=Zs ..
  have m1:=ew (m:=x.caches.length) (z:=32) (by have:=h.1;omega) (by omega)
  rw[←hlen]at m1 hk
  generalize x.caches.map XCache.e=L at*
  have t1:((k:Int)+1).toNat=k+1:=rfl
  have b1:(k:Int)≤(L.length:Int)∧(k:Int)+1≤(L.length:Int)∧(0:Int)≤(k:Int)+1∧(0:Int)≤(k:Int):=by omega
  have b2:k<k+1∧k+1≤L.length:=by omega
  refine ae (fn:=iI) rfl ?_
  simp(maxSteps:=9999999) [iI,c,f,l0,w1,t1,b1,b2,m1,aX,tA,bh]
theorem zj (s:List UInt8)(n:Nat):(ag s).take n=ag (s.take n):=by simp[ag,List.map_take]
theorem BY (s u:List UInt8):ag (s++u)=ag s++ag u:=by simp[ag]
def iX (s:List UInt8):List UInt8:=s.take (kP s).1
theorem A5 {s g:List UInt8}(hs:s.length≤1048576)(hg:g.length≤8):ah Ph au 669 [ba (ag s),aa .i64 (s.length:Int),ba (ag g)]=some (.one (.own 1 (ag (s++g)))):=by
 have c:=fY (R:=ag s) ⟨ji _,dy _,by rw[ak];omega⟩
 have hw:=dy s
 have hw2:=dy g
 have l1:=ak (s:=s)
 have l2:=ak (s:=g)
 have m1:=ew (m:=s.length+g.length) (z:=1) (by omega) (by omega)
 have x1:(if 0<s.length then(s.length:Int)else 0)=(s.length:Int):=by split<;>omega
 rw[BY]
 have t1:(ag s).take s.length=ag s:=Zt (by rw[l1];exact Zl _)
 rw[Nat.mul_one]at m1
 generalize ag s=S at*
 generalize ag g=G at*
 refine ae (fn:=oC) rfl ?_
 simp(maxSteps:=9999999) [oC,c,hw,hw2,l1,l2,m1,x1,t1,V.ow,L.ow]
theorem LA (a b:Int):ah Ph au 677 [aa .i64 a,aa .i64 b]=some (aa .i64 (bif cQ b a then b else a)):=by
 refine ae (fn:=wZ) rfl ?_
 simp +contextual (maxSteps:=9999999) [wZ]
theorem Lz (a b:Int):ah Ph au 344 [aa .i64 a,aa .i64 b]=some (aa .i64 (bif cQ a b then b else a)):=by
 refine ae (fn:=wY) rfl ?_
 simp +contextual (maxSteps:=9999999) [wY]
theorem Bu {s g:List UInt8}(hs:s.length≤1048576)(hg:g.length≤8):ah Ph au 665 [ba (ag s),aa .i64 (s.length:Int),ba (ag g)]=some (.one (.own 1 (ag (s++g)))):=by
 have e1:=LA (s.length:Int) (s.length:Int)
 have e2:=Lz 0 (s.length:Int)
 have n1:cQ (s.length:Int) (s.length:Int)=false:=kQ (Int.le_refl _)
 have n2:(bif cQ 0 (s.length:Int)then(s.length:Int)else 0)=(s.length:Int):=by
  cases h:cQ 0 (s.length:Int)
  ·have:=of_decide_eq_false h
   simp only[cond_false];omega
  ·rfl
 rw[n1]at e1
 rw[n2]at e2
 simp only[cond_false]at e1
 have hw:=dy s
 have hw2:=dy g
 have l1:=ak (s:=s)
 have l2:=ak (s:=g)
 have m1:=ew (m:=s.length+g.length) (z:=1) (by omega) (by omega)
 have m2:=ew (m:=s.length) (z:=1) (by omega) (by omega)
 rw[BY]
 have t1:(ag s).take s.length=ag s:=Zt (by rw[l1];exact Zl _)
 rw[Nat.mul_one]at m1 m2
 generalize ag s=S at*
 generalize ag g=G at*
 refine ae (fn:=oO) rfl ?_
 simp(maxSteps:=9999999) [oO,e1,e2,hw,hw2,l1,l2,m1,m2,t1]
theorem yS {s:List UInt8}(hs:s.length≤1048576):ah Ph au 667 [ba (ag s)]=some (.one (.own 1 (ag (iX s)))):=by
 have e1:=tu hs
 have hn:=(Dx s).1
 have c:=fY (R:=ag (iX s)) ⟨ji _,dy _,by rw[ak];unfold iX;rw[Zy];omega⟩
 have t1:(ag s).take (kP s).1=ag (iX s):=zj _ _
 have hw:=dy s
 have l1:=ak (s:=s)
 simp only[K7]at e1
 generalize (kP s).2.map Gw=R at*
 generalize (kP s).1=n at*
 generalize ag (iX s)=M at*
 generalize ag s=S at*
 have b1:(n:Int)≤(S.length:Int):=by omega
 refine ae (fn:=nq) rfl ?_
 simp(maxSteps:=9999999) [nq,e1,c,t1,hw,b1,V.ow,L.ow]
theorem zD {s:List UInt8}(hs:s.length≤1048576):ah Ph au 663 [ba (ag s)]=some (.one (.own 1 (ag (iX s)))):=by
 have e1:=tD hs
 have hn:=(Dx s).1
 have t1:(ag s).take (kP s).1=ag (iX s):=zj _ _
 have hw:=dy s
 have hw2:=dy (iX s)
 have l1:=ak (s:=s)
 have m1:=ew (m:=(ag (iX s)).length) (z:=1) (by rw[ak];unfold iX;rw[Zy];omega) (by omega)
 rw[Nat.mul_one]at m1
 simp only[K7]at e1
 generalize (kP s).2.map Gw=R at*
 generalize (kP s).1=n at*
 generalize ag (iX s)=M at*
 generalize ag s=S at*
 have b1:(n:Int)≤(S.length:Int):=by omega
 refine ae (fn:=nJ) rfl ?_
 simp(maxSteps:=9999999) [nJ,e1,t1,hw,hw2,m1,b1]
theorem A4 {s:List UInt8}(hs:s.length≤1048576):ah Ph au 668 [ba (ag s)]=some (aa .i64 ((kP s).2.length:Nat)):=by
 have e1:=tu hs
 simp only[K7]at e1
 have hl:((kP s).2.map Gw).length=(kP s).2.length:=Zs ..
 generalize (kP s).2.map Gw=R at*
 refine ae (fn:=oB) rfl ?_
 simp(maxSteps:=9999999) [oB,e1,hl]
theorem Bt {s:List UInt8}(hs:s.length≤1048576):ah Ph au 664 [ba (ag s)]=some (aa .i64 ((kP s).2.length:Nat)):=by
 have e1:=tD hs
 simp only[K7]at e1
 have hl:((kP s).2.map Gw).length=(kP s).2.length:=Zs ..
 generalize (kP s).2.map Gw=R at*
 refine ae (fn:=oN) rfl ?_
 simp(maxSteps:=9999999) [oN,e1,hl]
theorem f5 (s:List UInt8):eS (ag s)=true:=by simp[eS,ag,PV.bare]
def TV (d:XDisk)(g:List UInt8):XDisk:=⟨d.base,d.log++g,d.count⟩
def V0 (d:XDisk):XDisk:=⟨d.base,iX d.log,((kP d.log).2.length:Nat)⟩
theorem yL {B:Nat}(hB:B≤1048576){x:XDisk}(h:x.Ok B){g:List UInt8}(hg:g.length≤8):ah Ph au 645 [.agg [.pv (.str x.base.name), .pv (.int .i64 x.base.version), .pv (.lst (x.base.stores.map XStore.e)), .pv (.lst (x.base.unique.map XIndexDef.e)), .pv (.lst (ag x.log)), .pv (.int .i64 x.count)],aa .i64 (x.log.length:Int),ba (ag g)]=some (.agg [.pv (.str x.base.name), .pv (.int .i64 x.base.version),nd 3 (x.base.stores.map XStore.e), .down 2 (x.base.unique.map XIndexDef.e), .own 1 (ag (x.log++g)), .pv (.int .i64 x.count)]):=by
 have c:=nN hB h
 have c1:=A5 (s:=x.log) (by have:=h.2.1;omega) hg
 have hw:=f5 (x.log++g)
 have hw1:=f5 x.log
 generalize ag x.log=S at*
 generalize ag (x.log++g)=G at*
 rcases mU 3 (x.base.stores.map XStore.e)with⟨q,u,v⟩|⟨q,u,v⟩<;>rw[u]at c<;>(refine ae (fn:=nj) rfl ?_;simp(maxSteps:=9999999) [nj,c,c1,hw,hw1,u,v,eS])
theorem vJ {B:Nat}(hB:B≤1048576){x:XDisk}(h:x.Ok B):ah Ph au 644 [.agg [.pv (.str x.base.name), .pv (.int .i64 x.base.version), .pv (.lst (x.base.stores.map XStore.e)), .pv (.lst (x.base.unique.map XIndexDef.e)), .pv (.lst (ag x.log)), .pv (.int .i64 x.count)]]=some (.agg [.pv (.str x.base.name), .pv (.int .i64 x.base.version),nd 3 (x.base.stores.map XStore.e), .down 2 (x.base.unique.map XIndexDef.e), .own 1 (ag (iX x.log)), .pv (.int .i64 ((kP x.log).2.length:Nat))]):=by
 have c:=nN hB h
 have c1:=yS (s:=x.log) (by have:=h.2.1;omega)
 have c2:=A4 (s:=x.log) (by have:=h.2.1;omega)
 have hw:=f5 (iX x.log)
 have hw1:=f5 x.log
 generalize ag (iX x.log)=G at*
 generalize ag x.log=S at*
 generalize (((kP x.log).2.length:Nat):Int)=m at*
 rcases mU 3 (x.base.stores.map XStore.e)with⟨q,u,v⟩|⟨q,u,v⟩<;>rw[u]at c<;>(refine ae (fn:=lC) rfl ?_;simp(maxSteps:=9999999) [lC,c,c1,c2,hw,hw1,u,v,eS])
theorem zw {B:Nat}(hB:B≤1048576){x:XDisk}(h:x.Ok B){g:List UInt8}(hg:g.length≤8):ah Ph au 642 [.agg [.pv (.str x.base.name), .pv (.int .i64 x.base.version), .pv (.lst (x.base.stores.map XStore.e)), .pv (.lst (x.base.unique.map XIndexDef.e)), .pv (.lst (ag x.log)), .pv (.int .i64 x.count)],aa .i64 (x.log.length:Int),ba (ag g)]=some (.agg [.pv (.str x.base.name), .pv (.int .i64 x.base.version),xv 3 (x.base.stores.map XStore.e), .own 2 (x.base.unique.map XIndexDef.e), .own 1 (ag (x.log++g)), .pv (.int .i64 x.count)]):=by
 have c:=oZ hB h
 have c1:=Bu (s:=x.log) (by have:=h.2.1;omega) hg
 have hw:=f5 (x.log++g)
 have hw1:=f5 x.log
 generalize ag x.log=S at*
 generalize ag (x.log++g)=G at*
 rcases mU 3 (x.base.stores.map XStore.e)with⟨q,u,v⟩|⟨q,u,v⟩<;>rw[u]at c<;>(refine ae (fn:=nE) rfl ?_;simp(maxSteps:=9999999) [nE,c,c1,hw,hw1,u,v,eS])
theorem vV {B:Nat}(hB:B≤1048576){x:XDisk}(h:x.Ok B):ah Ph au 641 [.agg [.pv (.str x.base.name), .pv (.int .i64 x.base.version), .pv (.lst (x.base.stores.map XStore.e)), .pv (.lst (x.base.unique.map XIndexDef.e)), .pv (.lst (ag x.log)), .pv (.int .i64 x.count)]]=some (.agg [.pv (.str x.base.name), .pv (.int .i64 x.base.version),xv 3 (x.base.stores.map XStore.e), .own 2 (x.base.unique.map XIndexDef.e), .own 1 (ag (iX x.log)), .pv (.int .i64 ((kP x.log).2.length:Nat))]):=by
 have c:=oZ hB h
 have c1:=zD (s:=x.log) (by have:=h.2.1;omega)
 have c2:=Bt (s:=x.log) (by have:=h.2.1;omega)
 have hw:=f5 (iX x.log)
 have hw1:=f5 x.log
 generalize ag (iX x.log)=G at*
 generalize ag x.log=S at*
 generalize (((kP x.log).2.length:Nat):Int)=m at*
 rcases mU 3 (x.base.stores.map XStore.e)with⟨q,u,v⟩|⟨q,u,v⟩<;>rw[u]at c<;>(refine ae (fn:=lR) rfl ?_;simp(maxSteps:=9999999) [lR,c,c1,c2,hw,hw1,u,v,eS])
def BK (r:XRecord):V:=cond (o5 r.fs) (ba (ag (t9 r))) (.one (.own 1 []))
theorem FH (r:XRecord):dO (BK r)=ba (ag (t9 r)):=by
 unfold BK
 cases c:o5 r.fs
 ·simp[t9,c,dO,di,ag]
 ·rfl
theorem uB {r:XRecord}(h:r.Ok maxLen):ah Ph au 226 [r.v]=some (BK r):=by
 have e1:=rZ h
 unfold BK
 refine ae (fn:=iv) rfl ?_
 cases c1:o5 r.fs<;>rw[c1]at e1
 ·simp(maxSteps:=9999999) [iv,e1]
 obtain⟨hf,ho⟩:=Bn (r:=r) c1
 have e2:=jz (b:=[]) (by simp) (n:=r.fs.length) (by omega)
 rw[Zi,show ag []=[]from rfl]at e2
 simp(maxSteps:=9999999) [iv,e1,e2]
 refine aC aU Cl.fin [.f,.f,.f,.t,.f,.f,.f,.f,.f,.f,.f,.f,.f,.f,.f,.t,.t,.t,.f,.f,.f,.f,.f,.f,.f,.f,.f,.f,.f,.f,.f] (fun k=>[(3,ba (ag (qO r.fs.length++iV (r.fs.take k)))),(17,aa .i64 k)]) r.fs.length (fun _=>false) rfl (by simp[iV]) (fun k hk _=> ?_) (fun _ _=> ?_)
 ·have hx:=XField.e.eq_1 r.fs[k]
  have hq:=ho _ (Zg hk)
  have l1:=tm r.fs.length
  have l2:=vo (r.fs.take k) (fun f hf=>ho f (Z9 hf))
  have l3:(r.fs.take k).length≤6:=by rw[Zy];omega
  have l4:=tm r.fs[k].name.length
  have e3:=vG (b:=qO r.fs.length++iV (r.fs.take k)) (s:=r.fs[k].name) (by rw[Zu];omega) (by have:=hq.1;omega)
  have e4:=jz (b:=qO r.fs.length++iV (r.fs.take k)++Gq r.fs[k].name) (by simp only[Zu,Gq];have:=hq.1;omega) (n:=r.fs[k].n.toNat) (by have:=hq.2.2;omega)
  rw[show((r.fs[k].n.toNat:Nat):Int)=r.fs[k].n by have:=hq.2.1;omega]at e4
  have ht:iV (r.fs.take (k+1))=iV (r.fs.take k)++(Gq r.fs[k].name++qO r.fs[k].n.toNat):=by
   unfold iV;rw[Z5 hk,List.flatMap_append];simp[SG]
  have ha:qO r.fs.length++iV (r.fs.take (k+1))=qO r.fs.length++iV (r.fs.take k)++Gq r.fs[k].name++qO r.fs[k].n.toNat:=by rw[ht];simp
  rw[ha]
  generalize qO r.fs.length++iV (r.fs.take k)=W at e3 e4⊢
  generalize W++Gq r.fs[k].name=W2 at e3 e4⊢
  generalize W2++qO r.fs[k].n.toNat=W3 at e4⊢
  simp(maxSteps:=9999999) [gO,hk,hx,e3,e4,aE h.1 hk,aZ hk]
 ·have he:t9 r=qO r.fs.length++iV r.fs:=by simp[t9,c1]
  rw[he]
  simp(maxSteps:=9999999) [gO]
theorem uS {r:XRecord}(h:r.Ok maxLen):ah Ph au 222 [r.v]=some (BK r):=by
 have e1:=so h
 unfold BK
 refine ae (fn:=iw) rfl ?_
 cases c1:o5 r.fs<;>rw[c1]at e1
 ·simp(maxSteps:=9999999) [iw,e1]
 obtain⟨hf,ho⟩:=Bn (r:=r) c1
 have e2:=jB (b:=[]) (by simp) (n:=r.fs.length) (by omega)
 rw[Zi,show ag []=[]from rfl]at e2
 simp(maxSteps:=9999999) [iw,e1,e2]
 refine aC aU Cl.fin [.f,.t,.f,.t,.t,.f,.f,.f,.f,.f,.f,.f,.f,.f,.f,.f,.f,.f,.f,.f,.f,.f,.f,.f,.f,.f,.f,.f,.f,.f,.f,.f,.f,.f,.f,.f,.f,.f] (fun k=>[(3,ba (ag (qO r.fs.length++iV (r.fs.take k)))),(4,aa .i64 k)]) r.fs.length (fun _=>false) rfl (by simp[iV]) (fun k hk _=> ?_) (fun _ _=> ?_)
 ·have hx:=XField.e.eq_1 r.fs[k]
  have hq:=ho _ (Zg hk)
  have l1:=tm r.fs.length
  have l2:=vo (r.fs.take k) (fun f hf=>ho f (Z9 hf))
  have l3:(r.fs.take k).length≤6:=by rw[Zy];omega
  have l4:=tm r.fs[k].name.length
  have e3:=vS (b:=qO r.fs.length++iV (r.fs.take k)) (s:=r.fs[k].name) (by rw[Zu];omega) (by have:=hq.1;omega)
  have e4:=jB (b:=qO r.fs.length++iV (r.fs.take k)++Gq r.fs[k].name) (by simp only[Zu,Gq];have:=hq.1;omega) (n:=r.fs[k].n.toNat) (by have:=hq.2.2;omega)
  rw[show((r.fs[k].n.toNat:Nat):Int)=r.fs[k].n by have:=hq.2.1;omega]at e4
  have ht:iV (r.fs.take (k+1))=iV (r.fs.take k)++(Gq r.fs[k].name++qO r.fs[k].n.toNat):=by
   unfold iV;rw[Z5 hk,List.flatMap_append];simp[SG]
  have ha:qO r.fs.length++iV (r.fs.take (k+1))=qO r.fs.length++iV (r.fs.take k)++Gq r.fs[k].name++qO r.fs[k].n.toNat:=by rw[ht];simp
  rw[ha]
  generalize qO r.fs.length++iV (r.fs.take k)=W at e3 e4⊢
  generalize W++Gq r.fs[k].name=W2 at e3 e4⊢
  generalize W2++qO r.fs[k].n.toNat=W3 at e4⊢
  simp(maxSteps:=9999999) [gQ,hk,hx,e3,e4,aE h.1 hk,aZ hk]
 ·have he:t9 r=qO r.fs.length++iV r.fs:=by simp[t9,c1]
  rw[he]
  simp(maxSteps:=9999999) [gQ]
theorem OR {n:Int}(h1: -9223372036854775808≤n)(h2:n≤9223372036854775807):IntKind.i64.wrap n=n:=by rw[IntKind.wrap_i64];omega
theorem wrap_u8 (n:Int):IntKind.u8.wrap n=n%256:=by simp[IntKind.wrap,IntKind.signed,IntKind.bits]
theorem Dc {x:Nat}{b:Int}{k:Nat}(hk:k≤63)(h:b=(k:Int)):jN .shr .i64 (x:Int) b=some (aa .i64 ((x/2^k:Nat):Int)):=by
 subst h
 simp only[jN]
 rw[if_neg (by omega),show min (Int.toNat (k:Int)) IntKind.i64.bits=k by rw[Int.toNat_natCast];exact Xh (Nat.le_succ_of_le hk)]
 rw[Int.fdiv_eq_ediv_of_nonneg _ (Int.le_of_lt (Int.pow_pos (by decide)))]
 norm_cast
theorem yN {k:XKey}(h:k.Ok maxLen):ah Ph au 225 [k.v]=some (.one (.own 1 (ag (mh k)))):=by
 have e1:=nU h
 refine ae (fn:=iE) rfl ?_
 cases c1:r9 k<;>rw[c1]at e1
 ·rw[show mh k=[] by simp[mh,c1]]
  simp(maxSteps:=9999999) [iE,e1,show ag []=[]from rfl]
 obtain⟨h1,h2,h3,h4,h5,h6⟩:=Bd c1
 have m1:1+k.text.length≤140737488355328∧1+k.text.length≤9223372036854775807∧7+k.text.length≤140737488355328∧7+k.text.length≤9223372036854775807∧k.text.length+7≤140737488355328∧k.text.length+7≤9223372036854775807:=by omega
 have hk:k.kind%256=k.kind:=by omega
 obtain⟨x,hx⟩:∃x:Nat,k.n+1000000000000=(x:Int):=⟨(k.n+1000000000000).toNat,by omega⟩
 have hw:IntKind.i64.wrap (k.n+1000000000000)=(x:Int):=by rw[hx,IntKind.wrap_i64];omega
 have s0:=Dc (x:=x) (b:=0) (k:=0) (by decide) rfl
 have s1:=Dc (x:=x) (b:=8) (k:=8) (by decide) rfl
 have s2:=Dc (x:=x) (b:=16) (k:=16) (by decide) rfl
 have s3:=Dc (x:=x) (b:=24) (k:=24) (by decide) rfl
 have s4:=Dc (x:=x) (b:=32) (k:=32) (by decide) rfl
 have s5:=Dc (x:=x) (b:=40) (k:=40) (by decide) rfl
 have lt:cQ 5 0=false∧cQ 4 0=false∧cQ 3 0=false∧cQ 2 0=false∧cQ 1 0=false∧cQ 0 0=false∧cQ (-1) 0=true:=by decide
 have hkb:(UInt8.ofNat k.kind.toNat).toNat=k.kind.toNat:=by simp;omega
 have hkt:((k.kind.toNat:Nat):Int)=k.kind:=by omega
 have w1:=dy k.text
 by_cases hq:k.kind=2
 ·have he:ag (mh k)=[.int .u8 k.kind]::ag k.text:=by
   rw[show mh k=UInt8.ofNat k.kind.toNat::k.text by simp[mh,c1,hq]]
   simp only[ag,Zv,hkb,hkt]
  rw[he]
  have hb:(k.kind==2)=true:=by simp[hq]
  simp(maxSteps:=9999999) [iE,e1,hb,hk,wrap_u8,m1,w1,ak,sD,i7,lt]
 ·have he:ag (mh k)=[.int .u8 k.kind]::([.int .u8 ((x/2^40:Nat)%256:Int)]::[.int .u8 ((x/2^32:Nat)%256:Int)]::[.int .u8 ((x/2^24:Nat)%256:Int)]::[.int .u8 ((x/2^16:Nat)%256:Int)]::[.int .u8 ((x/2^8:Nat)%256:Int)]::[.int .u8 ((x/2^0:Nat)%256:Int)]::ag k.text):=by
   rw[show mh k=UInt8.ofNat k.kind.toNat::(Un x++k.text) by simp[mh,c1,hq,hx]]
   simp[ag,Un,hkb,hkt]
  rw[he]
  have hb:(k.kind==2)=false:=by simp[hq]
  simp(maxSteps:=9999999) [iE,e1,hb,hk,hw,wrap_u8,OR,s0,s1,s2,s3,s4,s5,m1,w1,ak,lt,sD,i7]
theorem TT {n:Nat}:IntKind.i64.wrap ((BitVec.ofInt IntKind.i64.bits (n:Int)&&&BitVec.ofInt IntKind.i64.bits 255).toNat:Int)=(n:Int)%256:=by
 have e1:(BitVec.ofInt IntKind.i64.bits (n:Int)).toNat=n%2^64:=by
  show(BitVec.ofInt 64 (n:Int)).toNat=n%2^64
  simp[BitVec.toNat_ofInt]
 have e2:(BitVec.ofInt IntKind.i64.bits 255).toNat=255:=by decide
 rw[BitVec.toNat_and,e1,e2,show(255:Nat)=2^8-1 from rfl,Nat.and_two_pow_sub_one_eq_mod]
 rw[IntKind.wrap_i64];omega
theorem vg (y:Nat):IntKind.i64.wrap (((((y:Int)%2^IntKind.i64.bits).toNat&&&255%2^IntKind.i64.bits:Nat)):Int)%256=(y:Int)%256:=by
 have h:=TT (n:=y)
 rw[BitVec.toNat_and,BitVec.toNat_ofInt,BitVec.toNat_ofInt]at h
 have e:(255%((2^IntKind.i64.bits:Nat):Int)).toNat=255%2^IntKind.i64.bits:=by decide
 rw[e]at h
 have e3:((2^IntKind.i64.bits:Nat):Int)=(2:Int)^IntKind.i64.bits:=by decide
 rw[e3]at h
 rw[h];omega
theorem zy {k:XKey}(h:k.Ok maxLen):ah Ph au 221 [k.v]=some (.one (.own 1 (ag (mh k)))):=by
 have e1:=nV h
 refine ae (fn:=iJ) rfl ?_
 cases c1:r9 k<;>rw[c1]at e1
 ·rw[show mh k=[] by simp[mh,c1]]
  simp(maxSteps:=9999999) [iJ,e1,show ag []=[]from rfl]
 obtain⟨h1,h2,h3,h4,h5,h6⟩:=Bd c1
 have m1:1+k.text.length≤140737488355328∧1+k.text.length≤9223372036854775807∧7+k.text.length≤140737488355328∧7+k.text.length≤9223372036854775807∧k.text.length+7≤140737488355328∧k.text.length+7≤9223372036854775807:=by omega
 have hk:k.kind%256=k.kind:=by omega
 obtain⟨x,hx⟩:∃x:Nat,k.n+1000000000000=(x:Int):=⟨(k.n+1000000000000).toNat,by omega⟩
 have hw:IntKind.i64.wrap (k.n+1000000000000)=(x:Int):=by rw[hx,IntKind.wrap_i64];omega
 have s0:=Dc (x:=x) (b:=0) (k:=0) (by decide) rfl
 have s1:=Dc (x:=x) (b:=8) (k:=8) (by decide) rfl
 have s2:=Dc (x:=x) (b:=16) (k:=16) (by decide) rfl
 have s3:=Dc (x:=x) (b:=24) (k:=24) (by decide) rfl
 have s4:=Dc (x:=x) (b:=32) (k:=32) (by decide) rfl
 have s5:=Dc (x:=x) (b:=40) (k:=40) (by decide) rfl
 have lt:cQ 5 0=false∧cQ 4 0=false∧cQ 3 0=false∧cQ 2 0=false∧cQ 1 0=false∧cQ 0 0=false∧cQ (-1) 0=true:=by decide
 have hkb:(UInt8.ofNat k.kind.toNat).toNat=k.kind.toNat:=by simp;omega
 have hkt:((k.kind.toNat:Nat):Int)=k.kind:=by omega
 have w1:=dy k.text
 by_cases hq:k.kind=2
 ·have he:ag (mh k)=[.int .u8 k.kind]::ag k.text:=by
   rw[show mh k=UInt8.ofNat k.kind.toNat::k.text by simp[mh,c1,hq]]
   simp only[ag,Zv,hkb,hkt]
  rw[he]
  have hb:(k.kind==2)=true:=by simp[hq]
  simp(maxSteps:=9999999) [iJ,e1,hb,hk,wrap_u8,m1,w1,ak,sD,jb,lt]
 ·have he:ag (mh k)=[.int .u8 k.kind]::([.int .u8 ((x/2^40:Nat)%256:Int)]::[.int .u8 ((x/2^32:Nat)%256:Int)]::[.int .u8 ((x/2^24:Nat)%256:Int)]::[.int .u8 ((x/2^16:Nat)%256:Int)]::[.int .u8 ((x/2^8:Nat)%256:Int)]::[.int .u8 ((x/2^0:Nat)%256:Int)]::ag k.text):=by
   rw[show mh k=UInt8.ofNat k.kind.toNat::(Un x++k.text) by simp[mh,c1,hq,hx]]
   simp[ag,Un,hkb,hkt]
  rw[he]
  have hb:(k.kind==2)=false:=by simp[hq]
  simp(maxSteps:=9999999) [iJ,e1,hb,hk,hw,wrap_u8,OR,s0,s1,s2,s3,s4,s5,m1,w1,ak,lt,sD,jb]
  have k5:=vg (x/1099511627776)
  have k4:=vg (x/4294967296)
  have k3:=vg (x/16777216)
  have k2:=vg (x/65536)
  have k1:=vg (x/256)
  simp only[Int.natCast_ediv,Int.cast_ofNat_Int]at k5 k4 k3 k2 k1
  have k0:=vg x
  rw[show(x:Int)%2^IntKind.i64.bits=((x%2^IntKind.i64.bits:Nat):Int) by norm_cast,Int.toNat_natCast]at k0
  exact⟨k5,k4,k3,k2,k1,k0⟩
theorem H4 {z:Nat}{r:List (List PV)}:dO (.one (.own z r))=ba r:=rfl
def iQ {α:Type}(f:α→Nat)(xs:List α):Nat:=(xs.map f).sum
theorem ol {α:Type}{f:α→Nat}{xs:List α}{k:Nat}(hk:k<xs.length):iQ f (xs.take (k+1))=iQ f (xs.take k)+f xs[k]:=by
 unfold iQ;rw[Z5 hk,List.map_append,List.sum_append];simp
theorem rt {α:Type}{f:α→Nat}{c:Nat}(h:∀x,f x≤c):∀(xs:List α),iQ f xs≤c*xs.length
 |[]=>by simp[iQ]
 |x::xs=>by
  have:=rt h xs
  have:=h x
  simp only[iQ,Zv,List.sum_cons,Zn,Nat.mul_add]at*
  omega
def uQ (x:XItem):Nat:=(mh x.key).length+(t9 x.rcd).length
theorem mW (x:XItem):uQ x≤110:=by have:=D8 x.key;have:=D9 x.rcd;unfold uQ;omega
def lZ (s:XStore):Nat:=iQ uQ s.items
theorem qI {s:XStore}(h:s.Ok 1048576):ah Ph au 197 [s.v]=some (aa .i64 (lZ s:Nat)):=by
 refine ae (fn:=nu) rfl ?_
 simp +contextual (maxSteps:=9999999) [nu]
 refine aC aU Cl.fin [.f,.f,.f,.t,.f,.f,.f,.t,.t,.t,.f,.f,.f,.f,.f,.f,.f,.f,.f,.f,.f,.f,.f,.f,.f,.f] (fun k=>[(3,aa .i64 (iQ uQ (s.items.take k):Nat)),(9,aa .i64 k)]) s.items.length (fun _=>false) rfl (by simp[iQ]) (fun k hk _=> ?_) (fun _ _=> ?_)
 ·have hx:=XItem.e.eq_1 s.items[k]
  have hi:=XItem.Ok.mono (B:=maxLen) (by unfold maxLen;omega) (h.2.1.2 _ (Zg hk))
  have e1:=yN hi.1
  have e2:=uB hi.2
  have l1:=D8 s.items[k].key
  have l2:=D9 s.items[k].rcd
  have l3:=rt mW (s.items.take k)
  have l4:(s.items.take k).length≤1048576:=by rw[Zy];have:=h.2.1.1;omega
  have ht:iQ uQ (s.items.take (k+1))=iQ uQ (s.items.take k)+((mh s.items[k].key).length+(t9 s.items[k].rcd).length):=ol hk
  rw[ht]
  generalize iQ uQ (s.items.take k)=A at l3⊢
  have g:=FH s.items[k].rcd
  generalize BK s.items[k].rcd=W at e2 g
  have q1:(ag (mh s.items[k].key)).length=(mh s.items[k].key).length:=ak
  have q2:(ag (t9 s.items[k].rcd)).length=(t9 s.items[k].rcd).length:=ak
  generalize (mh s.items[k].key).length=a at l1 q1⊢
  generalize (t9 s.items[k].rcd).length=b at l2 q2⊢
  have w1:IntKind.i64.wrap ((a:Int)+(b:Int))=(a:Int)+(b:Int):=by rw[IntKind.wrap_i64];omega
  have w2:IntKind.i64.wrap ((A:Int)+((a:Int)+(b:Int)))=(A:Int)+((a:Int)+(b:Int)):=by rw[IntKind.wrap_i64];omega
  have w3:IntKind.i64.wrap ((A:Int)+(a:Int))=(A:Int)+(a:Int):=by rw[IntKind.wrap_i64];omega
  have w4:IntKind.i64.wrap ((A:Int)+(a:Int)+(b:Int))=(A:Int)+((a:Int)+(b:Int)):=by rw[IntKind.wrap_i64];omega
  simp(maxSteps:=9999999) [i9,hk,hx,e1,e2,H4, ↓g,q1,q2,w1,w2,w3,w4,aE (n:=s.items.length) (by have:=h.2.1.1;unfold maxLen;omega) hk,aZ hk,-dO]
 ·rw[Yq]
  simp(maxSteps:=9999999) [i9,lZ]
theorem qN {s:XStore}(h:s.Ok 1048576):ah Ph au 194 [s.v]=some (aa .i64 (lZ s:Nat)):=by
 refine ae (fn:=nK) rfl ?_
 simp +contextual (maxSteps:=9999999) [nK]
 refine aC aU Cl.fin [.f,.t,.f,.t,.t,.f,.f,.f,.f,.f,.f,.f,.f,.f,.f,.f,.f,.f,.f,.f,.f,.f,.f,.f,.f,.f,.f,.f,.f,.f,.f,.f] (fun k=>[(3,aa .i64 (iQ uQ (s.items.take k):Nat)),(4,aa .i64 k)]) s.items.length (fun _=>false) rfl (by simp[iQ]) (fun k hk _=> ?_) (fun _ _=> ?_)
 ·have hx:=XItem.e.eq_1 s.items[k]
  have hi:=XItem.Ok.mono (B:=maxLen) (by unfold maxLen;omega) (h.2.1.2 _ (Zg hk))
  have e1:=zy hi.1
  have e2:=uS hi.2
  have l1:=D8 s.items[k].key
  have l2:=D9 s.items[k].rcd
  have l3:=rt mW (s.items.take k)
  have l4:(s.items.take k).length≤1048576:=by rw[Zy];have:=h.2.1.1;omega
  have ht:iQ uQ (s.items.take (k+1))=iQ uQ (s.items.take k)+((mh s.items[k].key).length+(t9 s.items[k].rcd).length):=ol hk
  rw[ht]
  generalize iQ uQ (s.items.take k)=A at l3⊢
  have g:=FH s.items[k].rcd
  generalize BK s.items[k].rcd=W at e2 g
  have q1:(ag (mh s.items[k].key)).length=(mh s.items[k].key).length:=ak
  have q2:(ag (t9 s.items[k].rcd)).length=(t9 s.items[k].rcd).length:=ak
  generalize (mh s.items[k].key).length=a at l1 q1⊢
  generalize (t9 s.items[k].rcd).length=b at l2 q2⊢
  have w1:IntKind.i64.wrap ((a:Int)+(b:Int))=(a:Int)+(b:Int):=by rw[IntKind.wrap_i64];omega
  have w2:IntKind.i64.wrap ((A:Int)+((a:Int)+(b:Int)))=(A:Int)+((a:Int)+(b:Int)):=by rw[IntKind.wrap_i64];omega
  have w3:IntKind.i64.wrap ((A:Int)+(a:Int))=(A:Int)+(a:Int):=by rw[IntKind.wrap_i64];omega
  have w4:IntKind.i64.wrap ((A:Int)+(a:Int)+(b:Int))=(A:Int)+((a:Int)+(b:Int)):=by rw[IntKind.wrap_i64];omega
  simp(maxSteps:=9999999) [jd,hk,hx,e1,e2,H4, ↓g,q1,q2,w1,w2,w3,w4,aE (n:=s.items.length) (by have:=h.2.1.1;unfold maxLen;omega) hk,aZ hk,-dO]
 ·rw[Yq]
  simp(maxSteps:=9999999) [jd,lZ]
theorem nW {α:Type}{f:α→Nat}{c:Nat}:∀{xs:List α},(∀x∈xs,f x≤c)→iQ f xs≤c*xs.length
 |[],_=>by simp[iQ]
 |x::xs,h=>by
  have h1:=nW (xs:=xs) (fun y hy=>h y (by simp[hy]))
  have h2:=h x (by simp)
  simp only[iQ,Zv,List.sum_cons,Zn,Nat.mul_add]at*
  omega
def tB (d:XDatabase):Nat:=iQ lZ d.stores
theorem zt {d:XDatabase}(h:d.Ok 1048576):tB d≤115343360*1048576:=Zc (nW (c:=115343360) fun s hs=>Zc (rt mW _) (by have:=(h.2.2.1.2 s hs).2.1.1;omega)) (Nat.mul_le_mul_left _ h.2.2.1.1)
theorem uC {d:XDatabase}(h:d.Ok 1048576):ah Ph au 224 [d.v]=some (aa .i64 (tB d:Nat)):=by
 refine ae (fn:=kA) rfl ?_
 simp +contextual (maxSteps:=9999999) [kA]
 refine aC aU Cl.fin [.f,.f,.f,.t,.f,.f,.f,.t,.t,.t,.f,.f,.f,.f,.f,.f,.f,.f,.f] (fun k=>[(3,aa .i64 (iQ lZ (d.stores.take k):Nat)),(9,aa .i64 k)]) d.stores.length (fun _=>false) rfl (by simp[iQ]) (fun k hk _=> ?_) (fun _ _=> ?_)
 ·have hx:=XStore.e.eq_1 d.stores[k]
  have hi:=h.2.2.1.2 _ (Zg hk)
  have e1:=qI hi
  have l1:lZ d.stores[k]≤115343360:=Zc (rt mW _) (by have:=hi.2.1.1;omega)
  have l3:=nW (f:=lZ) (c:=115343360) (xs:=d.stores.take k) (fun s hs=>Zc (rt mW _) (by have:=(h.2.2.1.2 s (Z9 hs)).2.1.1;omega))
  have l4:(d.stores.take k).length≤1048576:=by rw[Zy];have:=h.2.2.1.1;omega
  rw[ol hk]
  generalize iQ lZ (d.stores.take k)=A at l3⊢
  generalize lZ d.stores[k]=a at l1 e1⊢
  have w1:IntKind.i64.wrap ((A:Int)+(a:Int))=(A:Int)+(a:Int):=by rw[IntKind.wrap_i64];omega
  simp(maxSteps:=9999999) [gP,hk,hx,e1,w1,aE (n:=d.stores.length) (by have:=h.2.2.1.1;unfold maxLen;omega) hk,aZ hk]
 ·rw[Yq]
  simp(maxSteps:=9999999) [gP,tB]
theorem A9 {x:XDisk}(h:x.Ok 1048576):ah Ph au 196 [x.v]=some (aa .i64 (tB x.base+x.log.length:Nat)):=by
 have e1:=uC h.1
 have l1:=zt h.1
 have l2:=h.2.1
 generalize tB x.base=A at e1 l1⊢
 have w1:IntKind.i64.wrap ((A:Int)+(x.log.length:Int))=(A:Int)+(x.log.length:Int):=by rw[IntKind.wrap_i64];omega
 refine ae (fn:=oG) rfl ?_
 simp +contextual (maxSteps:=9999999) [oG,e1,w1,ak]
theorem uT {d:XDatabase}(h:d.Ok 1048576):ah Ph au 220 [d.v]=some (aa .i64 (tB d:Nat)):=by
 refine ae (fn:=kF) rfl ?_
 simp +contextual (maxSteps:=9999999) [kF]
 refine aC aU Cl.fin [.f,.t,.f,.t,.t,.f,.f,.f,.f,.f,.f,.f,.f,.f,.f,.f,.f,.f,.f,.f,.f] (fun k=>[(3,aa .i64 (iQ lZ (d.stores.take k):Nat)),(4,aa .i64 k)]) d.stores.length (fun _=>false) rfl (by simp[iQ]) (fun k hk _=> ?_) (fun _ _=> ?_)
 ·have hx:=XStore.e.eq_1 d.stores[k]
  have hi:=h.2.2.1.2 _ (Zg hk)
  have e1:=qN hi
  have l1:lZ d.stores[k]≤115343360:=Zc (rt mW _) (by have:=hi.2.1.1;omega)
  have l3:=nW (f:=lZ) (c:=115343360) (xs:=d.stores.take k) (fun s hs=>Zc (rt mW _) (by have:=(h.2.2.1.2 s (Z9 hs)).2.1.1;omega))
  have l4:(d.stores.take k).length≤1048576:=by rw[Zy];have:=h.2.2.1.1;omega
  rw[ol hk]
  generalize iQ lZ (d.stores.take k)=A at l3⊢
  generalize lZ d.stores[k]=a at l1 e1⊢
  have w1:IntKind.i64.wrap ((A:Int)+(a:Int))=(A:Int)+(a:Int):=by rw[IntKind.wrap_i64];omega
  simp(maxSteps:=9999999) [gR,hk,hx,e1,w1,aE (n:=d.stores.length) (by have:=h.2.2.1.1;unfold maxLen;omega) hk,aZ hk]
 ·rw[Yq]
  simp(maxSteps:=9999999) [gR,tB]
theorem By {x:XDisk}(h:x.Ok 1048576):ah Ph au 193 [x.v]=some (aa .i64 (tB x.base+x.log.length:Nat)):=by
 have e1:=uT h.1
 have l1:=zt h.1
 have l2:=h.2.1
 generalize tB x.base=A at e1 l1⊢
 have w1:IntKind.i64.wrap ((A:Int)+(x.log.length:Int))=(A:Int)+(x.log.length:Int):=by rw[IntKind.wrap_i64];omega
 refine ae (fn:=oS) rfl ?_
 simp +contextual (maxSteps:=9999999) [oS,e1,w1,ak]
end Gi
