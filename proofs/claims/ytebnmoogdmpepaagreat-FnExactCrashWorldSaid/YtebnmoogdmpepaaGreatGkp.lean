/- Of this proof. -/
import Derived.Test.YtebnmoogdmpepaaGreatGkz
import Derived.Test.YtebnmoogdmpepaaGreatGlC
import Derived.Test.YtebnmoogdmpepaaGreatGks
import Derived.Test.YtebnmoogdmpepaaGreatGko
set_option linter.unusedSimpArgs false
set_option linter.unusedVariables false
namespace Gi
open Go Go.RowKit
set_option maxHeartbeats 8000000
set_option maxRecDepth 4000
attribute [local simp] start rB bj cf dG fp dF fo fx fw tJ tT tK tU tL tV tM tW tN tX tO tY tP tZ tQ t6 tR t7 V.cells plain bo gn isInt isStr isBool bin cC iT cD iU fq un asList L.view am V.view viewL aY ar cH bP bM comp aJ bH df bY bz bw bx bG bc ca aN bB aT aO bE cd bD bA bF V.flat L.flat dO di bv putAt thaw thawL thawT V.ow fv dK dL cE fu cF dJ freezeVs freezeLs freezeL V.mut L.mut aG ez ie aW bm aF dz bL bf bS L.ren aV dA ce dM bO bh wp_seq wp_block bt dP cI bR cJ wp_skip wp_exit wp_ret cA cy cP cB cW cX cV bX aM L.notArr aS aQ aR dN bp storeD aX fD br ct bd m9 L.mov L.closed V.closed PV.bare PV.flat
def Ca (b:Bool)(x:XResponse):Nat:=cond b 76 (16+x.body.length)
def sk (e:XCached):Nat:=Ca (e.resp.type==3) e.resp
theorem uP {e:XCached}(h:e.Ok 1048576):sk e≤1048592:=by
 have:=h.2.2.2.2.2
 unfold sk Ca
 cases(e.resp.type==3)<;>simp only[cond_true,cond_false]<;>omega
def wq (c:XCache):Nat:=iQ sk c.entries
theorem FJ {c:XCache}(h:c.Ok 1048576):wq c≤1048592*1048576:=Zc (nW fun e he=>uP (h.2.2 e he)) (Nat.mul_le_mul_left _ h.2.1)
def B9 (s:XCacheSet):Nat:=iQ wq s.caches
theorem xk {x:XResponse}(h:x.body.length≤1048576)(b:Bool):ah Ph au 223 [x.v,av b]=some (aa .i64 (Ca b x:Nat)):=by
 have w1:IntKind.i64.wrap (16+(x.body.length:Int))=16+(x.body.length:Int):=by rw[IntKind.wrap_i64];omega
 refine ae (fn:=mq) rfl ?_
 cases b<;>simp(maxSteps:=9999999) [mq,Ca,w1,ak]
theorem xj {s:XCacheSet}(h:s.Ok 1048576):ah Ph au 195 [s.v]=some (aa .i64 (B9 s:Nat)):=by
 refine ae (fn:=mp) rfl ?_
 simp +contextual (maxSteps:=9999999) [mp]
 refine aC aU Cl.fin [.f,.f,.f,.t,.f,.f,.f,.f,.f,.t,.t,.t,.f,.f,.f,.f,.f,.f,.f,.f,.f,.f,.f,.f,.f,.f,.f,.f,.f,.f,.f,.f,.f,.f] (fun k=>[(3,aa .i64 (iQ wq (s.caches.take k):Nat)),(11,aa .i64 k)]) s.caches.length (fun _=>false) rfl (by simp[iQ]) (fun k hk _=> ?_) (fun _ _=> ?_)
 ·have hx:=XCache.e.eq_1 s.caches[k]
  have hc:=h.2 _ (Zg hk)
  have wk:=aE (n:=s.caches.length) (by have:=h.1;unfold maxLen;omega) hk
  have l4:=nW (f:=wq) (c:=1048592*1048576) (xs:=s.caches.take k) (fun c hm=>FJ (h.2 c (Z9 hm)))
  have l5:(s.caches.take k).length≤1048576:=by rw[Zy];have:=h.1;omega
  rw[ol hk]
  generalize iQ wq (s.caches.take k)=A at l4⊢
  simp(maxSteps:=9999999) [il,hk,hx,aZ hk]
  refine aC aU Cl.kn [.f,.f,.f,.t,.f,.f,.f,.f,.f,.t,.t,.t,.f,.f,.f,.f,.t,.t,.t,.f,.f,.f,.f,.f,.f,.f,.f,.f,.f,.f,.f,.f,.f,.f] (fun j=>[(3,aa .i64 (A+iQ sk (s.caches[k].entries.take j):Nat)),(18,aa .i64 j)]) s.caches[k].entries.length (fun _=>false) rfl (by simp[iQ]) (fun j hj _=> ?_) (fun _ _=> ?_)
  ·have hy:=XCached.e.eq_1 s.caches[k].entries[j]
   have he:=hc.2.2 _ (Zg hj)
   have e1:=fun b=>xk (x:=s.caches[k].entries[j].resp) he.2.2.2.2.2 b
   have wj:=aE (n:=s.caches[k].entries.length) (by have:=hc.2.1;unfold maxLen;omega) hj
   have l1:=uP he
   have l2:=nW (f:=sk) (c:=1048592) (xs:=s.caches[k].entries.take j) (fun c hm=>uP (hc.2.2 c (Z9 hm)))
   have l3:(s.caches[k].entries.take j).length≤1048576:=by rw[Zy];have:=hc.2.1;omega
   have hs:Ca (s.caches[k].entries[j].resp.type==3) s.caches[k].entries[j].resp=sk s.caches[k].entries[j]:=rfl
   have e2:=e1 (s.caches[k].entries[j].resp.type==3)
   rw[hs]at e2
   rw[ol hj]
   generalize iQ sk (s.caches[k].entries.take j)=D at l2⊢
   generalize sk s.caches[k].entries[j]=a at l1 e2⊢
   have w1:IntKind.i64.wrap ((A:Int)+(D:Int)+(a:Int))=(A:Int)+((D:Int)+(a:Int)):=by rw[IntKind.wrap_i64];omega
   simp(maxSteps:=9999999) [gj,hk,hj,hx,hy,e2,w1,wj,aZ hj]
  ·rw[Yq]
   simp(maxSteps:=9999999) [gj,hk,hx,wk,wq]
 ·rw[Yq]
  simp(maxSteps:=9999999) [il,B9]
theorem xJ {x:XResponse}(h:x.body.length≤1048576)(b:Bool):ah Ph au 219 [x.v,av b]=some (aa .i64 (Ca b x:Nat)):=by
 have w1:IntKind.i64.wrap (16+(x.body.length:Int))=16+(x.body.length:Int):=by rw[IntKind.wrap_i64];omega
 refine ae (fn:=mJ) rfl ?_
 cases b<;>simp(maxSteps:=9999999) [mJ,Ca,w1,ak]
theorem xI {s:XCacheSet}(h:s.Ok 1048576):ah Ph au 192 [s.v]=some (aa .i64 (B9 s:Nat)):=by
 refine ae (fn:=mI) rfl ?_
 simp +contextual (maxSteps:=9999999) [mI]
 refine aC aU Cl.fin [.f,.t,.f,.t,.t,.f,.f,.f,.f,.f,.f,.f,.f,.f,.f,.f,.f,.f,.f,.f,.f,.f,.f,.f,.f,.f,.f,.f,.f,.f,.f,.f,.f,.f,.f,.f,.f,.f,.f,.f,.f,.f,.f] (fun k=>[(3,aa .i64 (iQ wq (s.caches.take k):Nat)),(4,aa .i64 k)]) s.caches.length (fun _=>false) rfl (by simp[iQ]) (fun k hk _=> ?_) (fun _ _=> ?_)
 ·have hx:=XCache.e.eq_1 s.caches[k]
  have hc:=h.2 _ (Zg hk)
  have wk:=aE (n:=s.caches.length) (by have:=h.1;unfold maxLen;omega) hk
  have l4:=nW (f:=wq) (c:=1048592*1048576) (xs:=s.caches.take k) (fun c hm=>FJ (h.2 c (Z9 hm)))
  have l5:(s.caches.take k).length≤1048576:=by rw[Zy];have:=h.1;omega
  rw[ol hk]
  generalize iQ wq (s.caches.take k)=A at l4⊢
  simp(maxSteps:=9999999) [it,hk,hx,aZ hk]
  refine aC aU Cl.kn [.f,.t,.f,.t,.t,.t,.f,.f,.f,.f,.f,.f,.f,.f,.f,.f,.f,.f,.f,.f,.f,.f,.f,.f,.f,.f,.f,.f,.f,.f,.f,.f,.f,.f,.f,.f,.f,.f,.f,.f,.f,.f,.f] (fun j=>[(3,aa .i64 (A+iQ sk (s.caches[k].entries.take j):Nat)),(5,aa .i64 j)]) s.caches[k].entries.length (fun _=>false) rfl (by simp[iQ]) (fun j hj _=> ?_) (fun _ _=> ?_)
  ·have hy:=XCached.e.eq_1 s.caches[k].entries[j]
   have he:=hc.2.2 _ (Zg hj)
   have e1:=fun b=>xJ (x:=s.caches[k].entries[j].resp) he.2.2.2.2.2 b
   have wj:=aE (n:=s.caches[k].entries.length) (by have:=hc.2.1;unfold maxLen;omega) hj
   have l1:=uP he
   have l2:=nW (f:=sk) (c:=1048592) (xs:=s.caches[k].entries.take j) (fun c hm=>uP (hc.2.2 c (Z9 hm)))
   have l3:(s.caches[k].entries.take j).length≤1048576:=by rw[Zy];have:=hc.2.1;omega
   have hs:Ca (s.caches[k].entries[j].resp.type==3) s.caches[k].entries[j].resp=sk s.caches[k].entries[j]:=rfl
   have e2:=e1 (s.caches[k].entries[j].resp.type==3)
   rw[hs]at e2
   rw[ol hj]
   generalize iQ sk (s.caches[k].entries.take j)=D at l2⊢
   generalize sk s.caches[k].entries[j]=a at l1 e2⊢
   have w1:IntKind.i64.wrap ((A:Int)+(D:Int)+(a:Int))=(A:Int)+((D:Int)+(a:Int)):=by rw[IntKind.wrap_i64];omega
   simp(maxSteps:=9999999) [gk,hk,hj,hx,hy,e2,w1,wj,aZ hj]
  ·rw[Yq]
   simp(maxSteps:=9999999) [gk,hk,hx,wk,wq]
 ·rw[Yq]
  simp(maxSteps:=9999999) [it,B9]
theorem Ly {s:XCacheSet}(h:s.Ok 1048576):B9 s≤1048592*1048576*1048576:=Zc (nW fun c hm=>FJ (h.2 c hm)) (Nat.mul_le_mul_left _ h.1)
def If (x:XBucket):Nat:=B9 x.caches+(tB x.disk.base+x.disk.log.length)+lZ x.replica.base+40*x.replica.sync.outbox.writes.length
theorem C8 {x:XBucket}(h:x.Ok 1048576):ah Ph au 162 [x.v]=some (aa .i64 (If x:Nat)):=by
 obtain⟨_,_,_,hc,hd,hr,_⟩:=h
 have e1:=xj hc
 have e2:=A9 hd
 have e3:=qI hr.1
 have l1:=Ly hc
 have l2:=zt hd.1
 have l3:lZ x.replica.base≤115343360:=Zc (rt mW _) (by have:=hr.1.2.1.1;omega)
 have l4:=hd.2.1
 have l5:x.replica.sync.outbox.writes.length≤1048576:=hr.2.2.1.2.2.1
 unfold If
 generalize B9 x.caches=A at e1 l1⊢
 generalize tB x.disk.base=B at e2 l2⊢
 generalize lZ x.replica.base=C at e3 l3⊢
 have w1:IntKind.i64.wrap ((A:Int)+((B:Int)+(x.disk.log.length:Int)))=(A:Int)+((B:Int)+(x.disk.log.length:Int)):=by rw[IntKind.wrap_i64];omega
 have w2:IntKind.i64.wrap ((A:Int)+((B:Int)+(x.disk.log.length:Int))+(C:Int))=(A:Int)+((B:Int)+(x.disk.log.length:Int))+(C:Int):=by rw[IntKind.wrap_i64];omega
 have w3:IntKind.i64.wrap (40*(x.replica.sync.outbox.writes.length:Int))=40*(x.replica.sync.outbox.writes.length:Int):=by rw[IntKind.wrap_i64];omega
 have w4:IntKind.i64.wrap ((A:Int)+((B:Int)+(x.disk.log.length:Int))+(C:Int)+40*(x.replica.sync.outbox.writes.length:Int))=(A:Int)+((B:Int)+(x.disk.log.length:Int))+(C:Int)+40*(x.replica.sync.outbox.writes.length:Int):=by rw[IntKind.wrap_i64];omega
 refine ae (fn:=pI) rfl ?_
 simp +contextual (maxSteps:=9999999) [pI,e1,e2,e3,w1,w2,w3,w4]
theorem De {x:XBucket}(h:x.Ok 1048576):ah Ph au 161 [x.v]=some (aa .i64 (If x:Nat)):=by
 obtain⟨_,_,_,hc,hd,hr,_⟩:=h
 have e1:=xI hc
 have e2:=By hd
 have e3:=qN hr.1
 have l1:=Ly hc
 have l2:=zt hd.1
 have l3:lZ x.replica.base≤115343360:=Zc (rt mW _) (by have:=hr.1.2.1.1;omega)
 have l4:=hd.2.1
 have l5:x.replica.sync.outbox.writes.length≤1048576:=hr.2.2.1.2.2.1
 unfold If
 generalize B9 x.caches=A at e1 l1⊢
 generalize tB x.disk.base=B at e2 l2⊢
 generalize lZ x.replica.base=C at e3 l3⊢
 have w1:IntKind.i64.wrap ((A:Int)+((B:Int)+(x.disk.log.length:Int)))=(A:Int)+((B:Int)+(x.disk.log.length:Int)):=by rw[IntKind.wrap_i64];omega
 have w2:IntKind.i64.wrap ((A:Int)+((B:Int)+(x.disk.log.length:Int))+(C:Int))=(A:Int)+((B:Int)+(x.disk.log.length:Int))+(C:Int):=by rw[IntKind.wrap_i64];omega
 have w3:IntKind.i64.wrap (40*(x.replica.sync.outbox.writes.length:Int))=40*(x.replica.sync.outbox.writes.length:Int):=by rw[IntKind.wrap_i64];omega
 have w4:IntKind.i64.wrap ((A:Int)+((B:Int)+(x.disk.log.length:Int))+(C:Int)+40*(x.replica.sync.outbox.writes.length:Int))=(A:Int)+((B:Int)+(x.disk.log.length:Int))+(C:Int)+40*(x.replica.sync.outbox.writes.length:Int):=by rw[IntKind.wrap_i64];omega
 refine ae (fn:=pO) rfl ?_
 simp +contextual (maxSteps:=9999999) [pO,e1,e2,e3,w1,w2,w3,w4]
abbrev sW (s:List UInt8):Bool:=rp s 30 true
theorem xh {s:List UInt8}(h:s.length≤maxLen):ah Ph au 389 [f9 s]=some (av (sW s)):=by
 refine ae (fn:=ml) rfl ?_
 simp(maxSteps:=9999999) [ml,uG h]
theorem xG {s:List UInt8}(h:s.length≤maxLen):ah Ph au 386 [f9 s]=some (av (sW s)):=by
 refine ae (fn:=mF) rfl ?_
 simp +contextual (maxSteps:=9999999) [mF]
 refine aC aU Cl.fin [.t,.f,.f,.t,.f,.f,.f,.f,.f,.f,.f,.f,.f,.f,.f,.f,.f,.f,.f,.f,.f,.f,.f,.f,.f,.f,.f,.f,.f] (fun k=>[(3,aa .i64 k)]) s.length (Mo true s) rfl (by simp) (fun k hk _=> ?_) (fun _ hp=> ?_)
 ·simp +contextual (maxSteps:=9999999) [ir,Mo,sW,rp,hk,aE h hk,aZ hk]
 ·simp +contextual (maxSteps:=9999999) [ir,sW,rp,hp,bK]
def qa (x:XResponse):Bool:=rg x.type 1 4&&(rg x.status 0 999&&(rg x.version 0 1000000000000&& !(cQ 60 x.body.length)))
theorem jj (x:XResponse):ah Ph au 403 [x.v]=some (av (qa x)):=by
 refine ae (fn:=mn) rfl ?_
 simp +contextual (maxSteps:=9999999) [mn,be,qa,ak]
theorem xH (x:XResponse):ah Ph au 408 [x.v]=some (av (qa x)):=by
 refine ae (fn:=mH) rfl ?_
 simp +contextual (maxSteps:=9999999) [mH,bK,qa,ak]
def K2 (x:XWrite):Bool:=rg x.dev 1 1000000&&(rg x.seq 1 1000000&&(r9 x.key&&(dd x.field&&rg x.n 0 1000000000)))
theorem m6 {x:XWrite}(h:x.Ok maxLen):ah Ph au 390 [x.v]=some (av (K2 x)):=by
 refine ae (fn:=jR) rfl ?_
 simp +contextual (maxSteps:=9999999) [jR,be,nU h.2.2.1,bC h.2.2.2.1,K2]
theorem m7 {x:XWrite}(h:x.Ok maxLen):ah Ph au 383 [x.v]=some (av (K2 x)):=by
 refine ae (fn:=jU) rfl ?_
 simp +contextual (maxSteps:=9999999) [jU,bK,nV h.2.2.1,cN h.2.2.2.1,K2]
def xS (a b:XBucket):Bool:=Op.bytesLess a.site b.site||(a.site==b.site&&Op.bytesLess a.top b.top)
theorem uD (a b:XBucket):ah Ph au 388 [a.v,b.v]=some (av (xS a b)):=by
 refine ae (fn:=kB) rfl ?_
 simp +contextual (maxSteps:=9999999) [kB,xS]
theorem Dr (a b:XBucket):ah Ph au 385 [a.v,f9 b.site,f9 b.top]=some (av (xS a b)):=by
 refine ae (fn:=p7) rfl ?_
 simp +contextual (maxSteps:=9999999) [p7,xS]
def M6 :List (List UInt8):=[[98,97,110,107],[110,101,119,115],[115,104,111,112]]
theorem BA :ah Ph au 181 []=some (.one (.own 1 (M6.map xA))):=by
 refine ae (fn:=oU) rfl ?_
 simp(maxSteps:=9999999) [oU,M6,xA]
theorem Fa {us:List (List UInt8)}(hl:us.length≤maxLen)(x:List UInt8):ah Ph au 182 [ba (us.map xA),f9 x]=some (aa .i64 (gu (fun u=>x==u) us)):=by
 refine ae (fn:=f6) rfl ?_
 simp +contextual (maxSteps:=9999999) [f6]
 refine aC aU Cl.fin [.t,.t,.f,.f,.f,.f,.f,.t,.t,.f,.f,.f,.f,.f,.f,.f,.f,.f,.f] (fun k=>[(8,aa .i64 k)]) us.length (iZ (fun u=>x==u) us) rfl (by simp) (fun k hk hj=> ?_) (fun hj _=> ?_)
 ·have hf:=xb hk hj
  have hs:(us.map xA)[k]'(by simpa using hk)=[.str us[k]]:=by simp[xA]
  cases hg:(x==us[k])
  ·simp(maxSteps:=9999999) [dv,iZ,hk,hg,aE hl hk,aZ hk,xA]
  ·have hf2:=hf hg
   have ha:iZ (fun u=>x==u) us k=true:=by simp only[iZ,hk,Zr,hg]
   generalize gu (fun u=>x==u) us=F at hf2⊢
   generalize iZ (fun u=>x==u) us=A at ha⊢
   simp(maxSteps:=9999999) [dv,ha,hk,hg,hf2,aE hl hk,aZ hk,xA]
 ·simp +contextual (maxSteps:=9999999) [dv,AZ hj]
def Bs (s:List UInt8):Int:=gu (fun u=>s==u) M6
theorem xi (s:List UInt8):ah Ph au 154 [f9 s]=some (aa .i64 (Bs s)):=by
 have e1:=Fa (us:=M6) (by decide) s
 simp only[M6,Zv,Yb,xA]at e1
 refine ae (fn:=mo) rfl ?_
 simp(maxSteps:=9999999) [mo,e1,Bs,M6]
def Ir (l v:Int):Bool:= !(rg v 0 1000000000000)||(!(v==0)&& !(cQ l v))
def Tc (l v:Int):Int:=if v=0 then l else v
def PY (V:List Int)(k:Nat):Int:=(V.take k).foldl Tc 0
def Is (V:List Int)(k:Nat):Bool:=match V[k]? with
 |some v=>Ir (PY V k) v
 |none=>false
def Fh (r:XRegistration):Bool:= !(gx [r.active,r.waiting,r.installing].length (Is [r.active,r.waiting,r.installing]))&&dd r.site
theorem Tt {l v:Int}(h:Ir l v=true):(rg v 0 1000000000000=true→(v==0)=false)∧(rg v 0 1000000000000=true→cQ l v=false):=by
 refine⟨fun g=> ?_,fun g=> ?_⟩<;>rw[Ir,g]at h<;>simp at h
 ·simpa using h.1
 ·exact h.2
theorem Q0 {l v:Int}(h:Ir l v=false)(hl:0≤l):rg v 0 1000000000000=true∧((v==0)=false→cQ l v=true)∧(if l<v then v else l)=Tc l v∧0≤Tc l v:=by
 simp only[Ir,Xe,Bool.not_eq_false',Bool.and_eq_false_iff,beq_iff_eq]at h
 obtain⟨h1,h2⟩:=h
 unfold Tc
 by_cases z:v=0
 ·rw[if_pos z];subst z;exact⟨h1,fun q=>by simp at q,by rw[if_neg (by omega)],hl⟩
 ·rw[if_neg z]
  have h3:=h2.resolve_left z
  have:=of_decide_eq_true h3
  exact⟨h1,fun _=>h3,by rw[if_pos this],by omega⟩
theorem RI {V:List Int}{k:Nat}(hk:k<V.length):PY V (k+1)=Tc (PY V k) V[k]:=by
 unfold PY;rw[Z5 hk,List.foldl_append];rfl
theorem I9 {V:List Int}:∀{k:Nat},k≤V.length→(∀j,j<k→Is V j=false)→0≤PY V k
 |0,_,_=>Int.le_refl 0
 |k+1,hk,hj=>by
  have ih:=I9 (V:=V) (k:=k) (by omega) (fun j h=>hj j (by omega))
  have hb:=hj k (by omega)
  have hk':k<V.length:=hk
  simp only[Is,hk',Zr]at hb
  rw[RI hk']
  exact(Q0 hb ih).2.2.2
theorem sV {r:XRegistration}(h:r.Ok maxLen):ah Ph au 395 [r.v]=some (av (Fh r)):=by
 have e1:=bC h.1
 unfold Fh
 obtain⟨V,hV⟩:∃V,V=[r.active,r.waiting,r.installing]:=⟨_,rfl⟩
 have hR:[[PV.int .i64 r.active],[PV.int .i64 r.waiting],[PV.int .i64 r.installing]]=V.map oV:=by rw[hV];rfl
 have hl:V.length=3:=by rw[hV];rfl
 rw[←hV]
 refine ae (fn:=js) rfl ?_
 simp(maxSteps:=9999999) [js]
 rw[hR]
 clear hR hV
 refine aC aU Cl.fin [.f,.t,.f,.t,.f,.f,.f,.f,.f,.f,.f,.f,.t,.t,.t,.f,.f,.f,.f,.f,.f,.f,.f,.f,.f,.f,.f,.f,.f,.f,.f,.f,.f,.f,.f,.f,.f] (fun k=>[(3,aa .i64 (PY V k)),(14,aa .i64 k)]) V.length (Is V) rfl (by simp[PY,hl]) (fun k hk hj=> ?_) (fun _ hp=> ?_)
 ·have hpos:=I9 (Xc hk) hj
  have hs:=RI hk
  have hb:Is V k=Ir (PY V k) V[k]:=by simp[Is,hk]
  have e3:=be V[k] 0 1000000000000
  have w:=aE (n:=V.length) (by rw[hl];decide) hk
  have lk:cQ (k:Int) 3=true:=hY (by omega)
  have hk3:k<3:=by omega
  rw[hb,hs]
  generalize PY V k=l at hpos⊢
  generalize hv:V[k]=v at e3⊢
  cases b:Ir l v
  ·obtain⟨g,z,mx,_⟩:=Q0 b hpos
   rw[g]at e3
   cases z0:(v==0)
   ·have z1:=z z0
    have nx:Tc l v=v:=if_neg (by simpa using z0)
    simp(maxSteps:=9999999) [du,hk,hk3,hl,hv,oV,e3,z0,z1,mx,nx,w,lk]
   ·have nx:Tc l v=l:=if_pos (by simpa using z0)
    simp(maxSteps:=9999999) [du,hk,hk3,hl,hv,oV,e3,z0,mx,nx,w,lk]
  ·obtain⟨q1,q2⟩:=Tt b
   cases g:rg v 0 1000000000000<;>rw[g]at e3
   ·simp +contextual (maxSteps:=9999999) [du,hk,hk3,hl,hv,oV,e3,w,lk]
   ·have q3:=q1 g
    have q4:=q2 g
    simp +contextual (maxSteps:=9999999) [du,hk,hk3,hl,hv,oV,e3,q3,q4,w,lk]
 ·rw[hl]at hp
  simp(maxSteps:=9999999) [du,hp,hl,e1,show cQ 3 3=false from rfl]
theorem te {r:XRegistration}(h:r.Ok maxLen):ah Ph au 391 [r.v]=some (av (Fh r)):=by
 have e1:=cN h.1
 unfold Fh
 obtain⟨V,hV⟩:∃V,V=[r.active,r.waiting,r.installing]:=⟨_,rfl⟩
 have hR:[[PV.int .i64 r.active],[PV.int .i64 r.waiting],[PV.int .i64 r.installing]]=V.map oV:=by rw[hV];rfl
 have hl:V.length=3:=by rw[hV];rfl
 rw[←hV]
 refine ae (fn:=jx) rfl ?_
 simp(maxSteps:=9999999) [jx]
 rw[hR]
 clear hR hV
 refine aC aU Cl.fin [.f,.t,.f,.t,.t,.t,.f,.f,.f,.f,.f,.f,.f,.f,.f,.f,.f,.f,.f,.f,.f,.f,.f,.f,.f,.f,.f,.f,.f,.f,.f,.f,.f,.f,.f,.f,.f,.f,.f,.f,.f,.f,.f,.f,.f,.f,.f,.f,.f,.f,.f,.f] (fun k=>[(3,aa .i64 (PY V k)),(5,aa .i64 k)]) V.length (Is V) rfl (by simp[PY,hl]) (fun k hk hj=> ?_) (fun _ hp=> ?_)
 ·have hpos:=I9 (Xc hk) hj
  have hs:=RI hk
  have hb:Is V k=Ir (PY V k) V[k]:=by simp[Is,hk]
  have e3:=bK V[k] 0 1000000000000
  have w:=aE (n:=V.length) (by rw[hl];decide) hk
  have lk:cQ (k:Int) 3=true:=hY (by omega)
  have hk3:k<3:=by omega
  rw[hb,hs]
  generalize PY V k=l at hpos⊢
  generalize hv:V[k]=v at e3⊢
  cases b:Ir l v
  ·obtain⟨g,z,mx,_⟩:=Q0 b hpos
   rw[g]at e3
   cases z0:(v==0)
   ·have z1:=z z0
    have nx:Tc l v=v:=if_neg (by simpa using z0)
    simp(maxSteps:=9999999) [dw,hk,hk3,hl,hv,oV,e3,z0,z1,mx,nx,w,lk]
   ·have nx:Tc l v=l:=if_pos (by simpa using z0)
    simp(maxSteps:=9999999) [dw,hk,hk3,hl,hv,oV,e3,z0,mx,nx,w,lk]
  ·obtain⟨q1,q2⟩:=Tt b
   cases g:rg v 0 1000000000000<;>rw[g]at e3
   ·simp +contextual (maxSteps:=9999999) [dw,hk,hk3,hl,hv,oV,e3,w,lk]
   ·have q3:=q1 g
    have q4:=q2 g
    simp +contextual (maxSteps:=9999999) [dw,hk,hk3,hl,hv,oV,e3,q3,q4,w,lk]
 ·rw[hl]at hp
  simp(maxSteps:=9999999) [dw,hp,hl,e1,show cQ 3 3=false from rfl]
theorem Cl.imp {call:Nat→List V→Option V}(hc:qv call){Q:Ex→St→Prop}(hQ:Cl Q){ks:List Fr}(hz:kz ks=true){A:Prop}:Cl (fun e τ=>A→wp call Q ks (some (e,τ))):=fun e σ τ k h a=>Sl hc hQ hz k (h a)
theorem xF {B:Nat}(hB1:B≤1048576){d:XDatabase}(h:d.Ok B):ah Ph au 393 [d.v]=some (av (MQ d)):=by
 have hB:B≤maxLen:=by unfold maxLen;omega
 obtain⟨hn,hv,⟨hsl,hs⟩,hul,hu⟩:=h
 have e1:=cN (Zc hn hB)
 have e2:=bK d.version 0 1000
 have hsL:d.stores.length≤maxLen:=Zc hsl hB
 have huL:d.unique.length≤maxLen:=Zc hul hB
 unfold MQ
 refine ae (fn:=mE) rfl ?_
 simp(maxSteps:=9999999) [mE]
 refine aC aU Cl.fin [.f,.t,.f,.t,.f,.f,.f,.f,.f,.f,.f,.f,.f,.f,.f,.f,.f,.f,.f,.f,.f,.f,.f,.f,.f,.f,.f,.f,.f,.f,.f,.f,.f,.f,.f,.f,.f,.f,.f,.f,.f,.f,.f,.f,.f,.f,.f,.f,.f,.f,.f,.f,.f,.f,.f,.f,.f,.f,.f,.f,.f,.f,.f,.f,.f,.f,.f,.f,.f,.f,.f,.f,.f,.f,.f,.f,.f,.f,.f,.f,.f,.f,.f,.f,.f,.f,.f,.f,.f,.f,.f,.f,.f,.f,.f,.f,.f,.f,.f,.f,.f,.f,.f,.f,.f,.f,.f,.f,.f,.f,.f,.f,.f,.f,.f,.f,.f,.f,.f,.f,.f,.f,.f,.f] (fun k=>[(3,aa .i64 k)]) d.stores.length (QY d.stores) rfl (by simp) (fun k hk _=> ?_) (fun _ hp=> ?_)
 ·obtain⟨q1,q2⟩:=vQ hsL hk
  have e3:=oY (XStore.Ok.mono hB (hs _ (Zg hk)))
  simp +contextual (maxSteps:=9999999) [fh,QY,hk,q1,q2,aE hsL hk,aZ hk,XStore.e.eq_1 d.stores[k],XStore.e.eq_1 d.stores[k-1],e3]
 ·simp(maxSteps:=9999999) [fh,hp]
  refine aC aU Cl.fin [.f,.t,.f,.f,.t,.f,.f,.f,.f,.f,.f,.f,.f,.f,.f,.f,.f,.f,.f,.f,.f,.f,.f,.f,.f,.f,.f,.f,.f,.f,.f,.f,.f,.f,.f,.f,.f,.f,.f,.f,.f,.f,.f,.f,.f,.f,.f,.f,.f,.f,.f,.f,.f,.f,.f,.f,.f,.f,.f,.f,.f,.f,.f,.f,.f,.f,.f,.f,.f,.f,.f,.f,.f,.f,.f,.f,.f,.f,.f,.f,.f,.f,.f,.f,.f,.f,.f,.f,.f,.f,.f,.f,.f,.f,.f,.f,.f,.f,.f,.f,.f,.f,.f,.f,.f,.f,.f,.f,.f,.f,.f,.f,.f,.f,.f,.f,.f,.f,.f,.f,.f,.f,.f,.f] (fun k=>[(4,aa .i64 k)]) d.unique.length (Gl d.stores d.unique) rfl (by simp) (fun k hk _=> ?_) (fun _ hp=> ?_)
  ·have e3:=zA (d:=d) hsL d.unique[k].store
   have e4:=cN (Zc (hu _ (Zg hk)).2 hB)
   have hdup:Kq d.unique k=gx k (iZ (qg d.unique[k]) d.unique):=by simp[Kq,hk]
   have hx:=XIndexDef.e.eq_1 d.unique[k]
   rcases vp (SZ d.unique[k].store) d.stores with⟨h1,h2⟩|⟨j,hj,h1,h2⟩<;>rw[h1]at e3
   ·rw[show Gl d.stores d.unique k=true by simp[Gl,hk,h2]]
    simp +contextual (maxSteps:=9999999) [dS,hk,e3,hx,aE huL hk,aZ hk,show cQ (-1) 0=true from rfl]
   ·have e6:=vW hB1 (hs _ (Zg hj)) d.unique[k].field
    have hy:=XStore.e.eq_1 d.stores[j]
    rw[show Gl d.stores d.unique k=(!(dd d.unique[k].field)||(Kq d.unique k||(Sg d.unique[k].field (nM d.unique[k].field d.stores[j].items)).2.2)) by simp[Gl,hk,h2],hdup]
    generalize Sg d.unique[k].field (nM d.unique[k].field d.stores[j].items)=T at e6⊢
    unfold Uv at e6
    generalize dd d.unique[k].field=N at e4⊢
    cases N
    ·simp +contextual (maxSteps:=9999999) [dS,hk,hj,e3,e4,e6,hx,hy,aE huL hk,aZ hk,Fp]
    cases hT:T.2.2<;>rw[hT]at e6
    rotate_left
    ·simp +contextual (maxSteps:=9999999) [dS,hk,hj,e3,e4,e6,hx,hy,aE huL hk,aZ hk,Fp]
    cases hD:gx k (iZ (qg d.unique[k]) d.unique)
    ·simp(maxSteps:=9999999) [dS,hk,hj,e3,e4,e6,hx,hy,aE huL hk,aZ hk,Fp]
     refine aC aU (Cl.kn) [.f,.t,.f,.f,.t,.f,.f,.f,.f,.t,.f,.f,.f,.f,.f,.f,.f,.f,.f,.f,.f,.f,.f,.f,.f,.f,.f,.f,.f,.f,.f,.f,.f,.f,.f,.f,.f,.f,.f,.f,.f,.f,.f,.f,.f,.f,.f,.f,.f,.f,.f,.f,.f,.f,.f,.f,.f,.f,.f,.f,.f,.f,.f,.f,.f,.f,.f,.f,.f,.f,.f,.f,.f,.f,.f,.f,.f,.f,.f,.f,.f,.f,.f,.f,.f,.f,.f,.f,.f,.f,.f,.f,.f,.f,.f,.f,.f,.f,.f,.f,.f,.f,.f,.f,.f,.f,.f,.f,.f,.f,.f,.f,.f,.f,.f,.f,.f,.f,.f,.f,.f,.f,.f,.f] (fun j=>[(9,aa .i64 j)]) k (iZ (qg d.unique[k]) d.unique) rfl (by simp) (fun i hi _=> ?_) (fun _ hq=> ?_)
     ·have hi2:i<d.unique.length:=by omega
      have hcm:qg d.unique[k] d.unique[i]=(d.unique[i].store==d.unique[k].store&&d.unique[i].field==d.unique[k].field):=FG _ _
      simp +contextual (maxSteps:=9999999) [fi,iZ,hcm,hi2,hk,hx,XIndexDef.e.eq_1 d.unique[i],qw,QD,aE huL hi2,aZ hi,hD]
     ·simp(maxSteps:=9999999) [fi,aE huL hk]
    ·simp(maxSteps:=9999999) [dS,hk,hj,e3,e4,e6,hx,hy,aE huL hk,aZ hk,Fp]
     refine aC aU (Cl.imp aU Cl.fin rfl) [.f,.t,.f,.f,.t,.f,.f,.f,.f,.t,.f,.f,.f,.f,.f,.f,.f,.f,.f,.f,.f,.f,.f,.f,.f,.f,.f,.f,.f,.f,.f,.f,.f,.f,.f,.f,.f,.f,.f,.f,.f,.f,.f,.f,.f,.f,.f,.f,.f,.f,.f,.f,.f,.f,.f,.f,.f,.f,.f,.f,.f,.f,.f,.f,.f,.f,.f,.f,.f,.f,.f,.f,.f,.f,.f,.f,.f,.f,.f,.f,.f,.f,.f,.f,.f,.f,.f,.f,.f,.f,.f,.f,.f,.f,.f,.f,.f,.f,.f,.f,.f,.f,.f,.f,.f,.f,.f,.f,.f,.f,.f,.f,.f,.f,.f,.f,.f,.f,.f,.f,.f,.f,.f,.f] (fun j=>[(9,aa .i64 j)]) k (iZ (qg d.unique[k]) d.unique) rfl (by simp) (fun i hi _=> ?_) (fun _ hq=> ?_)
     ·have hi2:i<d.unique.length:=by omega
      have hcm:qg d.unique[k] d.unique[i]=(d.unique[i].store==d.unique[k].store&&d.unique[i].field==d.unique[k].field):=FG _ _
      simp +contextual (maxSteps:=9999999) [fi,iZ,hcm,hi2,hk,hx,XIndexDef.e.eq_1 d.unique[i],qw,QD,aE huL hi2,aZ hi,hD]
     ·rw[hD]at hq;cases hq
  ·simp +contextual (maxSteps:=9999999) [dS,hp,e1,e2]
end Gi
