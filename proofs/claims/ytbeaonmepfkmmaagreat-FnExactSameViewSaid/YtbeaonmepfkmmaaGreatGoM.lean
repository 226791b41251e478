/- Of this proof. -/
import Derived.Test.YtbeaonmepfkmmaaGreatGky
import Derived.Test.YtbeaonmepfkmmaaGreatGoS
import Derived.Test.YtbeaonmepfkmmaaGreatGkd
import Derived.Test.YtbeaonmepfkmmaaGreatGoQ
set_option linter.unusedSimpArgs false
set_option linter.unusedVariables false
namespace Gi
open Go Go.RowKit
set_option maxHeartbeats 8000000
set_option maxRecDepth 4000
attribute [local simp] start nx bZ cJ cB dB cA dA dG dF og oA oh oB ol oC om oD oq oE ot oF ou oG ov oH oz oI V.cells plain bt gD isInt isStr isBool bin bM fF bN fG dC un asList L.view au V.view viewL aT az bQ bd b6 comp aN bU cy bI aY aW aX ar aj aE ah aq aO am aR bw aA aZ a9 V.flat L.flat cZ cV br putAt thaw thawL thawT V.ow dE cD cE bO dD bP cC freezeVs freezeLs freezeL V.mut L.mut aH cd eW bg bF aP dN cu bK cH L.ren aJ cS bX cY bW bE wp_seq wp_block aM cG bR bf bS wp_skip wp_exit wp_ret b9 b8 cj ca cr ct cq bH aF L.notArr bq bo bp cF b7 storeD aS eB ba bY aQ kX L.mov L.closed V.closed PV.bare PV.flat
theorem od {α:Type}{f:α→Nat}{c:Nat}:∀{xs:List α},(∀x∈xs,f x≤c)→ja f xs≤c*xs.length
 |[],_=>by simp[ja]
 |x::xs,h=>by
  have h1:=od (xs:=xs) (fun y hy=>h y (by simp[hy]))
  have h2:=h x (by simp)
  simp only[ja,List.map_cons,List.sum_cons,List.length_cons,Nat.mul_add]at*
  omega
def ub (d:XDatabase):Nat:=ja mA d.stores
theorem zc {d:XDatabase}(h:d.Ok 1048576):ub d≤115343360*1048576:=Nat.le_trans (od (c:=115343360) fun s hs=>Nat.le_trans (sd nh _) (by have:=(h.2.2.1.2 s hs).2.1.1;omega)) (Nat.mul_le_mul_left _ h.2.2.1.1)
theorem uL {d:XDatabase}(h:d.Ok 1048576):ag Ph aC 224 [d.v]=some (ai .i64 (ub d:Nat)):=by
 refine aa (fn:=k7) rfl ?_
 simp +contextual (maxSteps:=9999999) [k7]
 refine aL bG Cl.fin [.f,.f,.f,.t,.f,.f,.f,.t,.t,.t,.f,.f,.f,.f,.f,.f,.f,.f,.f] (fun k=>[(3,ai .i64 (ja mA (d.stores.take k):Nat)),(9,ai .i64 k)]) d.stores.length (fun _=>false) rfl (by simp[ja]) (fun k hk _=> ?_) (fun _ _=> ?_)
 ·have hx:=XStore.e.eq_1 d.stores[k]
  have hi:=h.2.2.1.2 _ (List.getElem_mem hk)
  have e1:=rj hi
  have l1:mA d.stores[k]≤115343360:=Nat.le_trans (sd nh _) (by have:=hi.2.1.1;omega)
  have l3:=od (f:=mA) (c:=115343360) (xs:=d.stores.take k) (fun s hs=>Nat.le_trans (sd nh _) (by have:=(h.2.2.1.2 s (List.mem_of_mem_take hs)).2.1.1;omega))
  have l4:(d.stores.take k).length≤1048576:=by rw[List.length_take];have:=h.2.2.1.1;omega
  rw[oP hk]
  generalize ja mA (d.stores.take k)=A at l3⊢
  generalize mA d.stores[k]=a at l1 e1⊢
  have w1:IntKind.i64.wrap ((A:Int)+(a:Int))=(A:Int)+(a:Int):=by rw[IntKind.wrap_i64];omega
  simp(maxSteps:=9999999) [hZ,hk,hx,e1,w1,aU (n:=d.stores.length) (by have:=h.2.2.1.1;unfold maxLen;omega) hk,a8 hk]
 ·rw[List.take_length]
  simp(maxSteps:=9999999) [hZ,ub]
theorem AD {x:XDisk}(h:x.Ok 1048576):ag Ph aC 196 [x.v]=some (ai .i64 (ub x.base+x.log.length:Nat)):=by
 have e1:=uL h.1
 have l1:=zc h.1
 have l2:=h.2.1
 generalize ub x.base=A at e1 l1⊢
 have w1:IntKind.i64.wrap ((A:Int)+(x.log.length:Int))=(A:Int)+(x.log.length:Int):=by rw[IntKind.wrap_i64];omega
 refine aa (fn:=o4) rfl ?_
 simp +contextual (maxSteps:=9999999) [o4,e1,w1,al]
theorem vh {d:XDatabase}(h:d.Ok 1048576):ag Ph aC 220 [d.v]=some (ai .i64 (ub d:Nat)):=by
 refine aa (fn:=k9) rfl ?_
 simp +contextual (maxSteps:=9999999) [k9]
 refine aL bG Cl.fin [.f,.t,.f,.t,.t,.f,.f,.f,.f,.f,.f,.f,.f,.f,.f,.f,.f,.f,.f,.f,.f] (fun k=>[(3,ai .i64 (ja mA (d.stores.take k):Nat)),(4,ai .i64 k)]) d.stores.length (fun _=>false) rfl (by simp[ja]) (fun k hk _=> ?_) (fun _ _=> ?_)
 ·have hx:=XStore.e.eq_1 d.stores[k]
  have hi:=h.2.2.1.2 _ (List.getElem_mem hk)
  have e1:=rq hi
  have l1:mA d.stores[k]≤115343360:=Nat.le_trans (sd nh _) (by have:=hi.2.1.1;omega)
  have l3:=od (f:=mA) (c:=115343360) (xs:=d.stores.take k) (fun s hs=>Nat.le_trans (sd nh _) (by have:=(h.2.2.1.2 s (List.mem_of_mem_take hs)).2.1.1;omega))
  have l4:(d.stores.take k).length≤1048576:=by rw[List.length_take];have:=h.2.2.1.1;omega
  rw[oP hk]
  generalize ja mA (d.stores.take k)=A at l3⊢
  generalize mA d.stores[k]=a at l1 e1⊢
  have w1:IntKind.i64.wrap ((A:Int)+(a:Int))=(A:Int)+(a:Int):=by rw[IntKind.wrap_i64];omega
  simp(maxSteps:=9999999) [ie,hk,hx,e1,w1,aU (n:=d.stores.length) (by have:=h.2.2.1.1;unfold maxLen;omega) hk,a8 hk]
 ·rw[List.take_length]
  simp(maxSteps:=9999999) [ie,ub]
theorem AX {x:XDisk}(h:x.Ok 1048576):ag Ph aC 193 [x.v]=some (ai .i64 (ub x.base+x.log.length:Nat)):=by
 have e1:=vh h.1
 have l1:=zc h.1
 have l2:=h.2.1
 generalize ub x.base=A at e1 l1⊢
 have w1:IntKind.i64.wrap ((A:Int)+(x.log.length:Int))=(A:Int)+(x.log.length:Int):=by rw[IntKind.wrap_i64];omega
 refine aa (fn:=pf) rfl ?_
 simp +contextual (maxSteps:=9999999) [pf,e1,w1,al]
def Bt (b:Bool)(x:XResponse):Nat:=cond b 76 (16+x.body.length)
def sN (e:XCached):Nat:=Bt (e.resp.type==3) e.resp
theorem uX {e:XCached}(h:e.Ok 1048576):sN e≤1048592:=by
 have:=h.2.2.2.2.2
 unfold sN Bt
 cases(e.resp.type==3)<;>simp only[cond_true,cond_false]<;>omega
def wH (c:XCache):Nat:=ja sN c.entries
theorem EA {c:XCache}(h:c.Ok 1048576):wH c≤1048592*1048576:=Nat.le_trans (od fun e he=>uX (h.2.2 e he)) (Nat.mul_le_mul_left _ h.2.1)
def Bs (s:XCacheSet):Nat:=ja wH s.caches
theorem xi {x:XResponse}(h:x.body.length≤1048576)(b:Bool):ag Ph aC 223 [x.v,aD b]=some (ai .i64 (Bt b x:Nat)):=by
 have w1:IntKind.i64.wrap (16+(x.body.length:Int))=16+(x.body.length:Int):=by rw[IntKind.wrap_i64];omega
 refine aa (fn:=mP) rfl ?_
 cases b<;>simp(maxSteps:=9999999) [mP,Bt,w1,al]
theorem xh {s:XCacheSet}(h:s.Ok 1048576):ag Ph aC 195 [s.v]=some (ai .i64 (Bs s:Nat)):=by
 refine aa (fn:=mN) rfl ?_
 simp +contextual (maxSteps:=9999999) [mN]
 refine aL bG Cl.fin [.f,.f,.f,.t,.f,.f,.f,.f,.f,.t,.t,.t,.f,.f,.f,.f,.f,.f,.f,.f,.f,.f,.f,.f,.f,.f,.f,.f,.f,.f,.f,.f,.f,.f] (fun k=>[(3,ai .i64 (ja wH (s.caches.take k):Nat)),(11,ai .i64 k)]) s.caches.length (fun _=>false) rfl (by simp[ja]) (fun k hk _=> ?_) (fun _ _=> ?_)
 ·have hx:=XCache.e.eq_1 s.caches[k]
  have hc:=h.2 _ (List.getElem_mem hk)
  have wk:=aU (n:=s.caches.length) (by have:=h.1;unfold maxLen;omega) hk
  have l4:=od (f:=wH) (c:=1048592*1048576) (xs:=s.caches.take k) (fun c hm=>EA (h.2 c (List.mem_of_mem_take hm)))
  have l5:(s.caches.take k).length≤1048576:=by rw[List.length_take];have:=h.1;omega
  rw[oP hk]
  generalize ja wH (s.caches.take k)=A at l4⊢
  simp(maxSteps:=9999999) [iI,hk,hx,a8 hk]
  refine aL bG Cl.kn [.f,.f,.f,.t,.f,.f,.f,.f,.f,.t,.t,.t,.f,.f,.f,.f,.t,.t,.t,.f,.f,.f,.f,.f,.f,.f,.f,.f,.f,.f,.f,.f,.f,.f] (fun j=>[(3,ai .i64 (A+ja sN (s.caches[k].entries.take j):Nat)),(18,ai .i64 j)]) s.caches[k].entries.length (fun _=>false) rfl (by simp[ja]) (fun j hj _=> ?_) (fun _ _=> ?_)
  ·have hy:=XCached.e.eq_1 s.caches[k].entries[j]
   have he:=hc.2.2 _ (List.getElem_mem hj)
   have e1:=fun b=>xi (x:=s.caches[k].entries[j].resp) he.2.2.2.2.2 b
   have wj:=aU (n:=s.caches[k].entries.length) (by have:=hc.2.1;unfold maxLen;omega) hj
   have l1:=uX he
   have l2:=od (f:=sN) (c:=1048592) (xs:=s.caches[k].entries.take j) (fun c hm=>uX (hc.2.2 c (List.mem_of_mem_take hm)))
   have l3:(s.caches[k].entries.take j).length≤1048576:=by rw[List.length_take];have:=hc.2.1;omega
   have hs:Bt (s.caches[k].entries[j].resp.type==3) s.caches[k].entries[j].resp=sN s.caches[k].entries[j]:=rfl
   have e2:=e1 (s.caches[k].entries[j].resp.type==3)
   rw[hs]at e2
   rw[oP hj]
   generalize ja sN (s.caches[k].entries.take j)=D at l2⊢
   generalize sN s.caches[k].entries[j]=a at l1 e2⊢
   have w1:IntKind.i64.wrap ((A:Int)+(D:Int)+(a:Int))=(A:Int)+((D:Int)+(a:Int)):=by rw[IntKind.wrap_i64];omega
   simp(maxSteps:=9999999) [gy,hk,hj,hx,hy,e2,w1,wj,a8 hj]
  ·rw[List.take_length]
   simp(maxSteps:=9999999) [gy,hk,hx,wk,wH]
 ·rw[List.take_length]
  simp(maxSteps:=9999999) [iI,Bs]
theorem xI {x:XResponse}(h:x.body.length≤1048576)(b:Bool):ag Ph aC 219 [x.v,aD b]=some (ai .i64 (Bt b x:Nat)):=by
 have w1:IntKind.i64.wrap (16+(x.body.length:Int))=16+(x.body.length:Int):=by rw[IntKind.wrap_i64];omega
 refine aa (fn:=m4) rfl ?_
 cases b<;>simp(maxSteps:=9999999) [m4,Bt,w1,al]
theorem xH {s:XCacheSet}(h:s.Ok 1048576):ag Ph aC 192 [s.v]=some (ai .i64 (Bs s:Nat)):=by
 refine aa (fn:=mZ) rfl ?_
 simp +contextual (maxSteps:=9999999) [mZ]
 refine aL bG Cl.fin [.f,.t,.f,.t,.t,.f,.f,.f,.f,.f,.f,.f,.f,.f,.f,.f,.f,.f,.f,.f,.f,.f,.f,.f,.f,.f,.f,.f,.f,.f,.f,.f,.f,.f,.f,.f,.f,.f,.f,.f,.f,.f,.f] (fun k=>[(3,ai .i64 (ja wH (s.caches.take k):Nat)),(4,ai .i64 k)]) s.caches.length (fun _=>false) rfl (by simp[ja]) (fun k hk _=> ?_) (fun _ _=> ?_)
 ·have hx:=XCache.e.eq_1 s.caches[k]
  have hc:=h.2 _ (List.getElem_mem hk)
  have wk:=aU (n:=s.caches.length) (by have:=h.1;unfold maxLen;omega) hk
  have l4:=od (f:=wH) (c:=1048592*1048576) (xs:=s.caches.take k) (fun c hm=>EA (h.2 c (List.mem_of_mem_take hm)))
  have l5:(s.caches.take k).length≤1048576:=by rw[List.length_take];have:=h.1;omega
  rw[oP hk]
  generalize ja wH (s.caches.take k)=A at l4⊢
  simp(maxSteps:=9999999) [iK,hk,hx,a8 hk]
  refine aL bG Cl.kn [.f,.t,.f,.t,.t,.t,.f,.f,.f,.f,.f,.f,.f,.f,.f,.f,.f,.f,.f,.f,.f,.f,.f,.f,.f,.f,.f,.f,.f,.f,.f,.f,.f,.f,.f,.f,.f,.f,.f,.f,.f,.f,.f] (fun j=>[(3,ai .i64 (A+ja sN (s.caches[k].entries.take j):Nat)),(5,ai .i64 j)]) s.caches[k].entries.length (fun _=>false) rfl (by simp[ja]) (fun j hj _=> ?_) (fun _ _=> ?_)
  ·have hy:=XCached.e.eq_1 s.caches[k].entries[j]
   have he:=hc.2.2 _ (List.getElem_mem hj)
   have e1:=fun b=>xI (x:=s.caches[k].entries[j].resp) he.2.2.2.2.2 b
   have wj:=aU (n:=s.caches[k].entries.length) (by have:=hc.2.1;unfold maxLen;omega) hj
   have l1:=uX he
   have l2:=od (f:=sN) (c:=1048592) (xs:=s.caches[k].entries.take j) (fun c hm=>uX (hc.2.2 c (List.mem_of_mem_take hm)))
   have l3:(s.caches[k].entries.take j).length≤1048576:=by rw[List.length_take];have:=hc.2.1;omega
   have hs:Bt (s.caches[k].entries[j].resp.type==3) s.caches[k].entries[j].resp=sN s.caches[k].entries[j]:=rfl
   have e2:=e1 (s.caches[k].entries[j].resp.type==3)
   rw[hs]at e2
   rw[oP hj]
   generalize ja sN (s.caches[k].entries.take j)=D at l2⊢
   generalize sN s.caches[k].entries[j]=a at l1 e2⊢
   have w1:IntKind.i64.wrap ((A:Int)+(D:Int)+(a:Int))=(A:Int)+((D:Int)+(a:Int)):=by rw[IntKind.wrap_i64];omega
   simp(maxSteps:=9999999) [gz,hk,hj,hx,hy,e2,w1,wj,a8 hj]
  ·rw[List.take_length]
   simp(maxSteps:=9999999) [gz,hk,hx,wk,wH]
 ·rw[List.take_length]
  simp(maxSteps:=9999999) [iK,Bs]
theorem Ky {s:XCacheSet}(h:s.Ok 1048576):Bs s≤1048592*1048576*1048576:=Nat.le_trans (od fun c hm=>EA (h.2 c hm)) (Nat.mul_le_mul_left _ h.1)
def Fc (x:XBucket):Nat:=Bs x.caches+(ub x.disk.base+x.disk.log.length)+mA x.replica.base+40*x.replica.sync.outbox.writes.length
theorem Ci {x:XBucket}(h:x.Ok 1048576):ag Ph aC 162 [x.v]=some (ai .i64 (Fc x:Nat)):=by
 obtain⟨_,_,_,hc,hd,hr,_⟩:=h
 have e1:=xh hc
 have e2:=AD hd
 have e3:=rj hr.1
 have l1:=Ky hc
 have l2:=zc hd.1
 have l3:mA x.replica.base≤115343360:=Nat.le_trans (sd nh _) (by have:=hr.1.2.1.1;omega)
 have l4:=hd.2.1
 have l5:x.replica.sync.outbox.writes.length≤1048576:=hr.2.2.1.2.2.1
 unfold Fc
 generalize Bs x.caches=A at e1 l1⊢
 generalize ub x.disk.base=B at e2 l2⊢
 generalize mA x.replica.base=C at e3 l3⊢
 have w1:IntKind.i64.wrap ((A:Int)+((B:Int)+(x.disk.log.length:Int)))=(A:Int)+((B:Int)+(x.disk.log.length:Int)):=by rw[IntKind.wrap_i64];omega
 have w2:IntKind.i64.wrap ((A:Int)+((B:Int)+(x.disk.log.length:Int))+(C:Int))=(A:Int)+((B:Int)+(x.disk.log.length:Int))+(C:Int):=by rw[IntKind.wrap_i64];omega
 have w3:IntKind.i64.wrap (40*(x.replica.sync.outbox.writes.length:Int))=40*(x.replica.sync.outbox.writes.length:Int):=by rw[IntKind.wrap_i64];omega
 have w4:IntKind.i64.wrap ((A:Int)+((B:Int)+(x.disk.log.length:Int))+(C:Int)+40*(x.replica.sync.outbox.writes.length:Int))=(A:Int)+((B:Int)+(x.disk.log.length:Int))+(C:Int)+40*(x.replica.sync.outbox.writes.length:Int):=by rw[IntKind.wrap_i64];omega
 refine aa (fn:=qe) rfl ?_
 simp +contextual (maxSteps:=9999999) [qe,e1,e2,e3,w1,w2,w3,w4]
theorem Ct {x:XBucket}(h:x.Ok 1048576):ag Ph aC 161 [x.v]=some (ai .i64 (Fc x:Nat)):=by
 obtain⟨_,_,_,hc,hd,hr,_⟩:=h
 have e1:=xH hc
 have e2:=AX hd
 have e3:=rq hr.1
 have l1:=Ky hc
 have l2:=zc hd.1
 have l3:mA x.replica.base≤115343360:=Nat.le_trans (sd nh _) (by have:=hr.1.2.1.1;omega)
 have l4:=hd.2.1
 have l5:x.replica.sync.outbox.writes.length≤1048576:=hr.2.2.1.2.2.1
 unfold Fc
 generalize Bs x.caches=A at e1 l1⊢
 generalize ub x.disk.base=B at e2 l2⊢
 generalize mA x.replica.base=C at e3 l3⊢
 have w1:IntKind.i64.wrap ((A:Int)+((B:Int)+(x.disk.log.length:Int)))=(A:Int)+((B:Int)+(x.disk.log.length:Int)):=by rw[IntKind.wrap_i64];omega
 have w2:IntKind.i64.wrap ((A:Int)+((B:Int)+(x.disk.log.length:Int))+(C:Int))=(A:Int)+((B:Int)+(x.disk.log.length:Int))+(C:Int):=by rw[IntKind.wrap_i64];omega
 have w3:IntKind.i64.wrap (40*(x.replica.sync.outbox.writes.length:Int))=40*(x.replica.sync.outbox.writes.length:Int):=by rw[IntKind.wrap_i64];omega
 have w4:IntKind.i64.wrap ((A:Int)+((B:Int)+(x.disk.log.length:Int))+(C:Int)+40*(x.replica.sync.outbox.writes.length:Int))=(A:Int)+((B:Int)+(x.disk.log.length:Int))+(C:Int)+40*(x.replica.sync.outbox.writes.length:Int):=by rw[IntKind.wrap_i64];omega
 refine aa (fn:=qm) rfl ?_
 simp +contextual (maxSteps:=9999999) [qm,e1,e2,e3,w1,w2,w3,w4]
def mC (w:XWorld)(s t:List UInt8):List Int:=match w.storage.buckets.find? (Ck s t)with
 |none=>[w.now,cond w.online 1 0]
 |some b=>[w.now,cond w.online 1 0,IntKind.i64.wrap (2500-(Fc b:Nat)),b.reg.active,b.reg.waiting,((Hk w s t).items.length:Nat),((BC b.replica.base b.replica.sync.outbox.writes).items.length:Nat),(b.replica.sync.outbox.writes.length:Nat),((w.pages.filter (AN s t)).length:Nat)]
theorem GW (w:XWorld)(s t:List UInt8):(mC w s t).length≤9:=by unfold mC;split<;>simp
theorem uM {w:XWorld}(h:w.Ok 1048576)(s t:List UInt8):ag Ph aC 542 [w.v,di s,di t]=some (.one (.down 1 ((mC w s t).map jS))):=by
 have hbl:w.storage.buckets.length≤maxLen:=Nat.le_trans h.2.2.1.1 (by unfold maxLen;omega)
 have e0:=JS w.online
 have e1:ag Ph aC 146 [w.v,di s,di t]=some _:=kP (bs:=w.storage.buckets) hbl s t
 have e3:=uH h s t
 have e4:=pI (Hk w s t)
 have e5:ag Ph aC 551 [w.v,di s,di t]=some _:=Cf (Nat.le_refl 1048576) h.2.2.2.1.1 h.2.2.2.1.2 s t
 unfold mC
 simp only[TN]at e3
 simp only[sQ]at e4
 generalize Hk w s t=dn at*
 generalize V.agg [.pv (.str dn.name),nd 4 (dn.items.map XItem.e), .pv (.int .i64 dn.auto)]=nv at*
 cases hb:w.storage.buckets.find? (Ck s t)with
 |none=>
  rw[hb]at e1
  simp only[tk]at e1
  refine aa (fn:=lh) rfl ?_
  simp(maxSteps:=9999999) [lh,e0,e1,jS]
 |some b=>
  rw[hb]at e1
  have hbo:=h.2.2.1.2 _ (List.mem_of_find?_eq_some hb)
  have hx:=XBucket.e.eq_1 b
  simp only[hx,List.map_cons,List.map_nil]at e1
  have e2:=Ci hbo
  have e6:=xg (r:=b.replica) (by omega) (Nat.le_refl 1048576) hbo.2.2.2.2.2.1
  have hr:=XReplica.e.eq_1 b.replica
  simp only[hr,List.map_cons,List.map_nil,sQ]at e6
  have hlen1:(dn.items.map XItem.e).length=dn.items.length:=by simp
  have hlen2:((BC b.replica.base b.replica.sync.outbox.writes).items.map XItem.e).length=(BC b.replica.base b.replica.sync.outbox.writes).items.length:=by simp
  have hlen3:((w.pages.filter (AN s t)).map XPage.e).length=(w.pages.filter (AN s t)).length:=by simp
  simp only[←hlen1,←hlen2,←hlen3]
  generalize dn.items.map XItem.e=D1 at*
  generalize BC b.replica.base b.replica.sync.outbox.writes=ap at*
  generalize ap.items.map XItem.e=D2 at*
  generalize (w.pages.filter (AN s t)).map XPage.e=D3 at*
  generalize Fc b=us at*
  clear hlen1 hlen2 hlen3
  refine aa (fn:=lh) rfl ?_
  simp(maxSteps:=9999999) [lh,e0,e1,hx,e2,e3, ↓e4,e5,e6,jS, ↓aA, ↓aq, ↓aj, ↓ar, ↓ah, ↓aE, ↓am]
theorem vi {w:XWorld}(h:w.Ok 1048576)(s t:List UInt8):ag Ph aC 541 [w.v,di s,di t]=some (.one (.own 1 ((mC w s t).map jS))):=by
 have hbl:w.storage.buckets.length≤maxLen:=Nat.le_trans h.2.2.1.1 (by unfold maxLen;omega)
 have e1:=js (bs:=w.storage.buckets) hbl s t
 have e3:=vd h s t
 have e4:=pI (Hk w s t)
 have e5:ag Ph aC 549 [w.v,di s,di t]=some _:=Cr (Nat.le_refl 1048576) h.2.2.2.1.1 h.2.2.2.1.2 s t
 unfold mC
 simp only[TN]at e3
 simp only[sQ]at e4
 generalize Hk w s t=dn at*
 generalize V.agg [.pv (.str dn.name),nd 4 (dn.items.map XItem.e), .pv (.int .i64 dn.auto)]=nv at*
 have b0:(cond w.online 1 0:Int)=cond w.online 1 0:=rfl
 rcases mw (Ck s t) w.storage.buckets with⟨p1,p2⟩|⟨i,hi,p1,p2⟩<;>rw[p1]at e1<;>rw[p2]
 ·have l0:cw (-1) 0=true:=rfl
  refine aa (fn:=lm) rfl ?_
  cases hon:w.online<;>(simp only[XWorld.v,hon]at e3 e5;simp(maxSteps:=9999999) [lm,e1,l0,hon,jS])
 ·have hbo:=h.2.2.1.2 _ (List.getElem_mem hi)
  have hx:=XBucket.e.eq_1 w.storage.buckets[i]
  have li:cw (i:Int) 0=false:=fB (by omega)
  have e2:=Ct hbo
  have e6:=xG (r:=w.storage.buckets[i].replica) (by omega) (Nat.le_refl 1048576) hbo.2.2.2.2.2.1
  have hr:=XReplica.e.eq_1 w.storage.buckets[i].replica
  simp only[hr,List.map_cons,List.map_nil,sQ]at e6
  have hlen1:(dn.items.map XItem.e).length=dn.items.length:=by simp
  have hlen2:((BC w.storage.buckets[i].replica.base w.storage.buckets[i].replica.sync.outbox.writes).items.map XItem.e).length=(BC w.storage.buckets[i].replica.base w.storage.buckets[i].replica.sync.outbox.writes).items.length:=by simp
  have hlen3:((w.pages.filter (AN s t)).map XPage.e).length=(w.pages.filter (AN s t)).length:=by simp
  simp only[←hlen1,←hlen2,←hlen3]
  generalize dn.items.map XItem.e=D1 at*
  generalize BC w.storage.buckets[i].replica.base w.storage.buckets[i].replica.sync.outbox.writes=ap at*
  generalize ap.items.map XItem.e=D2 at*
  generalize (w.pages.filter (AN s t)).map XPage.e=D3 at*
  generalize Fc w.storage.buckets[i]=us at*
  clear hlen1 hlen2 hlen3
  refine aa (fn:=lm) rfl ?_
  cases hon:w.online<;>(simp only[XWorld.v,hon]at e3 e5)<;>simp(maxSteps:=9999999) [lm,e1,hi,hx,li,hon,e2,e3, ↓e4,e5,e6,jS, ↓aA, ↓aq, ↓aj, ↓ar, ↓ah, ↓aE, ↓am]
def ii {α:Type}(p:α→α→Bool)(a b:List α)(k:Nat):Bool:=match a[k]?,b[k]? with
 |some x,some y=> !(p x y)
 |_,_=>false
def pC {α:Type}(p:α→α→Bool)(a b:List α):Bool:=(a.length==b.length)&& !(lc a.length (ii p a b))
theorem mG {α:Type}{p:α→α→Bool}{a b:List α}(h:¬a.length=b.length):pC p a b=false:=by simp[pC,h]
theorem mF {α:Type}{p:α→α→Bool}{a b:List α}(h:a.length=b.length):pC p a b= !(lc a.length (ii p a b)):=by simp[pC,h]
def TG (x y:XField):Bool:=x.name==y.name&&x.n==y.n
def Tj (x y:XRecord):Bool:=pC TG x.fs y.fs
theorem uJ {x y:XRecord}(h:x.fs.length≤maxLen):ag Ph aC 340 [x.v,y.v]=some (aD (Tj x y)):=by
 have key:ag Ph aC 352 [bi (x.fs.map XField.e),bi (y.fs.map XField.e)]=some (aD (pC TG x.fs y.fs)):=by
  generalize x.fs=a at*
  generalize y.fs=b at*
  refine aa (fn:=dw) rfl ?_
  by_cases hl:a.length=b.length
  ·rw[mF hl]
   simp(maxSteps:=9999999) [dw,hl]
   rw[←hl]
   refine aL bG Cl.fin [.t,.t,.f,.f,.f,.f,.f,.f,.f,.f,.f,.f,.t,.t,.f,.f,.f,.f,.f,.f,.f,.f,.f,.f,.f,.f] (fun k=>[(13,ai .i64 k)]) a.length (ii TG a b) rfl (by simp[hl]) (fun k hk _=> ?_) (fun _ hp=> ?_)
   ·have hk2:k<b.length:=by omega
    obtain⟨c1,hc1⟩:∃c,(a[k].name==b[k].name)=c:=⟨_,rfl⟩
    obtain⟨c2,hc2⟩:∃c,(a[k].n==b[k].n)=c:=⟨_,rfl⟩
    cases c1<;>cases c2<;>simp +contextual (maxSteps:=9999999) [df,hk,hk2,ii,TG,XField.e.eq_1 a[k],XField.e.eq_1 b[k],kJ,Fv,hc1,hc2,aU h hk,a8 hk,a8 hk2,hl]
   ·simp(maxSteps:=9999999) [df,hp]
  ·have hc:((a.length:Int)==(b.length:Int))=false:=by rw[beq_eq_false_iff_ne];omega
   rw[mG hl]
   simp(maxSteps:=9999999) [dw,hc]
 refine aa (fn:=kZ) rfl ?_
 simp(maxSteps:=9999999) [kZ,key,Tj]
theorem vf {x y:XRecord}(h:x.fs.length≤maxLen):ag Ph aC 322 [x.v,y.v]=some (aD (Tj x y)):=by
 unfold Tj
 obtain⟨a⟩:=x
 obtain⟨b⟩:=y
 simp only at h⊢
 refine aa (fn:=iO) rfl ?_
 by_cases hl:a.length=b.length
 ·rw[mF hl]
  simp(maxSteps:=9999999) [iO,hl]
  rw[←hl]
  refine aL bG Cl.fin [.f,.f,.t,.t,.f,.t,.f,.f,.f,.f,.f,.f,.f,.f,.f,.f,.f,.f,.f,.f,.f,.f,.f,.f,.f,.f,.f,.f,.f,.f,.f] (fun k=>[(5,ai .i64 k)]) a.length (ii TG a b) rfl (by simp[hl]) (fun k hk _=> ?_) (fun _ hp=> ?_)
  ·have hk2:k<b.length:=by omega
   obtain⟨c1,hc1⟩:∃c,(a[k].name==b[k].name)=c:=⟨_,rfl⟩
   obtain⟨c2,hc2⟩:∃c,(a[k].n==b[k].n)=c:=⟨_,rfl⟩
   cases c1<;>cases c2<;>simp +contextual (maxSteps:=9999999) [ic,hk,hk2,ii,TG,XField.e.eq_1 a[k],XField.e.eq_1 b[k],kJ,Fv,hc1,hc2,aU h hk,a8 hk,a8 hk2,hl]
  ·simp(maxSteps:=9999999) [ic,hp]
 ·have hc:((a.length:Int)==(b.length:Int))=false:=by rw[beq_eq_false_iff_ne];omega
  rw[mG hl]
  simp(maxSteps:=9999999) [iO,hc]
def UA (x y:XKey):Bool:=x.kind==y.kind&&(x.n==y.n&&x.text==y.text)
def zP (x y:XItem):Bool:=UA x.key y.key&&Tj x.rcd y.rcd
def tu (x y:XStore):Bool:=x.name==y.name&&(x.auto==y.auto&&pC zP x.items y.items)
theorem xj {x y:XItem}(h:x.rcd.fs.length≤maxLen):ag Ph aC 325 [.agg (x.e.map .pv), .agg (y.e.map .pv)]=some (aD (zP x y)):=by
 have e1:=uJ (x:=x.rcd) (y:=y.rcd) h
 unfold zP UA
 obtain⟨c1,h1⟩:∃c,(x.key.kind==y.key.kind)=c:=⟨_,rfl⟩
 obtain⟨c2,h2⟩:∃c,(x.key.n==y.key.n)=c:=⟨_,rfl⟩
 obtain⟨c3,h3⟩:∃c,(x.key.text==y.key.text)=c:=⟨_,rfl⟩
 rw[h1,h2,h3]
 generalize Tj x.rcd y.rcd=c4 at*
 refine aa (fn:=mR) rfl ?_
 cases c1<;>cases c2<;>cases c3<;>simp(maxSteps:=9999999) [mR,XItem.e.eq_1,kJ,Fv,h1,h2,h3,e1]
theorem pq {B:Nat}(hB:B≤1048576){x y:XStore}(h:x.Ok B):ag Ph aC 312 [x.v,y.v]=some (aD (tu x y)):=by
 have key:ag Ph aC 324 [bi (x.items.map XItem.e),bi (y.items.map XItem.e), .one (.fn 325 [])]=some (aD (pC zP x.items y.items)):=by
  have hi:=h.2.1
  generalize x.items=a at*
  generalize y.items=b at*
  have ha:a.length≤maxLen:=by have:=hi.1;unfold maxLen;omega
  refine aa (fn:=bJ) rfl ?_
  by_cases hl:a.length=b.length
  ·rw[mF hl]
   simp(maxSteps:=9999999) [bJ,hl]
   rw[←hl]
   refine aL bG Cl.fin [.f,.t,.t,.f,.f,.f,.f,.f,.f,.f,.f,.f,.f,.f,.f,.t,.t,.t,.f,.f,.f,.f,.f,.f,.f,.f,.f,.f,.f,.f,.f,.f] (fun k=>[(17,ai .i64 k)]) a.length (ii zP a b) rfl (by simp[hl]) (fun k hk _=> ?_) (fun _ hp=> ?_)
   ·have hk2:k<b.length:=by omega
    have e1:=xj (x:=a[k]) (y:=b[k]) (by have:=(hi.2 _ (List.getElem_mem hk)).2.1;unfold maxLen;omega)
    rw[XItem.e.eq_1,XItem.e.eq_1]at e1
    simp only[List.map_cons,List.map_nil]at e1
    have hn:ii zP a b k= !(zP a[k] b[k]):=by simp[ii,hk,hk2]
    rw[hn]
    generalize zP a[k] b[k]=c at*
    cases c<;>simp +contextual (maxSteps:=9999999) [bB,hk,hk2,XItem.e.eq_1 a[k],XItem.e.eq_1 b[k],e1,rE,aU ha hk,a8 hk,a8 hk2,hl]
   ·simp(maxSteps:=9999999) [bB,hp]
  ·have hc:((a.length:Int)==(b.length:Int))=false:=by rw[beq_eq_false_iff_ne];omega
   rw[mG hl]
   simp(maxSteps:=9999999) [bJ,hc]
 unfold tu
 obtain⟨c1,h1⟩:∃c,(x.name==y.name)=c:=⟨_,rfl⟩
 obtain⟨c2,h2⟩:∃c,(x.auto==y.auto)=c:=⟨_,rfl⟩
 rw[h1,h2]
 generalize pC zP x.items y.items=c4 at*
 refine aa (fn:=lQ) rfl ?_
 cases c1<;>cases c2<;>simp(maxSteps:=9999999) [lQ,h1,h2,key]
theorem px {B:Nat}(hB:B≤1048576){x y:XStore}(h:x.Ok B):ag Ph aC 310 [x.v,y.v]=some (aD (tu x y)):=by
 unfold tu
 obtain⟨xn,a,xa⟩:=x
 obtain⟨yn,b,ya⟩:=y
 have hi:=h.2.1
 simp only at hi⊢
 have ha:a.length≤maxLen:=by have:=hi.1;unfold maxLen;omega
 obtain⟨c1,h1⟩:∃c,(xn==yn)=c:=⟨_,rfl⟩
 obtain⟨c2,h2⟩:∃c,(xa==ya)=c:=⟨_,rfl⟩
 rw[h1,h2]
 refine aa (fn:=fP) rfl ?_
 cases c1
 ·simp(maxSteps:=9999999) [fP,h1]
 cases c2
 ·simp(maxSteps:=9999999) [fP,h1,h2]
 by_cases hl:a.length=b.length
 ·rw[mF hl]
  simp(maxSteps:=9999999) [fP,h1,h2,hl]
  rw[←hl]
  refine aL bG Cl.fin [.f,.f,.t,.t,.f,.t,.f,.f,.f,.f,.f,.f,.f,.f,.f,.f,.f,.f,.f,.f,.f,.f,.f,.f,.f,.f,.f,.f,.f,.f,.f,.f,.f,.f,.f,.f,.f,.f,.f,.f,.f,.f,.f,.f,.f,.f,.f,.f,.f,.f,.f,.f,.f,.f,.f,.f,.f,.f,.f,.f,.f,.f,.f] (fun k=>[(5,ai .i64 k)]) a.length (ii zP a b) rfl (by simp[hl]) (fun k hk _=> ?_) (fun _ hp=> ?_)
  ·have hk2:k<b.length:=by omega
   have e1:=vf (x:=a[k].rcd) (y:=b[k].rcd) (by have:=(hi.2 _ (List.getElem_mem hk)).2.1;unfold maxLen;omega)
   have hn:ii zP a b k= !(zP a[k] b[k]):=by simp[ii,hk,hk2]
   rw[hn]
   unfold zP UA
   obtain⟨d1,q1⟩:∃c,(a[k].key.kind==b[k].key.kind)=c:=⟨_,rfl⟩
   obtain⟨d2,q2⟩:∃c,(a[k].key.n==b[k].key.n)=c:=⟨_,rfl⟩
   obtain⟨d3,q3⟩:∃c,(a[k].key.text==b[k].key.text)=c:=⟨_,rfl⟩
   rw[q1,q2,q3]
   generalize Tj a[k].rcd b[k].rcd=c4 at*
   cases d1<;>cases d2<;>cases d3<;>cases c4<;>simp +contextual (maxSteps:=9999999) [ir,hk,hk2,XItem.e.eq_1 a[k],XItem.e.eq_1 b[k],kJ,Fv,q1,q2,q3,e1,aU ha hk,a8 hk,a8 hk2,hl]
  ·simp(maxSteps:=9999999) [ir,hp]
 ·have hc:((a.length:Int)==(b.length:Int))=false:=by rw[beq_eq_false_iff_ne];omega
  rw[mG hl]
  simp(maxSteps:=9999999) [fP,h1,h2,hc]
end Gi
