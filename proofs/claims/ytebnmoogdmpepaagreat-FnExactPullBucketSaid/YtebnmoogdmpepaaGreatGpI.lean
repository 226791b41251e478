/- Of this proof. -/
import Derived.Test.YtebnmoogdmpepaaGreatGlM
import Derived.Test.YtebnmoogdmpepaaGreatGoB
import Derived.Test.YtebnmoogdmpepaaGreatGky
set_option linter.unusedSimpArgs false
set_option linter.unusedVariables false
namespace Gi
open Go Go.RowKit
set_option maxHeartbeats 8000000
set_option maxRecDepth 4000
attribute [local simp] start oH bJ cI cS ed cR dZ eu ep pz pI pA pJ pB pK pC pL pD pM pE pO pF pP pG pQ pH pR V.cells plain bA fR isInt isStr isBool bin bY gj bZ gl ee un asList L.view aj V.view viewL aW am ce bD bS comp aQ bI cH bP bq bo bp aC aq aY al aB aI au bi bF aE br bt V.flat L.flat db da bB putAt thaw thawL thawT V.ow ej cV cW ca eh cd cU freezeVs freezeLs freezeL V.mut L.mut aH dE fK aZ bC aN dv bR bj bV L.ren aP dg bW dq bU bH wp_seq wp_block bg cZ cf bE cj wp_skip wp_exit wp_ret ct cr cz cu cC cD cB bO aF L.notArr aU aS aT cY bz storeD bc eP bu co ba k8 L.mov L.closed V.closed PV.bare PV.flat
def gv (b:XBucket):Bool:=dB b.site&&(dB b.top&&(FG b.reg&&(b.reg.site==b.site&&(Ns b.caches.caches&&(Nt b.disk.base&&(qR b.replica&&(rg b.lastUsed 0 1000000000000&& !(cT 2500 (MJ b:Nat)))))))))
theorem ot {b:XBucket}(h:b.Ok 1048576):ag Ph aM 387 [b.v]=some (aA (gv b)):=by
 have hm:=XBucket.Ok.mono (B:=maxLen) (by unfold maxLen;omega) h
 have e1:=bX hm.1
 have e2:=bX hm.2.1
 have e3:=t9 hm.2.2.1
 have e5:=xW hm.2.2.2.1
 have e6:=xX (Zm 1048576) h.2.2.2.2.1.1
 have e7:=rX hm.2.2.2.2.2.1
 have e8:=bL b.lastUsed 0 1000000000000
 have e9:=Dr h
 unfold gv
 obtain⟨b4,h4⟩:∃g,(b.reg.site==b.site)=g:=⟨_,rfl⟩
 rw[h4]
 generalize dB b.site=b1 at e1⊢
 generalize dB b.top=b2 at e2⊢
 generalize FG b.reg=b3 at e3⊢
 generalize Ns b.caches.caches=b5 at e5⊢
 generalize Nt b.disk.base=b6 at e6⊢
 generalize qR b.replica=b7 at e7⊢
 generalize rg b.lastUsed 0 1000000000000=b8 at e8⊢
 refine ae (fn:=dS) rfl ?_
 cases b1
 ·simp(maxSteps:=9999999) [dS,e1]
 cases b2
 ·simp(maxSteps:=9999999) [dS,e1,e2]
 cases b3
 ·simp(maxSteps:=9999999) [dS,e1,e2,e3]
 cases b4
 ·simp(maxSteps:=9999999) [dS,e1,e2,e3,h4]
 cases b5
 ·simp(maxSteps:=9999999) [dS,e1,e2,e3,h4,e5]
 cases b6
 ·simp(maxSteps:=9999999) [dS,e1,e2,e3,h4,e5,e6]
 cases b7
 ·simp(maxSteps:=9999999) [dS,e1,e2,e3,h4,e5,e6,e7]
 cases b8
 ·simp(maxSteps:=9999999) [dS,e1,e2,e3,h4,e5,e6,e7,e8]
 simp(maxSteps:=9999999) [dS,e1,e2,e3,h4,e5,e6,e7,e8,e9]
theorem oA {b:XBucket}(h:b.Ok 1048576):ag Ph aM 384 [b.v]=some (aA (gv b)):=by
 have hm:=XBucket.Ok.mono (B:=maxLen) (by unfold maxLen;omega) h
 have e1:=du hm.1
 have e2:=du hm.2.1
 have e3:=um hm.2.2.1
 have e5:=yn hm.2.2.2.1
 have e6:=yp (Zm 1048576) h.2.2.2.2.1.1
 have e7:=sd hm.2.2.2.2.2.1
 have e8:=cq b.lastUsed 0 1000000000000
 have e9:=Dz h
 unfold gv
 obtain⟨b4,h4⟩:∃g,(b.reg.site==b.site)=g:=⟨_,rfl⟩
 rw[h4]
 generalize dB b.site=b1 at e1⊢
 generalize dB b.top=b2 at e2⊢
 generalize FG b.reg=b3 at e3⊢
 generalize Ns b.caches.caches=b5 at e5⊢
 generalize Nt b.disk.base=b6 at e6⊢
 generalize qR b.replica=b7 at e7⊢
 generalize rg b.lastUsed 0 1000000000000=b8 at e8⊢
 refine ae (fn:=dU) rfl ?_
 cases b1
 ·simp(maxSteps:=9999999) [dU,e1]
 cases b2
 ·simp(maxSteps:=9999999) [dU,e1,e2]
 cases b3
 ·simp(maxSteps:=9999999) [dU,e1,e2,e3]
 cases b4
 ·simp(maxSteps:=9999999) [dU,e1,e2,e3,h4]
 cases b5
 ·simp(maxSteps:=9999999) [dU,e1,e2,e3,h4,e5]
 cases b6
 ·simp(maxSteps:=9999999) [dU,e1,e2,e3,h4,e5,e6]
 cases b7
 ·simp(maxSteps:=9999999) [dU,e1,e2,e3,h4,e5,e6,e7]
 cases b8
 ·simp(maxSteps:=9999999) [dU,e1,e2,e3,h4,e5,e6,e7,e8]
 simp(maxSteps:=9999999) [dU,e1,e2,e3,h4,e5,e6,e7,e8,e9]
def IJ (l:List XBucket)(k:Nat):Bool:=match l[k]?,l[k-1]? with
 |some x,some y=> !(gv x)||(cT 0 k&& !(uS y x))
 |_,_=>false
def oK (l:List XBucket):Bool:= !(gD l.length (IJ l))&& !(cT 9 l.length)
theorem zF {l:List XBucket}(hl:l.length≤1048576)(h:∀x∈l,x.Ok 1048576):ag Ph aM 379 [.agg [.pv (.lst (l.map XBucket.e))]]=some (aA (oK l)):=by
 have hm:l.length≤maxLen:=by unfold maxLen;omega
 unfold oK
 refine ae (fn:=nV) rfl ?_
 simp +contextual (maxSteps:=9999999) [nV]
 refine aG bm Cl.fin [.f,.t,.f,.f,.f,.f,.t,.t,.t,.f,.f,.f,.f,.f,.f,.f,.f,.f,.f,.f,.f,.f,.f,.f,.f,.f,.f,.f,.f,.f,.f,.f,.f,.f,.f,.f] (fun k=>[(8,aa .i64 k)]) l.length (IJ l) rfl (by simp) (fun k hk _=> ?_) (fun _ hp=> ?_)
 ·obtain⟨q1,q2⟩:=wQ hm hk
  have e1:=ot (h _ (Zf hk))
  have e2:=vi l[k-1] l[k]
  have hx:=XBucket.e.eq_1 l[k]
  have hy:=XBucket.e.eq_1 l[k-1]
  have hb:IJ l k=(!(gv l[k])||(cT 0 k&& !(uS l[k-1] l[k]))):=by simp[IJ,hk,q2]
  rw[hb]
  generalize gv l[k]=b1 at e1⊢
  generalize uS l[k-1] l[k]=b2 at e2⊢
  cases b1
  ·simp +contextual (maxSteps:=9999999) [fM,hk,hx,e1,aR hm hk,bd hk]
  cases b3:cT 0 k
  ·simp +contextual (maxSteps:=9999999) [fM,hk,hx,e1,b3,aR hm hk,bd hk]
  have q3:=q1 b3
  cases b2<;>simp +contextual (maxSteps:=9999999) [fM,hk,q2,q3,hx,hy,e1,e2,b3,aR hm hk,bd hk]
 ·simp(maxSteps:=9999999) [fM,hp]
theorem nG {l:List XBucket}(hl:l.length≤1048576)(h:∀x∈l,x.Ok 1048576):ag Ph aM 377 [.agg [.pv (.lst (l.map XBucket.e))]]=some (aA (oK l)):=by
 have hm:l.length≤maxLen:=by unfold maxLen;omega
 unfold oK
 refine ae (fn:=og) rfl ?_
 simp +contextual (maxSteps:=9999999) [og]
 refine aG bm Cl.fin [.f,.t,.f,.t,.f,.f,.f,.f,.f,.f,.f,.f,.f,.f,.f,.f,.f,.f,.f,.f,.f,.f,.f,.f,.f,.f,.f,.f,.f,.f,.f,.f,.f,.f,.f,.f,.f,.f,.f,.f,.f,.f,.f,.f,.f,.f,.f,.f] (fun k=>[(3,aa .i64 k)]) l.length (IJ l) rfl (by simp) (fun k hk _=> ?_) (fun _ hp=> ?_)
 ·obtain⟨q1,q2⟩:=wQ hm hk
  have e1:=oA (h _ (Zf hk))
  have e2:=DK l[k-1] l[k]
  have hx:=XBucket.e.eq_1 l[k]
  have hy:=XBucket.e.eq_1 l[k-1]
  have hb:IJ l k=(!(gv l[k])||(cT 0 k&& !(uS l[k-1] l[k]))):=by simp[IJ,hk,q2]
  rw[hb]
  generalize gv l[k]=b1 at e1⊢
  generalize uS l[k-1] l[k]=b2 at e2⊢
  cases b1
  ·simp +contextual (maxSteps:=9999999) [fP,hk,hx,e1,aR hm hk,bd hk]
  cases b3:cT 0 k
  ·simp +contextual (maxSteps:=9999999) [fP,hk,hx,e1,b3,aR hm hk,bd hk]
  have q3:=q1 b3
  cases b2<;>simp +contextual (maxSteps:=9999999) [fP,hk,q2,q3,hx,hy,e1,e2,b3,aR hm hk,bd hk]
 ·simp(maxSteps:=9999999) [fP,hp]
end Gi
namespace Gi
open Go Go.RowKit
set_option maxHeartbeats 8000000
set_option maxRecDepth 4000
attribute [local simp] start ah aJ bf bJ cI Opd.ev put V.cells plain bA fR isInt isStr isBool bin cK qh qg un asList L.view aj V.view viewL aW am cF bS comp aQ bI cH bP bq bo bp aC aq aY al aB aI au bi bF aE br bt V.flat L.flat db da bB putAt thaw thawL thawT freezeVs freezeLs freezeL V.mut L.mut aH aP dg bW dq bU bH wp_seq wp_block qb wp_cond wp_skip wp_exit wp_ret ct cr cz cu cC cD cB bO aF L.notArr aU aS aT eV bz storeD bc eP bu co ba k8 L.mov L.closed V.closed PV.bare PV.flat
theorem Bx {B:Nat}(hB:B≤1048576){x:XDisk}(h:x.Ok B):ag Ph aM 491 [.agg [.pv (.str x.base.name), .pv (.int .i64 x.base.version), .pv (.lst (x.base.stores.map XStore.e)), .pv (.lst (x.base.unique.map XIndexDef.e)), .pv (.lst (ar x.log)), .pv (.int .i64 x.count)]]=some (.agg [.pv (.str x.base.name), .pv (.int .i64 x.base.version),nd 3 (x.base.stores.map XStore.e), .down 2 (x.base.unique.map XIndexDef.e), .down 1 (ar x.log), .pv (.int .i64 x.count)]):=by
 obtain⟨h_base,h_log,h_count⟩:=h
 have c0:=vk hB h_base
 have c1:=ny (R:=ar x.log) ⟨qM _,jM _,by rw[cy];omega⟩
 have N0:=dM 3 (x.base.stores.map XStore.e)
 generalize nd 3 (x.base.stores.map XStore.e)=n0 at N0 c0 c1⊢
 rcases N0 with⟨-,rfl⟩|⟨-,rfl⟩<;>(refine ae (fn:=oY) rfl ?_;simp[oY,c0,c1])
theorem DA {B:Nat}(hB:B≤1048576){x:XDisk}(h:x.Ok B):ag Ph aM 487 [.agg [.pv (.str x.base.name), .pv (.int .i64 x.base.version), .pv (.lst (x.base.stores.map XStore.e)), .pv (.lst (x.base.unique.map XIndexDef.e)), .pv (.lst (ar x.log)), .pv (.int .i64 x.count)]]=some (.agg [.pv (.str x.base.name), .pv (.int .i64 x.base.version),nd 3 (x.base.stores.map XStore.e), .down 2 (x.base.unique.map XIndexDef.e), .down 1 (ar x.log), .pv (.int .i64 x.count)]):=by
 obtain⟨h_base,h_log,h_count⟩:=h
 have c0:=Gf hB h_base
 have F0:Flat 1 (ar x.log):=⟨qM _,jM _,by rw[cy];omega⟩
 have hf0:=F0.flat
 have hw0:=F0.wid
 have m0:=eR (m:=(ar x.log).length) (z:=1) (by have:=F0.len;omega) (by omega)
 rw[Nat.mul_one]at m0
 generalize (ar x.log)=R0 at F0 hf0 hw0 m0⊢
 have N0:=dM 3 (x.base.stores.map XStore.e)
 generalize nd 3 (x.base.stores.map XStore.e)=n0 at N0 c0⊢
 rcases N0 with⟨-,rfl⟩|⟨-,rfl⟩<;>(refine ae (fn:=qx) rfl ?_;simp[qx,c0,hf0,hw0,m0])
def ij (b0 b1:AObj)(ver:Int)(rows:List (List PV)):Nat→List AObj
 |0=>[b0,b1, .box [.pv (.int .i64 ver), .nil]]
 |k+1=>[b0,b1, .box [.pv (.int .i64 ver), .arr 3], .darr 7 (rows.take (k+1))]
theorem BS {B:Nat}(hB:B≤1048576){x:XCache}(h:x.Ok B):ag Ph aM 495 [.agg [.pv (.int .i64 x.version), .pv (.lst (x.entries.map XCached.e))]]=some (.agg [.pv (.int .i64 x.version),nd 7 (x.entries.map XCached.e)]):=by
 obtain⟨h_version,h_entries⟩:=h
 have e1:∀k(hk:k<x.entries.length),_:=fun k hk=>DC hB (h_entries.2 _ (Zf hk)).2.2
 have hl:x.entries.length≤1048576:=Zc h_entries.1 hB
 refine ae (fn:=pm) rfl ?_
 simp[pm]
 refine dD bm Cl.fin x.entries.length [.f,.t,.t,.t,.t,.f,.f,.f,.f,.f,.f,.f,.f,.f,.f,.f,.f,.f,.f,.f,.f,.f,.f,.f,.f,.f,.f,.f,.f,.f,.f,.f,.f,.f,.f,.f] (fun k=>[(4,aa .i64 k)]) (ij (.box [.pv (.int .i64 x.version), .pv (.lst (x.entries.map XCached.e))]) (.box [.pv (.int .i64 0), .nil]) x.version (x.entries.map XCached.e)) rfl ?_ ?_ ?_
 ·exact Kn.q [0,1,2] (by simp[ij,aU,aS,aT,eV,bz,aZ,bC,aN,dv,bR,bj,bV,L.ren,aI])
 ·intro k hk
  have ek:=e1 k hk
  have hx:=XCached.e.eq_1 x.entries[k]
  have ht:=de (e:=XCached.e) hk
  rw[hx]at ht
  cases k with
  |zero=>
   simp only[ij,ht]
   simp[gq,hk,hx,ek,df]
   exact Kn.q [0,1,2,6]
  |succ k=>
   obtain⟨i1,i2,i3,i4,i5,i6⟩:=oJ (n:=x.entries.length) (by unfold maxLen;omega) hk
   have b1:min (k+1) x.entries.length=k+1:=by omega
   have m1:=eR (m:=k+1+1) (z:=88) (by omega) (by omega)
   simp only[ij,ht]
   generalize hT:List.take (k+1) _=T
   have hTl:T.length=k+1:=by rw[←hT];simp;omega
   simp[gq,hk,hx,ek,i1,i2,i3,i4,i5,i6,hTl,m1]
   exact Kn.q [0,1,2,7]
 ·cases hq:x.entries with
  |nil=>simp[gq,ij,nd]
  |cons q qs=>
   have hT:(x.entries.map XCached.e).take (qs.length+1)=x.entries.map XCached.e:=Zs (by rw[hq];simp)
   rw[hq]at hT
   simp only[Zo,ij,hT]
   simp[gq,nd]
def jb (b0 b1:AObj)(rows:List (List PV)):Nat→List AObj
 |0=>[b0,b1, .box [.nil]]
 |k+1=>[b0,b1, .box [.arr 3], .darr 2 (rows.take (k+1))]
theorem DE {B:Nat}(hB:B≤1048576){x:XCacheSet}(h:x.Ok B):ag Ph aM 486 [.agg [.pv (.lst (x.caches.map XCache.e))]]=some (.agg [nd 2 (x.caches.map XCache.e)]):=by
 have h_caches:=h
 have e1:∀k(hk:k<x.caches.length),_:=fun k hk=>BS hB (h_caches.2 _ (Zf hk))
 have hl:x.caches.length≤1048576:=Zc h_caches.1 hB
 refine ae (fn:=qB) rfl ?_
 simp[qB]
 refine dD bm Cl.fin x.caches.length [.f,.t,.t,.t,.t,.f,.f,.f,.f,.f,.f,.f,.f,.f,.f,.f,.f,.f,.f,.f,.f,.f,.f,.f,.f] (fun k=>[(4,aa .i64 k)]) (jb (.box [.pv (.lst (x.caches.map XCache.e))]) (.box [.nil]) (x.caches.map XCache.e)) rfl ?_ ?_ ?_
 ·exact Kn.q [0,1,2] (by simp[jb,aU,aS,aT,eV,bz,aZ,bC,aN,dv,bR,bj,bV,L.ren,aI])
 ·intro k hk
  have ek:=e1 k hk
  have hx:=XCache.e.eq_1 x.caches[k]
  have ht:=de (e:=XCache.e) hk
  rw[hx]at ht
  have N0:=dM 7 (x.caches[k].entries.map XCached.e)
  generalize nd 7 (x.caches[k].entries.map XCached.e)=n0 at N0 ek
  cases k with
  |zero=>
   simp only[jb,ht]
   rcases N0 with⟨q0,rfl⟩|⟨q0,rfl⟩
   ·simp only[q0]at ek
    simp[fe,hk,hx,ek,df,q0]
    exact Kn.q [0,1,2,4]
   ·simp[fe,hk,hx,ek,df]
    exact Kn.q [0,1,2,5]
  |succ k=>
   obtain⟨i1,i2,i3,i4,i5,i6⟩:=oJ (n:=x.caches.length) (by unfold maxLen;omega) hk
   have b1:min (k+1) x.caches.length=k+1:=by omega
   have m1:=eR (m:=k+1+1) (z:=32) (by omega) (by omega)
   simp only[jb,ht]
   generalize hT:List.take (k+1) _=T
   have hTl:T.length=k+1:=by rw[←hT];simp;omega
   rcases N0 with⟨q0,rfl⟩|⟨q0,rfl⟩
   ·simp only[q0]at ek
    simp[fe,hk,hx,ek,i1,i2,i3,i4,i5,i6,hTl,m1,q0]
    exact Kn.q [0,1,2,5]
   ·simp[fe,hk,hx,ek,i1,i2,i3,i4,i5,i6,hTl,m1]
    exact Kn.q [0,1,2,6]
 ·cases hq:x.caches with
  |nil=>simp[fe,jb,nd]
  |cons q qs=>
   have hT:(x.caches.map XCache.e).take (qs.length+1)=x.caches.map XCache.e:=Zs (by rw[hq];simp)
   rw[hq]at hT
   simp only[Zo,jb,hT]
   simp[fe,nd]
def Qm (b0 b1:AObj)(rows:List (List PV)):Nat→List AObj
 |0=>[b0,b1, .box [.nil]]
 |k+1=>[b0,b1, .box [.arr 3], .darr 2 (rows.take (k+1))]
def Dm (p:Nat)(pre:List AObj)(b5:AObj)(ver:Int)(rows:List (List PV)):Nat→List AObj
 |0=>pre++[b5, .box [.pv (.int .i64 ver), .nil]]
 |j+1=>pre++[b5, .box [.pv (.int .i64 ver), .arr (p+2)], .darr 7 (rows.take (j+1))]
theorem vj {B:Nat}(hB:B≤1048576){x:XCacheSet}(h:x.Ok B):ag Ph aM 490 [.agg [.pv (.lst (x.caches.map XCache.e))]]=some (.agg [nd 2 (x.caches.map XCache.e)]):=by
 have hl:x.caches.length≤1048576:=Zc h.1 hB
 refine ae (fn:=lm) rfl ?_
 simp[lm]
 refine dD bm Cl.fin x.caches.length [.f,.f,.t,.t,.f,.f,.f,.f,.f,.f,.f,.t,.t,.t,.f,.f,.f,.f,.f,.f,.f,.f,.f,.f,.f,.f,.f,.f,.f,.f,.f,.f,.f,.f,.f,.f,.f,.f,.f,.f,.f,.f,.f,.f,.f,.f] (fun k=>[(13,aa .i64 k)]) (Qm (.box [.pv (.lst (x.caches.map XCache.e))]) (.box [.nil]) (x.caches.map XCache.e)) rfl ?_ ?_ ?_
 ·exact Kn.q [0,1,2] (by simp[Qm,aU,aS,aT,eV,bz,aZ,bC,aN,dv,bR,bj,bV,L.ren,aI])
 ·intro k hk
  have hcx:=h.2 _ (Zf hk)
  have hx:=XCache.e.eq_1 x.caches[k]
  have ht:=de (e:=XCache.e) hk
  rw[hx]at ht
  have hel:x.caches[k].entries.length≤1048576:=Zc hcx.2.1 hB
  have e1:∀j(hj:j<x.caches[k].entries.length),_:=fun j hj=>vl hB (hcx.2.2 _ (Zf hj)).2.2
  cases k with
  |zero=>
   simp only[Qm,ht]
   generalize hE:x.caches[0].entries=E at hx e1 hel⊢
   generalize hv:x.caches[0].version=ver at hx⊢
   simp[eS,hk,hx,df]
   refine dD bm Cl.kn E.length [.f,.f,.t,.t,.f,.f,.t,.f,.f,.f,.f,.t,.t,.t,.f,.f,.f,.f,.f,.f,.f,.t,.t,.t,.f,.f,.f,.f,.f,.f,.f,.f,.f,.f,.f,.f,.f,.f,.f,.f,.f,.f,.f,.f,.f,.f] (fun j=>[(23,aa .i64 j)]) (Dm 3 [.box [.pv (.lst (x.caches.map XCache.e))], .box [.nil], .box [.nil]] (.box [.pv (.int .i64 ver), .pv (.lst (E.map XCached.e))]) ver (E.map XCached.e)) rfl ?_ ?_ ?_
   ·exact Kn.q [0,1,2,3,4] (by simp[Dm,aU,aS,aT,eV,bz,aZ,bC,aN,dv,bR,bj,bV,L.ren,aI])
   ·intro j hj
    have ek:=e1 j hj
    have hy:=XCached.e.eq_1 E[j]
    have hu:=de (e:=XCached.e) hj
    rw[hy]at hu
    cases j with
    |zero=>
     simp only[Dm,hu]
     simp[cE,hj,hy,ek,df]
     exact Kn.q [0,1,2,3,4,8]
    |succ j=>
     obtain⟨i1,i2,i3,i4,i5,i6⟩:=oJ (n:=E.length) (by unfold maxLen;omega) hj
     have m1:=eR (m:=j+1+1) (z:=88) (by omega) (by omega)
     simp only[Dm,hu]
     generalize hU:List.take (j+1) _=U
     have hUl:U.length=j+1:=by rw[←hU];simp;omega
     simp[cE,hj,hy,ek,i1,i2,i3,i4,i5,i6,hUl,m1]
     exact Kn.q [0,1,2,3,4,9]
   ·cases hq:E with
    |nil=>
     simp[cE,Dm,hk,hx,df]
     exact Kn.q [0,1,2,6]
    |cons q qs=>
     have hT2:(E.map XCached.e).take (qs.length+1)=E.map XCached.e:=Zs (by rw[hq];simp)
     rw[hq]at hT2
     simp only[Zo,Dm,hT2]
     simp[cE,hk,hx,df]
     exact Kn.q [0,1,2,7]
  |succ k=>
   obtain⟨i1,i2,i3,i4,i5,i6⟩:=oJ (n:=x.caches.length) (by unfold maxLen;omega) hk
   have m1:=eR (m:=k+1+1) (z:=32) (by omega) (by omega)
   simp only[Qm,ht]
   generalize hT:List.take (k+1) _=T
   have hTl:T.length=k+1:=by rw[←hT];simp;omega
   generalize hE:x.caches[k+1].entries=E at hx e1 hel⊢
   generalize hv:x.caches[k+1].version=ver at hx⊢
   simp[eS,hk,hx,i1,i2,i3,i4,i5,i6,hTl,m1]
   refine dD bm Cl.kn E.length [.f,.f,.t,.t,.f,.f,.t,.f,.f,.f,.f,.t,.t,.t,.f,.f,.f,.f,.f,.f,.f,.t,.t,.t,.f,.f,.f,.f,.f,.f,.f,.f,.f,.f,.f,.f,.f,.f,.f,.f,.f,.f,.f,.f,.f,.f] (fun j=>[(23,aa .i64 j)]) (Dm 4 [.box [.pv (.lst (x.caches.map XCache.e))], .box [.nil], .box [.arr 3], .darr 2 T] (.box [.pv (.int .i64 ver), .pv (.lst (E.map XCached.e))]) ver (E.map XCached.e)) rfl ?_ ?_ ?_
   ·exact Kn.q [0,1,2,3,4,5] (by simp[Dm,aU,aS,aT,eV,bz,aZ,bC,aN,dv,bR,bj,bV,L.ren,aI])
   ·intro j hj
    have ek:=e1 j hj
    have hy:=XCached.e.eq_1 E[j]
    have hu:=de (e:=XCached.e) hj
    rw[hy]at hu
    cases j with
    |zero=>
     simp only[Dm,hu]
     simp[cE,hj,hy,ek,df]
     exact Kn.q [0,1,2,3,4,5,9]
    |succ j=>
     obtain⟨i1,i2,i3,i4,i5,i6⟩:=oJ (n:=E.length) (by unfold maxLen;omega) hj
     have m1:=eR (m:=j+1+1) (z:=88) (by omega) (by omega)
     simp only[Dm,hu]
     generalize hU:List.take (j+1) _=U
     have hUl:U.length=j+1:=by rw[←hU];simp;omega
     simp[cE,hj,hy,ek,i1,i2,i3,i4,i5,i6,hUl,m1]
     exact Kn.q [0,1,2,3,4,5,10]
   ·cases hq:E with
    |nil=>
     simp[cE,Dm,hk,hx,i1,i2,i3,i4,i5,i6,hTl,m1]
     exact Kn.q [0,1,2,7]
    |cons q qs=>
     have hT2:(E.map XCached.e).take (qs.length+1)=E.map XCached.e:=Zs (by rw[hq];simp)
     rw[hq]at hT2
     simp only[Zo,Dm,hT2]
     simp[cE,hk,hx,i1,i2,i3,i4,i5,i6,hTl,m1]
     exact Kn.q [0,1,2,8]
 ·cases hq:x.caches with
  |nil=>simp[eS,Qm,nd]
  |cons q qs=>
   have hT:(x.caches.map XCache.e).take (qs.length+1)=x.caches.map XCache.e:=Zs (by rw[hq];simp)
   rw[hq]at hT
   simp only[Zo,Qm,hT]
   simp[eS,nd]
theorem mE {B:Nat}(hB:B≤1048576){x:XBucket}(h:x.Ok B):ag Ph aM 478 [.agg [.pv (.str x.site), .pv (.str x.top), .pv (.str x.reg.site), .pv (.int .i64 x.reg.installing), .pv (.int .i64 x.reg.waiting), .pv (.int .i64 x.reg.active), .pv (.lst (x.caches.caches.map XCache.e)), .pv (.str x.disk.base.name), .pv (.int .i64 x.disk.base.version), .pv (.lst (x.disk.base.stores.map XStore.e)), .pv (.lst (x.disk.base.unique.map XIndexDef.e)), .pv (.lst (ar x.disk.log)), .pv (.int .i64 x.disk.count), .pv (.str x.replica.base.name), .pv (.lst (x.replica.base.items.map XItem.e)), .pv (.int .i64 x.replica.base.auto), .pv (.int .i64 x.replica.seen), .pv (.int .i64 x.replica.sync.outbox.dev), .pv (.int .i64 x.replica.sync.outbox.next), .pv (.lst (x.replica.sync.outbox.writes.map XWrite.e)), .pv (.int .i64 x.replica.sync.tries), .pv (.int .i64 x.replica.sync.wait), .pv (.int .i64 x.lastUsed), .pv (.bool x.persistent)]]=some (.agg [.pv (.str x.site), .pv (.str x.top), .pv (.str x.reg.site), .pv (.int .i64 x.reg.installing), .pv (.int .i64 x.reg.waiting), .pv (.int .i64 x.reg.active),nd 2 (x.caches.caches.map XCache.e), .pv (.str x.disk.base.name), .pv (.int .i64 x.disk.base.version),nd 3 (x.disk.base.stores.map XStore.e), .down 2 (x.disk.base.unique.map XIndexDef.e), .down 1 (ar x.disk.log), .pv (.int .i64 x.disk.count), .pv (.str x.replica.base.name),nd 4 (x.replica.base.items.map XItem.e), .pv (.int .i64 x.replica.base.auto), .pv (.int .i64 x.replica.seen), .pv (.int .i64 x.replica.sync.outbox.dev), .pv (.int .i64 x.replica.sync.outbox.next), .down 7 (x.replica.sync.outbox.writes.map XWrite.e), .pv (.int .i64 x.replica.sync.tries), .pv (.int .i64 x.replica.sync.wait), .pv (.int .i64 x.lastUsed), .pv (.bool x.persistent)]):=by
 obtain⟨h_site,h_top,h_reg,h_caches,h_disk,h_replica,h_lastUsed⟩:=h
 have c0:=vj hB h_caches
 have c1:=Bx hB h_disk
 have c2:=py hB h_replica
 have N0:=dM 2 (x.caches.caches.map XCache.e)
 generalize nd 2 (x.caches.caches.map XCache.e)=n0 at N0 c0 c1 c2⊢
 have N1:=dM 3 (x.disk.base.stores.map XStore.e)
 generalize nd 3 (x.disk.base.stores.map XStore.e)=n1 at N1 c0 c1 c2⊢
 have N2:=dM 4 (x.replica.base.items.map XItem.e)
 generalize nd 4 (x.replica.base.items.map XItem.e)=n2 at N2 c0 c1 c2⊢
 rcases N0 with⟨-,rfl⟩|⟨-,rfl⟩<;>rcases N1 with⟨-,rfl⟩|⟨-,rfl⟩<;>rcases N2 with⟨-,rfl⟩|⟨-,rfl⟩<;>(refine ae (fn:=m8) rfl ?_;simp[m8,c0,c1,c2])
theorem pw {B:Nat}(hB:B≤1048576){x:XBucket}(h:x.Ok B):ag Ph aM 476 [.agg [.pv (.str x.site), .pv (.str x.top), .pv (.str x.reg.site), .pv (.int .i64 x.reg.installing), .pv (.int .i64 x.reg.waiting), .pv (.int .i64 x.reg.active), .pv (.lst (x.caches.caches.map XCache.e)), .pv (.str x.disk.base.name), .pv (.int .i64 x.disk.base.version), .pv (.lst (x.disk.base.stores.map XStore.e)), .pv (.lst (x.disk.base.unique.map XIndexDef.e)), .pv (.lst (ar x.disk.log)), .pv (.int .i64 x.disk.count), .pv (.str x.replica.base.name), .pv (.lst (x.replica.base.items.map XItem.e)), .pv (.int .i64 x.replica.base.auto), .pv (.int .i64 x.replica.seen), .pv (.int .i64 x.replica.sync.outbox.dev), .pv (.int .i64 x.replica.sync.outbox.next), .pv (.lst (x.replica.sync.outbox.writes.map XWrite.e)), .pv (.int .i64 x.replica.sync.tries), .pv (.int .i64 x.replica.sync.wait), .pv (.int .i64 x.lastUsed), .pv (.bool x.persistent)]]=some (.agg [.pv (.str x.site), .pv (.str x.top), .pv (.str x.reg.site), .pv (.int .i64 x.reg.installing), .pv (.int .i64 x.reg.waiting), .pv (.int .i64 x.reg.active),nd 2 (x.caches.caches.map XCache.e), .pv (.str x.disk.base.name), .pv (.int .i64 x.disk.base.version),nd 3 (x.disk.base.stores.map XStore.e), .down 2 (x.disk.base.unique.map XIndexDef.e), .down 1 (ar x.disk.log), .pv (.int .i64 x.disk.count), .pv (.str x.replica.base.name),nd 4 (x.replica.base.items.map XItem.e), .pv (.int .i64 x.replica.base.auto), .pv (.int .i64 x.replica.seen), .pv (.int .i64 x.replica.sync.outbox.dev), .pv (.int .i64 x.replica.sync.outbox.next), .down 7 (x.replica.sync.outbox.writes.map XWrite.e), .pv (.int .i64 x.replica.sync.tries), .pv (.int .i64 x.replica.sync.wait), .pv (.int .i64 x.lastUsed), .pv (.bool x.persistent)]):=by
 obtain⟨h_site,h_top,h_reg,h_caches,h_disk,h_replica,h_lastUsed⟩:=h
 have c0:=DE hB h_caches
 have c1:=DA hB h_disk
 have c2:=pt hB h_replica
 have N0:=dM 2 (x.caches.caches.map XCache.e)
 generalize nd 2 (x.caches.caches.map XCache.e)=n0 at N0 c0 c1 c2⊢
 have N1:=dM 3 (x.disk.base.stores.map XStore.e)
 generalize nd 3 (x.disk.base.stores.map XStore.e)=n1 at N1 c0 c1 c2⊢
 have N2:=dM 4 (x.replica.base.items.map XItem.e)
 generalize nd 4 (x.replica.base.items.map XItem.e)=n2 at N2 c0 c1 c2⊢
 rcases N0 with⟨-,rfl⟩|⟨-,rfl⟩<;>rcases N1 with⟨-,rfl⟩|⟨-,rfl⟩<;>rcases N2 with⟨-,rfl⟩|⟨-,rfl⟩<;>(refine ae (fn:=qJ) rfl ?_;simp[qJ,c0,c1,c2])
end Gi
namespace Gi
open Go Go.RowKit
set_option maxHeartbeats 8000000
set_option maxRecDepth 4000
attribute [local simp] start oH bJ cI cS ed cR dZ eu ep pz pI pA pJ pB pK pC pL pD pM pE pO pF pP pG pQ pH pR V.cells plain bA fR isInt isStr isBool bin bY gj bZ gl ee un asList L.view aj V.view viewL aW am ce bD bS comp aQ bI cH bP bq bo bp aC aq aY al aB aI au bi bF aE br bt V.flat L.flat db da bB putAt thaw thawL thawT V.ow ej cV cW ca eh cd cU freezeVs freezeLs freezeL V.mut L.mut aH dE fK aZ bC aN dv bR bj bV L.ren aP dg bW dq bU bH wp_seq wp_block bg cZ cf bE cj wp_skip wp_exit wp_ret ct cr cz cu cC cD cB bO aF L.notArr aU aS aT cY bz storeD bc eP bu co ba k8 L.mov L.closed V.closed PV.bare PV.flat
abbrev S8 (x:XBucket):List L:=[.pv (.str x.site), .pv (.str x.top), .pv (.str x.reg.site), .pv (.int .i64 x.reg.installing), .pv (.int .i64 x.reg.waiting), .pv (.int .i64 x.reg.active),nd 2 (x.caches.caches.map XCache.e), .pv (.str x.disk.base.name), .pv (.int .i64 x.disk.base.version),nd 3 (x.disk.base.stores.map XStore.e), .down 2 (x.disk.base.unique.map XIndexDef.e), .down 1 (ar x.disk.log), .pv (.int .i64 x.disk.count), .pv (.str x.replica.base.name),nd 4 (x.replica.base.items.map XItem.e), .pv (.int .i64 x.replica.base.auto), .pv (.int .i64 x.replica.seen), .pv (.int .i64 x.replica.sync.outbox.dev), .pv (.int .i64 x.replica.sync.outbox.next), .down 7 (x.replica.sync.outbox.writes.map XWrite.e), .pv (.int .i64 x.replica.sync.tries), .pv (.int .i64 x.replica.sync.wait), .pv (.int .i64 x.lastUsed), .pv (.bool x.persistent)]
def fX (b:XBucket)(r:XReplica):XBucket:=⟨b.site,b.top,b.reg,b.caches,b.disk,r,b.lastUsed,b.persistent⟩
def T8 (b o:XBucket):XBucket×Bool:=bif gv b&&gv o then(o,true)else(b,false)
theorem GH {B:Nat}{b:XBucket}(h:b.Ok B){r:XReplica}(hr:r.Ok B):(fX b r).Ok B:=⟨h.1,h.2.1,h.2.2.1,h.2.2.2.1,h.2.2.2.2.1,hr,h.2.2.2.2.2.2⟩
theorem uM {b o:XBucket}(hb:b.Ok 1048576)(ho:o.Ok 1048576):ag Ph aM 674 [b.v,o.v]=some (.tup [(true,S8 (T8 b o).1),(false,[.pv (.bool (T8 b o).2)])]):=by
 have e1:=ot hb
 have e2:=ot ho
 have e3:=mE (Zm 1048576) hb
 have e4:=mE (Zm 1048576) ho
 unfold T8
 cases c1:gv b<;>rw[c1]at e1
 ·simp only[Xr,cond_false]
  clear e4
  have N0:=dM 2 (b.caches.caches.map XCache.e)
  have N1:=dM 3 (b.disk.base.stores.map XStore.e)
  have N2:=dM 4 (b.replica.base.items.map XItem.e)
  simp only[S8]
  generalize nd 2 (b.caches.caches.map XCache.e)=n0 at*
  generalize nd 3 (b.disk.base.stores.map XStore.e)=n1 at*
  generalize nd 4 (b.replica.base.items.map XItem.e)=n2 at*
  rcases N0 with⟨-,rfl⟩|⟨-,rfl⟩<;>rcases N1 with⟨-,rfl⟩|⟨-,rfl⟩<;>rcases N2 with⟨-,rfl⟩|⟨-,rfl⟩<;>(refine ae (fn:=eK) rfl ?_;simp(maxSteps:=9999999) [eK,e1,e3])
 cases c2:gv o<;>rw[c2]at e2
 ·simp only[Xk,cond_false]
  clear e4
  have N0:=dM 2 (b.caches.caches.map XCache.e)
  have N1:=dM 3 (b.disk.base.stores.map XStore.e)
  have N2:=dM 4 (b.replica.base.items.map XItem.e)
  simp only[S8]
  generalize nd 2 (b.caches.caches.map XCache.e)=n0 at*
  generalize nd 3 (b.disk.base.stores.map XStore.e)=n1 at*
  generalize nd 4 (b.replica.base.items.map XItem.e)=n2 at*
  rcases N0 with⟨-,rfl⟩|⟨-,rfl⟩<;>rcases N1 with⟨-,rfl⟩|⟨-,rfl⟩<;>rcases N2 with⟨-,rfl⟩|⟨-,rfl⟩<;>(refine ae (fn:=eK) rfl ?_;simp(maxSteps:=9999999) [eK,e1,e2,e3])
 ·simp only[Yk,cond_true]
  clear e3
  have N0:=dM 2 (o.caches.caches.map XCache.e)
  have N1:=dM 3 (o.disk.base.stores.map XStore.e)
  have N2:=dM 4 (o.replica.base.items.map XItem.e)
  simp only[S8]
  generalize nd 2 (o.caches.caches.map XCache.e)=n0 at*
  generalize nd 3 (o.disk.base.stores.map XStore.e)=n1 at*
  generalize nd 4 (o.replica.base.items.map XItem.e)=n2 at*
  rcases N0 with⟨-,rfl⟩|⟨-,rfl⟩<;>rcases N1 with⟨-,rfl⟩|⟨-,rfl⟩<;>rcases N2 with⟨-,rfl⟩|⟨-,rfl⟩<;>(refine ae (fn:=eK) rfl ?_;simp(maxSteps:=9999999) [eK,e1,e2,e4])
def vz (b:XBucket)(r:XReplica):XBucket×Bool:=T8 b (fX b r)
theorem ua {b:XBucket}(hb:b.Ok 1048576){r:XReplica}(hr:r.Ok 1048576):ag Ph aM 650 [b.v,r.v]=some (.tup [(true,S8 (vz b r).1),(false,[.pv (.bool (vz b r).2)])]):=by
 have e1:=uM hb (GH hb hr)
 unfold vz
 generalize T8 b (fX b r)=x at*
 simp only[fX]at e1
 have N0:=dM 2 (x.1.caches.caches.map XCache.e)
 have N1:=dM 3 (x.1.disk.base.stores.map XStore.e)
 have N2:=dM 4 (x.1.replica.base.items.map XItem.e)
 simp only[S8]at e1⊢
 generalize nd 2 (x.1.caches.caches.map XCache.e)=n0 at*
 generalize nd 3 (x.1.disk.base.stores.map XStore.e)=n1 at*
 generalize nd 4 (x.1.replica.base.items.map XItem.e)=n2 at*
 rcases N0 with⟨-,rfl⟩|⟨-,rfl⟩<;>rcases N1 with⟨-,rfl⟩|⟨-,rfl⟩<;>rcases N2 with⟨-,rfl⟩|⟨-,rfl⟩<;>(refine ae (fn:=jP) rfl ?_;simp(maxSteps:=9999999) [jP,e1])
abbrev UT (x:XBucket):List L:=[.pv (.str x.site), .pv (.str x.top), .pv (.str x.reg.site), .pv (.int .i64 x.reg.installing), .pv (.int .i64 x.reg.waiting), .pv (.int .i64 x.reg.active),nK 2 (x.caches.caches.map XCache.e), .pv (.str x.disk.base.name), .pv (.int .i64 x.disk.base.version),nK 3 (x.disk.base.stores.map XStore.e), .own 2 (x.disk.base.unique.map XIndexDef.e), .own 1 (ar x.disk.log), .pv (.int .i64 x.disk.count), .pv (.str x.replica.base.name),nK 4 (x.replica.base.items.map XItem.e), .pv (.int .i64 x.replica.base.auto), .pv (.int .i64 x.replica.seen), .pv (.int .i64 x.replica.sync.outbox.dev), .pv (.int .i64 x.replica.sync.outbox.next), .own 7 (x.replica.sync.outbox.writes.map XWrite.e), .pv (.int .i64 x.replica.sync.tries), .pv (.int .i64 x.replica.sync.wait), .pv (.int .i64 x.lastUsed), .pv (.bool x.persistent)]
theorem uo {b:XBucket}(hb:b.Ok 1048576){r:XReplica}(hr:r.Ok 1048576):ag Ph aM 647 [b.v,r.v]=some (bif (vz b r).2 then .tup [(true,(fX b r).e.map .pv),(false,[.pv (.bool true)])]else .tup [(true,UT b),(false,[.pv (.bool false)])]):=by
 have e1:=oA hb
 have e2:=oA (GH hb hr)
 have e3:=pw (Zm 1048576) hb
 have e4:=pt (Zm 1048576) hr
 have hx:=XBucket.e.eq_1 (fX b r)
 have O0:=nD 2 (b.caches.caches.map XCache.e)
 have O1:=nD 3 (b.disk.base.stores.map XStore.e)
 have O2:=nD 4 (b.replica.base.items.map XItem.e)
 have O3:=nD 4 (r.base.items.map XItem.e)
 have e5:ag Ph aM 671 [b.v,(fX b r).v]=some (bif gv b&&gv (fX b r)then .tup [(true,(fX b r).e.map .pv),(false,[.pv (.bool true)])]else .tup [(true,UT b),(false,[.pv (.bool false)])]):=by
  clear e4 O3
  generalize hq:(gv b&&gv (fX b r))=q
  simp only[hx,Zv,Z5,UT]
  simp only[fX]at hq e2⊢
  cases c1:gv b<;>rw[c1]at e1 hq
  ·simp only[Xr]at hq
   subst hq
   generalize nd 2 (b.caches.caches.map XCache.e)=n0 at*
   generalize nd 3 (b.disk.base.stores.map XStore.e)=n1 at*
   generalize nd 4 (b.replica.base.items.map XItem.e)=n2 at*
   generalize nK 2 (b.caches.caches.map XCache.e)=o0 at*
   generalize nK 3 (b.disk.base.stores.map XStore.e)=o1 at*
   generalize nK 4 (b.replica.base.items.map XItem.e)=o2 at*
   rcases O0 with⟨-,rfl,rfl⟩|⟨-,rfl,rfl⟩<;>rcases O1 with⟨-,rfl,rfl⟩|⟨-,rfl,rfl⟩<;>rcases O2 with⟨-,rfl,rfl⟩|⟨-,rfl,rfl⟩<;>(refine ae (fn:=fT) rfl ?_;simp(maxSteps:=9999999) [fT,e1,e3])
  ·simp only[Y0]at hq
   rw[hq]at e2
   cases q
   ·generalize nd 2 (b.caches.caches.map XCache.e)=n0 at*
    generalize nd 3 (b.disk.base.stores.map XStore.e)=n1 at*
    generalize nd 4 (b.replica.base.items.map XItem.e)=n2 at*
    generalize nK 2 (b.caches.caches.map XCache.e)=o0 at*
    generalize nK 3 (b.disk.base.stores.map XStore.e)=o1 at*
    generalize nK 4 (b.replica.base.items.map XItem.e)=o2 at*
    rcases O0 with⟨-,rfl,rfl⟩|⟨-,rfl,rfl⟩<;>rcases O1 with⟨-,rfl,rfl⟩|⟨-,rfl,rfl⟩<;>rcases O2 with⟨-,rfl,rfl⟩|⟨-,rfl,rfl⟩<;>(refine ae (fn:=fT) rfl ?_;simp(maxSteps:=9999999) [fT,e1,e2,e3])
   ·refine ae (fn:=fT) rfl ?_
    simp(maxSteps:=9999999) [fT,e1,e2]
 have hq2:(vz b r).2=(gv b&&gv (fX b r)):=by unfold vz T8;cases gv b&&gv (fX b r)<;>rfl
 rw[hq2]
 clear e1 e2 hq2
 generalize (gv b&&gv (fX b r))=q at*
 simp only[hx,Zv,Z5,UT]at e5⊢
 simp only[fX,XBucket.v]at e5⊢
 generalize nd 2 (b.caches.caches.map XCache.e)=n0 at*
 generalize nd 3 (b.disk.base.stores.map XStore.e)=n1 at*
 generalize nd 4 (b.replica.base.items.map XItem.e)=n2 at*
 generalize nd 4 (r.base.items.map XItem.e)=n3 at*
 generalize nK 2 (b.caches.caches.map XCache.e)=o0 at*
 generalize nK 3 (b.disk.base.stores.map XStore.e)=o1 at*
 generalize nK 4 (b.replica.base.items.map XItem.e)=o2 at*
 generalize nK 4 (r.base.items.map XItem.e)=o3 at*
 cases q<;>rcases O0 with⟨z0,rfl,rfl⟩|⟨z0,rfl,rfl⟩<;>rcases O1 with⟨z1,rfl,rfl⟩|⟨z1,rfl,rfl⟩<;>rcases O2 with⟨z2,rfl,rfl⟩|⟨z2,rfl,rfl⟩<;>rcases O3 with⟨z3,rfl,rfl⟩|⟨z3,rfl,rfl⟩<;>((try simp only[z0,z1,z2,z3]at e3 e4 e5);refine ae (fn:=jT) rfl ?_;simp(maxSteps:=9999999) [jT,e3,e4,e5,z0,z1,z2,z3])
end Gi
