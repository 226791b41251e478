/- Of this proof. -/
import Derived.Test.YtebnmoogdmpepaaGreatGtb
set_option linter.unusedSimpArgs false
set_option linter.unusedVariables false
namespace Gi
open Go Go.RowKit
def pb (n:Int):Prop:= -9223372036854775808≤n∧n≤9223372036854775807
theorem bn {n:Int}(h:nQ (.int .i64) (.int .i64 n)):pb n:=by
 simp only[nQ,Lit.wf,IntKind.min,IntKind.max,IntKind.signed,IntKind.bits]at h
 simp at h
 unfold pb
 omega
def oV (n:Int):List PV:=[.int .i64 n]
def xA (s:List UInt8):List PV:=[.str s]
theorem ud {α:Type}{e:α→List PV}{ok:α→Prop}{ts:List PTy}{B:Nat}(f:∀r,bi ts r→fA r≤B→∃x,r=e x∧ok x):∀{rows:List (List PV)},(∀r∈rows,bi ts r)→sz (.lst rows)≤B→∃xs:List α,rows=xs.map e∧(xs.length≤B∧∀x∈xs,ok x)
 |[],_,_=>⟨[],rfl,by simp,by simp⟩
 |r::rows,h,hz=>by
  rw[ik]at hz
  simp only[bI,Zn]at hz
  obtain⟨x,rfl,hx⟩:=f r (h r (by simp)) (by omega)
  obtain⟨xs,rfl,hl,ha⟩:=ud f (rows:=rows) (fun r m=>h r (by simp[m])) (by rw[ik];omega)
  refine⟨x::xs,rfl,by simp at hz⊢;omega,fun y hy=> ?_⟩
  rcases Yh.1 hy with rfl|hy
  ·exact hx
  ·exact ha y hy
theorem Rt {B:Nat}:∀r,bi qn r→fA r≤B→∃x,r=oV x∧pb x:=fun r h _=>by
 obtain⟨⟨c0,_⟩,e,g0,_⟩:=bW h
 obtain rfl:r=[.int _ c0]:=e
 exact⟨c0,rfl,bn g0⟩
theorem Uf {B:Nat}:∀r,bi iR r→fA r≤B→∃x,r=xA x∧x.length≤B:=fun r h hz=>by
 obtain⟨⟨c0,_⟩,e,g0,_⟩:=bW h
 obtain rfl:r=[.str c0]:=e
 refine⟨c0,rfl,?_⟩
 simp only[fA,sz]at hz
 omega
theorem DO {rows:List (List PV)}(h:∀r∈rows,bi dg r):∃s:List UInt8,rows=ag s:=by
 induction rows with
 |nil=>exact⟨[],rfl⟩
 |cons r rows ih=>
  obtain⟨s,rfl⟩:=ih fun r m=>h r (by simp[m])
  obtain⟨⟨c0,_⟩,e,g0,_⟩:=bW (h r (by simp))
  obtain rfl:r=[.int _ c0]:=e
  refine⟨UInt8.ofNat c0.toNat::s,?_⟩
  simp only[nQ,Lit.wf,IntKind.min,IntKind.max,IntKind.signed,IntKind.bits]at g0
  simp at g0
  simp only[ag,Zv,List.cons.injEq,and_true,PV.int.injEq,true_and]
  simp
  omega
theorem Dt (s:List UInt8):(ag s).length=s.length:=by simp[ag]
structure XKey where
 kind:Int
 n:Int
 text:List UInt8
def XKey.e (x:XKey):List PV:=[.int .i64 x.kind, .int .i64 x.n, .str x.text]
def XKey.Ok (B:Nat)(x:XKey):Prop:=pb x.kind∧pb x.n∧x.text.length≤B
theorem XKey.of {B:Nat}:∀r:List PV,bi H7 r→fA r≤B→∃x:XKey,r=x.e∧x.Ok B:=fun r h hz=>by
 obtain⟨⟨c0,c1,c2,_⟩,e,g0,g1,g2,_⟩:=bW h
 obtain rfl:r=[.int _ c0, .int _ c1, .str c2]:=e
 have z2:=Zc (bu (i:=2) rfl) hz
 rw[eF]at z2
 exact⟨⟨c0,c1,c2⟩,rfl,⟨bn g0,bn g1,z2⟩⟩
structure XField where
 name:List UInt8
 n:Int
def XField.e (x:XField):List PV:=[.str x.name, .int .i64 x.n]
def XField.Ok (B:Nat)(x:XField):Prop:=x.name.length≤B∧pb x.n
theorem XField.of {B:Nat}:∀r:List PV,bi zH r→fA r≤B→∃x:XField,r=x.e∧x.Ok B:=fun r h hz=>by
 obtain⟨⟨c0,c1,_⟩,e,g0,g1,_⟩:=bW h
 obtain rfl:r=[.str c0, .int _ c1]:=e
 have z0:=Zc (bu (i:=0) rfl) hz
 rw[eF]at z0
 exact⟨⟨c0,c1⟩,rfl,⟨z0,bn g1⟩⟩
structure XRecord where
 fs:List XField
def XRecord.e (x:XRecord):List PV:=[.lst (x.fs.map XField.e)]
def XRecord.Ok (B:Nat)(x:XRecord):Prop:=(x.fs.length≤B∧∀y∈x.fs,y.Ok B)
theorem XRecord.of {B:Nat}:∀r:List PV,bi uZ r→fA r≤B→∃x:XRecord,r=x.e∧x.Ok B:=fun r h hz=>by
 obtain⟨⟨c0,_⟩,e,g0,_⟩:=bW h
 obtain rfl:r=[.lst c0]:=e
 have z0:=Zc (bu (i:=0) rfl) hz
 obtain⟨l0,rfl,y0⟩:=ud XField.of (aL g0).2 z0
 exact⟨⟨l0⟩,rfl,y0⟩
structure XItem where
 key:XKey
 rcd:XRecord
def XItem.e (x:XItem):List PV:=[.int .i64 x.key.kind, .int .i64 x.key.n, .str x.key.text, .lst (x.rcd.fs.map XField.e)]
def XItem.Ok (B:Nat)(x:XItem):Prop:=x.key.Ok B∧x.rcd.Ok B
theorem XItem.of {B:Nat}:∀r:List PV,bi F6 r→fA r≤B→∃x:XItem,r=x.e∧x.Ok B:=fun r h hz=>by
 obtain⟨⟨c0,c1,c2,c3,_⟩,e,g0,g1,g2,g3,_⟩:=bW h
 obtain rfl:r=[.int _ c0, .int _ c1, .str c2, .lst c3]:=e
 have z2:=Zc (bu (i:=2) rfl) hz
 rw[eF]at z2
 have z3:=Zc (bu (i:=3) rfl) hz
 obtain⟨l3,rfl,y3⟩:=ud XField.of (aL g3).2 z3
 exact⟨⟨⟨c0,c1,c2⟩,⟨l3⟩⟩,rfl,⟨⟨bn g0,bn g1,z2⟩,y3⟩⟩
structure XStore where
 name:List UInt8
 items:List XItem
 auto:Int
def XStore.e (x:XStore):List PV:=[.str x.name, .lst (x.items.map XItem.e), .int .i64 x.auto]
def XStore.Ok (B:Nat)(x:XStore):Prop:=x.name.length≤B∧(x.items.length≤B∧∀y∈x.items,y.Ok B)∧pb x.auto
theorem XStore.of {B:Nat}:∀r:List PV,bi tj r→fA r≤B→∃x:XStore,r=x.e∧x.Ok B:=fun r h hz=>by
 obtain⟨⟨c0,c1,c2,_⟩,e,g0,g1,g2,_⟩:=bW h
 obtain rfl:r=[.str c0, .lst c1, .int _ c2]:=e
 have z0:=Zc (bu (i:=0) rfl) hz
 rw[eF]at z0
 have z1:=Zc (bu (i:=1) rfl) hz
 obtain⟨l1,rfl,y1⟩:=ud XItem.of (aL g1).2 z1
 exact⟨⟨c0,l1,c2⟩,rfl,⟨z0,y1,bn g2⟩⟩
structure XWrite where
 dev:Int
 seq:Int
 key:XKey
 field:List UInt8
 n:Int
def XWrite.e (x:XWrite):List PV:=[.int .i64 x.dev, .int .i64 x.seq, .int .i64 x.key.kind, .int .i64 x.key.n, .str x.key.text, .str x.field, .int .i64 x.n]
def XWrite.Ok (B:Nat)(x:XWrite):Prop:=pb x.dev∧pb x.seq∧x.key.Ok B∧x.field.length≤B∧pb x.n
theorem XWrite.of {B:Nat}:∀r:List PV,bi zJ r→fA r≤B→∃x:XWrite,r=x.e∧x.Ok B:=fun r h hz=>by
 obtain⟨⟨c0,c1,c2,c3,c4,c5,c6,_⟩,e,g0,g1,g2,g3,g4,g5,g6,_⟩:=bW h
 obtain rfl:r=[.int _ c0, .int _ c1, .int _ c2, .int _ c3, .str c4, .str c5, .int _ c6]:=e
 have z4:=Zc (bu (i:=4) rfl) hz
 rw[eF]at z4
 have z5:=Zc (bu (i:=5) rfl) hz
 rw[eF]at z5
 exact⟨⟨c0,c1,⟨c2,c3,c4⟩,c5,c6⟩,rfl,⟨bn g0,bn g1,⟨bn g2,bn g3,z4⟩,z5,bn g6⟩⟩
structure XApplied where
 dev:Int
 seq:Int
def XApplied.e (x:XApplied):List PV:=[.int .i64 x.dev, .int .i64 x.seq]
def XApplied.Ok (B:Nat)(x:XApplied):Prop:=pb x.dev∧pb x.seq
theorem XApplied.of {B:Nat}:∀r:List PV,bi vA r→fA r≤B→∃x:XApplied,r=x.e∧x.Ok B:=fun r h hz=>by
 obtain⟨⟨c0,c1,_⟩,e,g0,g1,_⟩:=bW h
 obtain rfl:r=[.int _ c0, .int _ c1]:=e
 exact⟨⟨c0,c1⟩,rfl,⟨bn g0,bn g1⟩⟩
structure XServer where
 store:XStore
 applied:List XApplied
 changes:List XWrite
def XServer.e (x:XServer):List PV:=[.str x.store.name, .lst (x.store.items.map XItem.e), .int .i64 x.store.auto, .lst (x.applied.map XApplied.e), .lst (x.changes.map XWrite.e)]
def XServer.Ok (B:Nat)(x:XServer):Prop:=x.store.Ok B∧(x.applied.length≤B∧∀y∈x.applied,y.Ok B)∧(x.changes.length≤B∧∀y∈x.changes,y.Ok B)
theorem XServer.of {B:Nat}:∀r:List PV,bi u0 r→fA r≤B→∃x:XServer,r=x.e∧x.Ok B:=fun r h hz=>by
 obtain⟨⟨c0,c1,c2,c3,c4,_⟩,e,g0,g1,g2,g3,g4,_⟩:=bW h
 obtain rfl:r=[.str c0, .lst c1, .int _ c2, .lst c3, .lst c4]:=e
 have z0:=Zc (bu (i:=0) rfl) hz
 rw[eF]at z0
 have z1:=Zc (bu (i:=1) rfl) hz
 obtain⟨l1,rfl,y1⟩:=ud XItem.of (aL g1).2 z1
 have z3:=Zc (bu (i:=3) rfl) hz
 obtain⟨l3,rfl,y3⟩:=ud XApplied.of (aL g3).2 z3
 have z4:=Zc (bu (i:=4) rfl) hz
 obtain⟨l4,rfl,y4⟩:=ud XWrite.of (aL g4).2 z4
 exact⟨⟨⟨c0,l1,c2⟩,l3,l4⟩,rfl,⟨⟨z0,y1,bn g2⟩,y3,y4⟩⟩
structure XOutbox where
 dev:Int
 next:Int
 writes:List XWrite
def XOutbox.e (x:XOutbox):List PV:=[.int .i64 x.dev, .int .i64 x.next, .lst (x.writes.map XWrite.e)]
def XOutbox.Ok (B:Nat)(x:XOutbox):Prop:=pb x.dev∧pb x.next∧(x.writes.length≤B∧∀y∈x.writes,y.Ok B)
theorem XOutbox.of {B:Nat}:∀r:List PV,bi uY r→fA r≤B→∃x:XOutbox,r=x.e∧x.Ok B:=fun r h hz=>by
 obtain⟨⟨c0,c1,c2,_⟩,e,g0,g1,g2,_⟩:=bW h
 obtain rfl:r=[.int _ c0, .int _ c1, .lst c2]:=e
 have z2:=Zc (bu (i:=2) rfl) hz
 obtain⟨l2,rfl,y2⟩:=ud XWrite.of (aL g2).2 z2
 exact⟨⟨c0,c1,l2⟩,rfl,⟨bn g0,bn g1,y2⟩⟩
structure XSync where
 outbox:XOutbox
 tries:Int
 wait:Int
def XSync.e (x:XSync):List PV:=[.int .i64 x.outbox.dev, .int .i64 x.outbox.next, .lst (x.outbox.writes.map XWrite.e), .int .i64 x.tries, .int .i64 x.wait]
def XSync.Ok (B:Nat)(x:XSync):Prop:=x.outbox.Ok B∧pb x.tries∧pb x.wait
theorem XSync.of {B:Nat}:∀r:List PV,bi Ga r→fA r≤B→∃x:XSync,r=x.e∧x.Ok B:=fun r h hz=>by
 obtain⟨⟨c0,c1,c2,c3,c4,_⟩,e,g0,g1,g2,g3,g4,_⟩:=bW h
 obtain rfl:r=[.int _ c0, .int _ c1, .lst c2, .int _ c3, .int _ c4]:=e
 have z2:=Zc (bu (i:=2) rfl) hz
 obtain⟨l2,rfl,y2⟩:=ud XWrite.of (aL g2).2 z2
 exact⟨⟨⟨c0,c1,l2⟩,c3,c4⟩,rfl,⟨⟨bn g0,bn g1,y2⟩,bn g3,bn g4⟩⟩
structure XReplica where
 base:XStore
 seen:Int
 sync:XSync
def XReplica.e (x:XReplica):List PV:=[.str x.base.name, .lst (x.base.items.map XItem.e), .int .i64 x.base.auto, .int .i64 x.seen, .int .i64 x.sync.outbox.dev, .int .i64 x.sync.outbox.next, .lst (x.sync.outbox.writes.map XWrite.e), .int .i64 x.sync.tries, .int .i64 x.sync.wait]
def XReplica.Ok (B:Nat)(x:XReplica):Prop:=x.base.Ok B∧pb x.seen∧x.sync.Ok B
theorem XReplica.of {B:Nat}:∀r:List PV,bi su r→fA r≤B→∃x:XReplica,r=x.e∧x.Ok B:=fun r h hz=>by
 obtain⟨⟨c0,c1,c2,c3,c4,c5,c6,c7,c8,_⟩,e,g0,g1,g2,g3,g4,g5,g6,g7,g8,_⟩:=bW h
 obtain rfl:r=[.str c0, .lst c1, .int _ c2, .int _ c3, .int _ c4, .int _ c5, .lst c6, .int _ c7, .int _ c8]:=e
 have z0:=Zc (bu (i:=0) rfl) hz
 rw[eF]at z0
 have z1:=Zc (bu (i:=1) rfl) hz
 obtain⟨l1,rfl,y1⟩:=ud XItem.of (aL g1).2 z1
 have z6:=Zc (bu (i:=6) rfl) hz
 obtain⟨l6,rfl,y6⟩:=ud XWrite.of (aL g6).2 z6
 exact⟨⟨⟨c0,l1,c2⟩,c3,⟨⟨c4,c5,l6⟩,c7,c8⟩⟩,rfl,⟨⟨z0,y1,bn g2⟩,bn g3,⟨⟨bn g4,bn g5,y6⟩,bn g7,bn g8⟩⟩⟩
structure XResponse where
 type:Int
 status:Int
 version:Int
 body:List UInt8
 shares:Bool
def XResponse.e (x:XResponse):List PV:=[.int .i64 x.type, .int .i64 x.status, .int .i64 x.version, .lst (ag x.body), .bool x.shares]
def XResponse.Ok (B:Nat)(x:XResponse):Prop:=pb x.type∧pb x.status∧pb x.version∧x.body.length≤B
theorem XResponse.of {B:Nat}:∀r:List PV,bi qp r→fA r≤B→∃x:XResponse,r=x.e∧x.Ok B:=fun r h hz=>by
 obtain⟨⟨c0,c1,c2,c3,c4,_⟩,e,g0,g1,g2,g3,g4,_⟩:=bW h
 obtain rfl:r=[.int _ c0, .int _ c1, .int _ c2, .lst c3, .bool c4]:=e
 have z3:=Zc (bu (i:=3) rfl) hz
 obtain⟨b3,rfl⟩:=DO (aL g3).2
 rw[ik,Dt]at z3
 have y3:b3.length≤B:=by omega
 exact⟨⟨c0,c1,c2,b3,c4⟩,rfl,⟨bn g0,bn g1,bn g2,y3⟩⟩
structure XCached where
 site:List UInt8
 path:List UInt8
 resp:XResponse
def XCached.e (x:XCached):List PV:=[.str x.site, .str x.path, .int .i64 x.resp.type, .int .i64 x.resp.status, .int .i64 x.resp.version, .lst (ag x.resp.body), .bool x.resp.shares]
def XCached.Ok (B:Nat)(x:XCached):Prop:=x.site.length≤B∧x.path.length≤B∧x.resp.Ok B
theorem XCached.of {B:Nat}:∀r:List PV,bi uW r→fA r≤B→∃x:XCached,r=x.e∧x.Ok B:=fun r h hz=>by
 obtain⟨⟨c0,c1,c2,c3,c4,c5,c6,_⟩,e,g0,g1,g2,g3,g4,g5,g6,_⟩:=bW h
 obtain rfl:r=[.str c0, .str c1, .int _ c2, .int _ c3, .int _ c4, .lst c5, .bool c6]:=e
 have z0:=Zc (bu (i:=0) rfl) hz
 rw[eF]at z0
 have z1:=Zc (bu (i:=1) rfl) hz
 rw[eF]at z1
 have z5:=Zc (bu (i:=5) rfl) hz
 obtain⟨b5,rfl⟩:=DO (aL g5).2
 rw[ik,Dt]at z5
 have y5:b5.length≤B:=by omega
 exact⟨⟨c0,c1,⟨c2,c3,c4,b5,c6⟩⟩,rfl,⟨z0,z1,⟨bn g2,bn g3,bn g4,y5⟩⟩⟩
structure XCache where
 version:Int
 entries:List XCached
def XCache.e (x:XCache):List PV:=[.int .i64 x.version, .lst (x.entries.map XCached.e)]
def XCache.Ok (B:Nat)(x:XCache):Prop:=pb x.version∧(x.entries.length≤B∧∀y∈x.entries,y.Ok B)
theorem XCache.of {B:Nat}:∀r:List PV,bi zG r→fA r≤B→∃x:XCache,r=x.e∧x.Ok B:=fun r h hz=>by
 obtain⟨⟨c0,c1,_⟩,e,g0,g1,_⟩:=bW h
 obtain rfl:r=[.int _ c0, .lst c1]:=e
 have z1:=Zc (bu (i:=1) rfl) hz
 obtain⟨l1,rfl,y1⟩:=ud XCached.of (aL g1).2 z1
 exact⟨⟨c0,l1⟩,rfl,⟨bn g0,y1⟩⟩
structure XCacheSet where
 caches:List XCache
def XCacheSet.e (x:XCacheSet):List PV:=[.lst (x.caches.map XCache.e)]
def XCacheSet.Ok (B:Nat)(x:XCacheSet):Prop:=(x.caches.length≤B∧∀y∈x.caches,y.Ok B)
theorem XCacheSet.of {B:Nat}:∀r:List PV,bi qk r→fA r≤B→∃x:XCacheSet,r=x.e∧x.Ok B:=fun r h hz=>by
 obtain⟨⟨c0,_⟩,e,g0,_⟩:=bW h
 obtain rfl:r=[.lst c0]:=e
 have z0:=Zc (bu (i:=0) rfl) hz
 obtain⟨l0,rfl,y0⟩:=ud XCache.of (aL g0).2 z0
 exact⟨⟨l0⟩,rfl,y0⟩
structure XRegistration where
 site:List UInt8
 installing:Int
 waiting:Int
 active:Int
def XRegistration.e (x:XRegistration):List PV:=[.str x.site, .int .i64 x.installing, .int .i64 x.waiting, .int .i64 x.active]
def XRegistration.Ok (B:Nat)(x:XRegistration):Prop:=x.site.length≤B∧pb x.installing∧pb x.waiting∧pb x.active
theorem XRegistration.of {B:Nat}:∀r:List PV,bi jY r→fA r≤B→∃x:XRegistration,r=x.e∧x.Ok B:=fun r h hz=>by
 obtain⟨⟨c0,c1,c2,c3,_⟩,e,g0,g1,g2,g3,_⟩:=bW h
 obtain rfl:r=[.str c0, .int _ c1, .int _ c2, .int _ c3]:=e
 have z0:=Zc (bu (i:=0) rfl) hz
 rw[eF]at z0
 exact⟨⟨c0,c1,c2,c3⟩,rfl,⟨z0,bn g1,bn g2,bn g3⟩⟩
structure XLoaded where
 path:List UInt8
 version:Int
def XLoaded.e (x:XLoaded):List PV:=[.str x.path, .int .i64 x.version]
def XLoaded.Ok (B:Nat)(x:XLoaded):Prop:=x.path.length≤B∧pb x.version
theorem XLoaded.of {B:Nat}:∀r:List PV,bi uX r→fA r≤B→∃x:XLoaded,r=x.e∧x.Ok B:=fun r h hz=>by
 obtain⟨⟨c0,c1,_⟩,e,g0,g1,_⟩:=bW h
 obtain rfl:r=[.str c0, .int _ c1]:=e
 have z0:=Zc (bu (i:=0) rfl) hz
 rw[eF]at z0
 exact⟨⟨c0,c1⟩,rfl,⟨z0,bn g1⟩⟩
structure XInstr where
 kind:Int
 r:Int
 n:Int
 text:List UInt8
def XInstr.e (x:XInstr):List PV:=[.int .i64 x.kind, .int .i64 x.r, .int .i64 x.n, .str x.text]
def XInstr.Ok (B:Nat)(x:XInstr):Prop:=pb x.kind∧pb x.r∧pb x.n∧x.text.length≤B
theorem XInstr.of {B:Nat}:∀r:List PV,bi zI r→fA r≤B→∃x:XInstr,r=x.e∧x.Ok B:=fun r h hz=>by
 obtain⟨⟨c0,c1,c2,c3,_⟩,e,g0,g1,g2,g3,_⟩:=bW h
 obtain rfl:r=[.int _ c0, .int _ c1, .int _ c2, .str c3]:=e
 have z3:=Zc (bu (i:=3) rfl) hz
 rw[eF]at z3
 exact⟨⟨c0,c1,c2,c3⟩,rfl,⟨bn g0,bn g1,bn g2,z3⟩⟩
structure XMachine where
 script:List XInstr
 pc:Int
 regs:List Int
 steps:Int
 done:Bool
 wait:Bool
def XMachine.e (x:XMachine):List PV:=[.lst (x.script.map XInstr.e), .int .i64 x.pc, .lst (x.regs.map oV), .int .i64 x.steps, .bool x.done, .bool x.wait]
def XMachine.Ok (B:Nat)(x:XMachine):Prop:=(x.script.length≤B∧∀y∈x.script,y.Ok B)∧pb x.pc∧(x.regs.length≤B∧∀y∈x.regs,pb y)∧pb x.steps
theorem XMachine.of {B:Nat}:∀r:List PV,bi sr r→fA r≤B→∃x:XMachine,r=x.e∧x.Ok B:=fun r h hz=>by
 obtain⟨⟨c0,c1,c2,c3,c4,c5,_⟩,e,g0,g1,g2,g3,g4,g5,_⟩:=bW h
 obtain rfl:r=[.lst c0, .int _ c1, .lst c2, .int _ c3, .bool c4, .bool c5]:=e
 have z0:=Zc (bu (i:=0) rfl) hz
 obtain⟨l0,rfl,y0⟩:=ud XInstr.of (aL g0).2 z0
 have z2:=Zc (bu (i:=2) rfl) hz
 obtain⟨l2,rfl,y2⟩:=ud Rt (aL g2).2 z2
 exact⟨⟨l0,c1,l2,c3,c4,c5⟩,rfl,⟨y0,bn g1,y2,bn g3⟩⟩
structure XPage where
 id:Int
 site:List UInt8
 top:List UInt8
 version:Int
 loaded:List XLoaded
 machine:XMachine
def XPage.e (x:XPage):List PV:=[.int .i64 x.id, .str x.site, .str x.top, .int .i64 x.version, .lst (x.loaded.map XLoaded.e), .lst (x.machine.script.map XInstr.e), .int .i64 x.machine.pc, .lst (x.machine.regs.map oV), .int .i64 x.machine.steps, .bool x.machine.done, .bool x.machine.wait]
def XPage.Ok (B:Nat)(x:XPage):Prop:=pb x.id∧x.site.length≤B∧x.top.length≤B∧pb x.version∧(x.loaded.length≤B∧∀y∈x.loaded,y.Ok B)∧x.machine.Ok B
theorem XPage.of {B:Nat}:∀r:List PV,bi F8 r→fA r≤B→∃x:XPage,r=x.e∧x.Ok B:=fun r h hz=>by
 obtain⟨⟨c0,c1,c2,c3,c4,c5,c6,c7,c8,c9,c10,_⟩,e,g0,g1,g2,g3,g4,g5,g6,g7,g8,g9,g10,_⟩:=bW h
 obtain rfl:r=[.int _ c0, .str c1, .str c2, .int _ c3, .lst c4, .lst c5, .int _ c6, .lst c7, .int _ c8, .bool c9, .bool c10]:=e
 have z1:=Zc (bu (i:=1) rfl) hz
 rw[eF]at z1
 have z2:=Zc (bu (i:=2) rfl) hz
 rw[eF]at z2
 have z4:=Zc (bu (i:=4) rfl) hz
 obtain⟨l4,rfl,y4⟩:=ud XLoaded.of (aL g4).2 z4
 have z5:=Zc (bu (i:=5) rfl) hz
 obtain⟨l5,rfl,y5⟩:=ud XInstr.of (aL g5).2 z5
 have z7:=Zc (bu (i:=7) rfl) hz
 obtain⟨l7,rfl,y7⟩:=ud Rt (aL g7).2 z7
 exact⟨⟨c0,c1,c2,c3,l4,⟨l5,c6,l7,c8,c9,c10⟩⟩,rfl,⟨bn g0,z1,z2,bn g3,y4,⟨y5,bn g6,y7,bn g8⟩⟩⟩
structure XIndexDef where
 store:List UInt8
 field:List UInt8
def XIndexDef.e (x:XIndexDef):List PV:=[.str x.store, .str x.field]
def XIndexDef.Ok (B:Nat)(x:XIndexDef):Prop:=x.store.length≤B∧x.field.length≤B
theorem XIndexDef.of {B:Nat}:∀r:List PV,bi qm r→fA r≤B→∃x:XIndexDef,r=x.e∧x.Ok B:=fun r h hz=>by
 obtain⟨⟨c0,c1,_⟩,e,g0,g1,_⟩:=bW h
 obtain rfl:r=[.str c0, .str c1]:=e
 have z0:=Zc (bu (i:=0) rfl) hz
 rw[eF]at z0
 have z1:=Zc (bu (i:=1) rfl) hz
 rw[eF]at z1
 exact⟨⟨c0,c1⟩,rfl,⟨z0,z1⟩⟩
structure XDatabase where
 name:List UInt8
 version:Int
 stores:List XStore
 unique:List XIndexDef
def XDatabase.e (x:XDatabase):List PV:=[.str x.name, .int .i64 x.version, .lst (x.stores.map XStore.e), .lst (x.unique.map XIndexDef.e)]
def XDatabase.Ok (B:Nat)(x:XDatabase):Prop:=x.name.length≤B∧pb x.version∧(x.stores.length≤B∧∀y∈x.stores,y.Ok B)∧(x.unique.length≤B∧∀y∈x.unique,y.Ok B)
theorem XDatabase.of {B:Nat}:∀r:List PV,bi ql r→fA r≤B→∃x:XDatabase,r=x.e∧x.Ok B:=fun r h hz=>by
 obtain⟨⟨c0,c1,c2,c3,_⟩,e,g0,g1,g2,g3,_⟩:=bW h
 obtain rfl:r=[.str c0, .int _ c1, .lst c2, .lst c3]:=e
 have z0:=Zc (bu (i:=0) rfl) hz
 rw[eF]at z0
 have z2:=Zc (bu (i:=2) rfl) hz
 obtain⟨l2,rfl,y2⟩:=ud XStore.of (aL g2).2 z2
 have z3:=Zc (bu (i:=3) rfl) hz
 obtain⟨l3,rfl,y3⟩:=ud XIndexDef.of (aL g3).2 z3
 exact⟨⟨c0,c1,l2,l3⟩,rfl,⟨z0,bn g1,y2,y3⟩⟩
structure XDisk where
 base:XDatabase
 log:List UInt8
 count:Int
def XDisk.e (x:XDisk):List PV:=[.str x.base.name, .int .i64 x.base.version, .lst (x.base.stores.map XStore.e), .lst (x.base.unique.map XIndexDef.e), .lst (ag x.log), .int .i64 x.count]
def XDisk.Ok (B:Nat)(x:XDisk):Prop:=x.base.Ok B∧x.log.length≤B∧pb x.count
theorem XDisk.of {B:Nat}:∀r:List PV,bi F5 r→fA r≤B→∃x:XDisk,r=x.e∧x.Ok B:=fun r h hz=>by
 obtain⟨⟨c0,c1,c2,c3,c4,c5,_⟩,e,g0,g1,g2,g3,g4,g5,_⟩:=bW h
 obtain rfl:r=[.str c0, .int _ c1, .lst c2, .lst c3, .lst c4, .int _ c5]:=e
 have z0:=Zc (bu (i:=0) rfl) hz
 rw[eF]at z0
 have z2:=Zc (bu (i:=2) rfl) hz
 obtain⟨l2,rfl,y2⟩:=ud XStore.of (aL g2).2 z2
 have z3:=Zc (bu (i:=3) rfl) hz
 obtain⟨l3,rfl,y3⟩:=ud XIndexDef.of (aL g3).2 z3
 have z4:=Zc (bu (i:=4) rfl) hz
 obtain⟨b4,rfl⟩:=DO (aL g4).2
 rw[ik,Dt]at z4
 have y4:b4.length≤B:=by omega
 exact⟨⟨⟨c0,c1,l2,l3⟩,b4,c5⟩,rfl,⟨⟨z0,bn g1,y2,y3⟩,y4,bn g5⟩⟩
structure XBucket where
 site:List UInt8
 top:List UInt8
 reg:XRegistration
 caches:XCacheSet
 disk:XDisk
 replica:XReplica
 lastUsed:Int
 persistent:Bool
def XBucket.e (x:XBucket):List PV:=[.str x.site, .str x.top, .str x.reg.site, .int .i64 x.reg.installing, .int .i64 x.reg.waiting, .int .i64 x.reg.active, .lst (x.caches.caches.map XCache.e), .str x.disk.base.name, .int .i64 x.disk.base.version, .lst (x.disk.base.stores.map XStore.e), .lst (x.disk.base.unique.map XIndexDef.e), .lst (ag x.disk.log), .int .i64 x.disk.count, .str x.replica.base.name, .lst (x.replica.base.items.map XItem.e), .int .i64 x.replica.base.auto, .int .i64 x.replica.seen, .int .i64 x.replica.sync.outbox.dev, .int .i64 x.replica.sync.outbox.next, .lst (x.replica.sync.outbox.writes.map XWrite.e), .int .i64 x.replica.sync.tries, .int .i64 x.replica.sync.wait, .int .i64 x.lastUsed, .bool x.persistent]
def XBucket.Ok (B:Nat)(x:XBucket):Prop:=x.site.length≤B∧x.top.length≤B∧x.reg.Ok B∧x.caches.Ok B∧x.disk.Ok B∧x.replica.Ok B∧pb x.lastUsed
theorem XBucket.of {B:Nat}:∀r:List PV,bi uV r→fA r≤B→∃x:XBucket,r=x.e∧x.Ok B:=fun r h hz=>by
 obtain⟨⟨c0,c1,c2,c3,c4,c5,c6,c7,c8,c9,c10,c11,c12,c13,c14,c15,c16,c17,c18,c19,c20,c21,c22,c23,_⟩,e,g0,g1,g2,g3,g4,g5,g6,g7,g8,g9,g10,g11,g12,g13,g14,g15,g16,g17,g18,g19,g20,g21,g22,g23,_⟩:=bW h
 obtain rfl:r=[.str c0, .str c1, .str c2, .int _ c3, .int _ c4, .int _ c5, .lst c6, .str c7, .int _ c8, .lst c9, .lst c10, .lst c11, .int _ c12, .str c13, .lst c14, .int _ c15, .int _ c16, .int _ c17, .int _ c18, .lst c19, .int _ c20, .int _ c21, .int _ c22, .bool c23]:=e
 have z0:=Zc (bu (i:=0) rfl) hz
 rw[eF]at z0
 have z1:=Zc (bu (i:=1) rfl) hz
 rw[eF]at z1
 have z2:=Zc (bu (i:=2) rfl) hz
 rw[eF]at z2
 have z6:=Zc (bu (i:=6) rfl) hz
 obtain⟨l6,rfl,y6⟩:=ud XCache.of (aL g6).2 z6
 have z7:=Zc (bu (i:=7) rfl) hz
 rw[eF]at z7
 have z9:=Zc (bu (i:=9) rfl) hz
 obtain⟨l9,rfl,y9⟩:=ud XStore.of (aL g9).2 z9
 have z10:=Zc (bu (i:=10) rfl) hz
 obtain⟨l10,rfl,y10⟩:=ud XIndexDef.of (aL g10).2 z10
 have z11:=Zc (bu (i:=11) rfl) hz
 obtain⟨b11,rfl⟩:=DO (aL g11).2
 rw[ik,Dt]at z11
 have y11:b11.length≤B:=by omega
 have z13:=Zc (bu (i:=13) rfl) hz
 rw[eF]at z13
 have z14:=Zc (bu (i:=14) rfl) hz
 obtain⟨l14,rfl,y14⟩:=ud XItem.of (aL g14).2 z14
 have z19:=Zc (bu (i:=19) rfl) hz
 obtain⟨l19,rfl,y19⟩:=ud XWrite.of (aL g19).2 z19
 exact⟨⟨c0,c1,⟨c2,c3,c4,c5⟩,⟨l6⟩,⟨⟨c7,c8,l9,l10⟩,b11,c12⟩,⟨⟨c13,l14,c15⟩,c16,⟨⟨c17,c18,l19⟩,c20,c21⟩⟩,c22,c23⟩,rfl,⟨z0,z1,⟨z2,bn g3,bn g4,bn g5⟩,y6,⟨⟨z7,bn g8,y9,y10⟩,y11,bn g12⟩,⟨⟨z13,y14,bn g15⟩,bn g16,⟨⟨bn g17,bn g18,y19⟩,bn g20,bn g21⟩⟩,bn g22⟩⟩
structure XStorage where
 buckets:List XBucket
def XStorage.e (x:XStorage):List PV:=[.lst (x.buckets.map XBucket.e)]
def XStorage.Ok (B:Nat)(x:XStorage):Prop:=(x.buckets.length≤B∧∀y∈x.buckets,y.Ok B)
theorem XStorage.of {B:Nat}:∀r:List PV,bi gF r→fA r≤B→∃x:XStorage,r=x.e∧x.Ok B:=fun r h hz=>by
 obtain⟨⟨c0,_⟩,e,g0,_⟩:=bW h
 obtain rfl:r=[.lst c0]:=e
 have z0:=Zc (bu (i:=0) rfl) hz
 obtain⟨l0,rfl,y0⟩:=ud XBucket.of (aL g0).2 z0
 exact⟨⟨l0⟩,rfl,y0⟩
structure XLock where
 name:List UInt8
 page:Int
 shared:Bool
 held:Bool
def XLock.e (x:XLock):List PV:=[.str x.name, .int .i64 x.page, .bool x.shared, .bool x.held]
def XLock.Ok (B:Nat)(x:XLock):Prop:=x.name.length≤B∧pb x.page
theorem XLock.of {B:Nat}:∀r:List PV,bi F7 r→fA r≤B→∃x:XLock,r=x.e∧x.Ok B:=fun r h hz=>by
 obtain⟨⟨c0,c1,c2,c3,_⟩,e,g0,g1,g2,g3,_⟩:=bW h
 obtain rfl:r=[.str c0, .int _ c1, .bool c2, .bool c3]:=e
 have z0:=Zc (bu (i:=0) rfl) hz
 rw[eF]at z0
 exact⟨⟨c0,c1,c2,c3⟩,rfl,⟨z0,bn g1⟩⟩
structure XLockTable where
 locks:List XLock
def XLockTable.e (x:XLockTable):List PV:=[.lst (x.locks.map XLock.e)]
def XLockTable.Ok (B:Nat)(x:XLockTable):Prop:=(x.locks.length≤B∧∀y∈x.locks,y.Ok B)
theorem XLockTable.of {B:Nat}:∀r:List PV,bi eU r→fA r≤B→∃x:XLockTable,r=x.e∧x.Ok B:=fun r h hz=>by
 obtain⟨⟨c0,_⟩,e,g0,_⟩:=bW h
 obtain rfl:r=[.lst c0]:=e
 have z0:=Zc (bu (i:=0) rfl) hz
 obtain⟨l0,rfl,y0⟩:=ud XLock.of (aL g0).2 z0
 exact⟨⟨l0⟩,rfl,y0⟩
structure XMail where
 to:Int
 sender:Int
 n:Int
def XMail.e (x:XMail):List PV:=[.int .i64 x.to, .int .i64 x.sender, .int .i64 x.n]
def XMail.Ok (B:Nat)(x:XMail):Prop:=pb x.to∧pb x.sender∧pb x.n
theorem XMail.of {B:Nat}:∀r:List PV,bi JC r→fA r≤B→∃x:XMail,r=x.e∧x.Ok B:=fun r h hz=>by
 obtain⟨⟨c0,c1,c2,_⟩,e,g0,g1,g2,_⟩:=bW h
 obtain rfl:r=[.int _ c0, .int _ c1, .int _ c2]:=e
 exact⟨⟨c0,c1,c2⟩,rfl,⟨bn g0,bn g1,bn g2⟩⟩
structure XChannel where
 mails:List XMail
def XChannel.e (x:XChannel):List PV:=[.lst (x.mails.map XMail.e)]
def XChannel.Ok (B:Nat)(x:XChannel):Prop:=(x.mails.length≤B∧∀y∈x.mails,y.Ok B)
theorem XChannel.of {B:Nat}:∀r:List PV,bi gE r→fA r≤B→∃x:XChannel,r=x.e∧x.Ok B:=fun r h hz=>by
 obtain⟨⟨c0,_⟩,e,g0,_⟩:=bW h
 obtain rfl:r=[.lst c0]:=e
 have z0:=Zc (bu (i:=0) rfl) hz
 obtain⟨l0,rfl,y0⟩:=ud XMail.of (aL g0).2 z0
 exact⟨⟨l0⟩,rfl,y0⟩
structure XSite where
 name:List UInt8
 version:Int
 files:List (List UInt8)
 shared:Bool
def XSite.e (x:XSite):List PV:=[.str x.name, .int .i64 x.version, .lst (x.files.map xA), .bool x.shared]
def XSite.Ok (B:Nat)(x:XSite):Prop:=x.name.length≤B∧pb x.version∧(x.files.length≤B∧∀y∈x.files,y.length≤B)
theorem XSite.of {B:Nat}:∀r:List PV,bi F9 r→fA r≤B→∃x:XSite,r=x.e∧x.Ok B:=fun r h hz=>by
 obtain⟨⟨c0,c1,c2,c3,_⟩,e,g0,g1,g2,g3,_⟩:=bW h
 obtain rfl:r=[.str c0, .int _ c1, .lst c2, .bool c3]:=e
 have z0:=Zc (bu (i:=0) rfl) hz
 rw[eF]at z0
 have z2:=Zc (bu (i:=2) rfl) hz
 obtain⟨l2,rfl,y2⟩:=ud Uf (aL g2).2 z2
 exact⟨⟨c0,c1,l2,c3⟩,rfl,⟨z0,bn g1,y2⟩⟩
structure XWorld where
 now:Int
 online:Bool
 device:Int
 storage:XStorage
 pages:List XPage
 nextPage:Int
 locks:XLockTable
 channel:XChannel
 sites:List XSite
 servers:List XServer
def XWorld.e (x:XWorld):List PV:=[.int .i64 x.now, .bool x.online, .int .i64 x.device, .lst (x.storage.buckets.map XBucket.e), .lst (x.pages.map XPage.e), .int .i64 x.nextPage, .lst (x.locks.locks.map XLock.e), .lst (x.channel.mails.map XMail.e), .lst (x.sites.map XSite.e), .lst (x.servers.map XServer.e)]
def XWorld.Ok (B:Nat)(x:XWorld):Prop:=pb x.now∧pb x.device∧x.storage.Ok B∧(x.pages.length≤B∧∀y∈x.pages,y.Ok B)∧pb x.nextPage∧x.locks.Ok B∧x.channel.Ok B∧(x.sites.length≤B∧∀y∈x.sites,y.Ok B)∧(x.servers.length≤B∧∀y∈x.servers,y.Ok B)
theorem XWorld.of {B:Nat}:∀r:List PV,bi dh r→fA r≤B→∃x:XWorld,r=x.e∧x.Ok B:=fun r h hz=>by
 obtain⟨⟨c0,c1,c2,c3,c4,c5,c6,c7,c8,c9,_⟩,e,g0,g1,g2,g3,g4,g5,g6,g7,g8,g9,_⟩:=bW h
 obtain rfl:r=[.int _ c0, .bool c1, .int _ c2, .lst c3, .lst c4, .int _ c5, .lst c6, .lst c7, .lst c8, .lst c9]:=e
 have z3:=Zc (bu (i:=3) rfl) hz
 obtain⟨l3,rfl,y3⟩:=ud XBucket.of (aL g3).2 z3
 have z4:=Zc (bu (i:=4) rfl) hz
 obtain⟨l4,rfl,y4⟩:=ud XPage.of (aL g4).2 z4
 have z6:=Zc (bu (i:=6) rfl) hz
 obtain⟨l6,rfl,y6⟩:=ud XLock.of (aL g6).2 z6
 have z7:=Zc (bu (i:=7) rfl) hz
 obtain⟨l7,rfl,y7⟩:=ud XMail.of (aL g7).2 z7
 have z8:=Zc (bu (i:=8) rfl) hz
 obtain⟨l8,rfl,y8⟩:=ud XSite.of (aL g8).2 z8
 have z9:=Zc (bu (i:=9) rfl) hz
 obtain⟨l9,rfl,y9⟩:=ud XServer.of (aL g9).2 z9
 exact⟨⟨c0,c1,c2,⟨l3⟩,l4,c5,⟨l6⟩,⟨l7⟩,l8,l9⟩,rfl,⟨bn g0,bn g2,y3,y4,bn g5,y6,y7,y8,y9⟩⟩
end Gi
