/- Of this proof. -/
import Derived.Test.YtebnmoogdmpepaaGreatGnA
import Derived.Test.YtebnmoogdmpepaaGreatGlC
set_option linter.unusedSimpArgs false
set_option linter.unusedVariables false
namespace Gi
open Go Go.RowKit
set_option maxHeartbeats 8000000
set_option maxRecDepth 4000
attribute [local simp] start ai az aK bj cf Opd.ev put V.cells plain bo gn isInt isStr isBool bin bV pC pB un asList L.view am V.view viewL aY ar bQ bM comp aJ bH df bY bz bw bx bG bc ca aN bB aT aO bE cd bD bA bF V.flat L.flat dO di bv putAt thaw thawL thawT freezeVs freezeLs freezeL V.mut L.mut aG aV dA ce dM bO bh wp_seq wp_block py wp_cond wp_skip wp_exit wp_ret cA cy cP cB cW cX cV bX aM L.notArr aS aQ aR eJ bp storeD aX fD br ct bd m9 L.mov L.closed V.closed PV.bare PV.flat
theorem ak {s:List UInt8}:(ag s).length=s.length:=by simp[ag]
structure Flat (z:Nat) (R:List (List PV)):Prop where
 flat:mL R=true
 wid:(R.all fun r=>r.length==z)=true
 len:R.length≤1048576
theorem fY {R:List (List PV)}(h:Flat 1 R):ah Ph au 261 [ba R]=some (.one (.down 1 R)):=by
 have hf:=h.flat
 have hw:=h.wid
 have m:=ew (m:=R.length) (z:=1) (by have:=h.len;omega) (by omega)
 rw[Nat.mul_one]at m
 refine ae (fn:=nv) rfl ?_
 simp[nv,hf,hw,m]
theorem zE {R:List (List PV)}(h:Flat 4 R):ah Ph au 489 [ba R]=some (.one (.down 4 R)):=by
 have hf:=h.flat
 have hw:=h.wid
 have m:=ew (m:=R.length) (z:=40) (by have:=h.len;omega) (by omega)
 refine ae (fn:=nL) rfl ?_
 simp[nL,hf,hw,m]
theorem xn {B:Nat}(hB:B≤1048576){x:XRecord}(h:x.Ok B):ah Ph au 242 [.agg [.pv (.lst (x.fs.map XField.e))]]=some (.agg [.down 2 (x.fs.map XField.e)]):=by
 have h_fs:=h
 have F0:Flat 2 (x.fs.map XField.e):=⟨ep (e:=XField.e) (fun _=>rfl) _,dQ (e:=XField.e) (z:=2) (fun _=>rfl) _,by rw[Zs];have:=h_fs.1;omega⟩
 have hf0:=F0.flat
 have hw0:=F0.wid
 have m0:=ew (m:=(x.fs.map XField.e).length) (z:=24) (by have:=F0.len;omega) (by omega)
 generalize (x.fs.map XField.e)=R0 at F0 hf0 hw0 m0⊢
 refine ae (fn:=mA) rfl ?_
 simp[mA,hf0,hw0,m0]
theorem FP {B:Nat}(hB:B≤1048576){x:XRecord}(h:x.Ok B):ah Ph au 239 [.agg [.pv (.lst (x.fs.map XField.e))]]=some (.agg [.down 2 (x.fs.map XField.e)]):=by
 have h_fs:=h
 have F0:Flat 2 (x.fs.map XField.e):=⟨ep (e:=XField.e) (fun _=>rfl) _,dQ (e:=XField.e) (z:=2) (fun _=>rfl) _,by rw[Zs];have:=h_fs.1;omega⟩
 have hf0:=F0.flat
 have hw0:=F0.wid
 have m0:=ew (m:=(x.fs.map XField.e).length) (z:=24) (by have:=F0.len;omega) (by omega)
 generalize (x.fs.map XField.e)=R0 at F0 hf0 hw0 m0⊢
 refine ae (fn:=re) rfl ?_
 simp[re,hf0,hw0,m0]
theorem r7 {B:Nat}(hB:B≤1048576){x:XItem}(h:x.Ok B):ah Ph au 218 [.agg [.pv (.int .i64 x.key.kind), .pv (.int .i64 x.key.n), .pv (.str x.key.text), .pv (.lst (x.rcd.fs.map XField.e))]]=some (.agg [.pv (.int .i64 x.key.kind), .pv (.int .i64 x.key.n), .pv (.str x.key.text), .down 2 (x.rcd.fs.map XField.e)]):=by
 obtain⟨h_key,h_rcd⟩:=h
 have c0:=xn hB h_rcd
 refine ae (fn:=oI) rfl ?_
 simp[oI,c0]
theorem uU {B:Nat}(hB:B≤1048576){x:XItem}(h:x.Ok B):ah Ph au 214 [.agg [.pv (.int .i64 x.key.kind), .pv (.int .i64 x.key.n), .pv (.str x.key.text), .pv (.lst (x.rcd.fs.map XField.e))]]=some (.agg [.pv (.int .i64 x.key.kind), .pv (.int .i64 x.key.n), .pv (.str x.key.text), .down 2 (x.rcd.fs.map XField.e)]):=by
 obtain⟨h_key,h_rcd⟩:=h
 have c0:=FP hB h_rcd
 refine ae (fn:=rh) rfl ?_
 simp[rh,c0]
theorem vN {B:Nat}(hB:B≤1048576){x:XMachine}(h:x.Ok B):ah Ph au 493 [.agg [.pv (.lst (x.script.map XInstr.e)), .pv (.int .i64 x.pc), .pv (.lst (x.regs.map oV)), .pv (.int .i64 x.steps), .pv (.bool x.done), .pv (.bool x.wait)]]=some (.agg [.down 4 (x.script.map XInstr.e), .pv (.int .i64 x.pc), .down 1 (x.regs.map oV), .pv (.int .i64 x.steps), .pv (.bool x.done), .pv (.bool x.wait)]):=by
 obtain⟨h_script,h_pc,h_regs,h_steps⟩:=h
 have F0:Flat 4 (x.script.map XInstr.e):=⟨ep (e:=XInstr.e) (fun _=>rfl) _,dQ (e:=XInstr.e) (z:=4) (fun _=>rfl) _,by rw[Zs];have:=h_script.1;omega⟩
 have hf0:=F0.flat
 have hw0:=F0.wid
 have m0:=ew (m:=(x.script.map XInstr.e).length) (z:=40) (by have:=F0.len;omega) (by omega)
 generalize (x.script.map XInstr.e)=R0 at F0 hf0 hw0 m0⊢
 have F1:Flat 1 (x.regs.map oV):=⟨ep (e:=oV) (fun _=>rfl) _,dQ (e:=oV) (z:=1) (fun _=>rfl) _,by rw[Zs];have:=h_regs.1;omega⟩
 have hf1:=F1.flat
 have hw1:=F1.wid
 have m1:=ew (m:=(x.regs.map oV).length) (z:=8) (by have:=F1.len;omega) (by omega)
 generalize (x.regs.map oV)=R1 at F1 hf1 hw1 m1⊢
 refine ae (fn:=lG) rfl ?_
 simp[lG,hf0,hw0,m0,hf1,hw1,m1]
theorem Df {B:Nat}(hB:B≤1048576){x:XMachine}(h:x.Ok B):ah Ph au 477 [.agg [.pv (.lst (x.script.map XInstr.e)), .pv (.int .i64 x.pc), .pv (.lst (x.regs.map oV)), .pv (.int .i64 x.steps), .pv (.bool x.done), .pv (.bool x.wait)]]=some (.agg [.down 4 (x.script.map XInstr.e), .pv (.int .i64 x.pc), .down 1 (x.regs.map oV), .pv (.int .i64 x.steps), .pv (.bool x.done), .pv (.bool x.wait)]):=by
 obtain⟨h_script,h_pc,h_regs,h_steps⟩:=h
 have c0:=zE (R:=(x.script.map XInstr.e)) ⟨ep (fun _=>rfl) _,dQ (z:=4) (fun _=>rfl) _,by rw[Zs];have:=h_script.1;omega⟩
 have F0:Flat 1 (x.regs.map oV):=⟨ep (e:=oV) (fun _=>rfl) _,dQ (e:=oV) (z:=1) (fun _=>rfl) _,by rw[Zs];have:=h_regs.1;omega⟩
 have hf0:=F0.flat
 have hw0:=F0.wid
 have m0:=ew (m:=(x.regs.map oV).length) (z:=8) (by have:=F0.len;omega) (by omega)
 generalize (x.regs.map oV)=R0 at F0 hf0 hw0 m0⊢
 refine ae (fn:=pQ) rfl ?_
 simp[pQ,c0,hf0,hw0,m0]
theorem Ba {B:Nat}(hB:B≤1048576){x:XPage}(h:x.Ok B):ah Ph au 479 [.agg [.pv (.int .i64 x.id), .pv (.str x.site), .pv (.str x.top), .pv (.int .i64 x.version), .pv (.lst (x.loaded.map XLoaded.e)), .pv (.lst (x.machine.script.map XInstr.e)), .pv (.int .i64 x.machine.pc), .pv (.lst (x.machine.regs.map oV)), .pv (.int .i64 x.machine.steps), .pv (.bool x.machine.done), .pv (.bool x.machine.wait)]]=some (.agg [.pv (.int .i64 x.id), .pv (.str x.site), .pv (.str x.top), .pv (.int .i64 x.version), .down 2 (x.loaded.map XLoaded.e), .down 4 (x.machine.script.map XInstr.e), .pv (.int .i64 x.machine.pc), .down 1 (x.machine.regs.map oV), .pv (.int .i64 x.machine.steps), .pv (.bool x.machine.done), .pv (.bool x.machine.wait)]):=by
 obtain⟨h_id,h_site,h_top,h_version,h_loaded,h_machine⟩:=h
 have c0:=vN hB h_machine
 have F0:Flat 2 (x.loaded.map XLoaded.e):=⟨ep (e:=XLoaded.e) (fun _=>rfl) _,dQ (e:=XLoaded.e) (z:=2) (fun _=>rfl) _,by rw[Zs];have:=h_loaded.1;omega⟩
 have hf0:=F0.flat
 have hw0:=F0.wid
 have m0:=ew (m:=(x.loaded.map XLoaded.e).length) (z:=24) (by have:=F0.len;omega) (by omega)
 generalize (x.loaded.map XLoaded.e)=R0 at F0 hf0 hw0 m0⊢
 refine ae (fn:=oJ) rfl ?_
 simp[oJ,c0,hf0,hw0,m0]
theorem Di {B:Nat}(hB:B≤1048576){x:XPage}(h:x.Ok B):ah Ph au 451 [.agg [.pv (.int .i64 x.id), .pv (.str x.site), .pv (.str x.top), .pv (.int .i64 x.version), .pv (.lst (x.loaded.map XLoaded.e)), .pv (.lst (x.machine.script.map XInstr.e)), .pv (.int .i64 x.machine.pc), .pv (.lst (x.machine.regs.map oV)), .pv (.int .i64 x.machine.steps), .pv (.bool x.machine.done), .pv (.bool x.machine.wait)]]=some (.agg [.pv (.int .i64 x.id), .pv (.str x.site), .pv (.str x.top), .pv (.int .i64 x.version), .down 2 (x.loaded.map XLoaded.e), .down 4 (x.machine.script.map XInstr.e), .pv (.int .i64 x.machine.pc), .down 1 (x.machine.regs.map oV), .pv (.int .i64 x.machine.steps), .pv (.bool x.machine.done), .pv (.bool x.machine.wait)]):=by
 obtain⟨h_id,h_site,h_top,h_version,h_loaded,h_machine⟩:=h
 have c0:=Df hB h_machine
 have F0:Flat 2 (x.loaded.map XLoaded.e):=⟨ep (e:=XLoaded.e) (fun _=>rfl) _,dQ (e:=XLoaded.e) (z:=2) (fun _=>rfl) _,by rw[Zs];have:=h_loaded.1;omega⟩
 have hf0:=F0.flat
 have hw0:=F0.wid
 have m0:=ew (m:=(x.loaded.map XLoaded.e).length) (z:=24) (by have:=F0.len;omega) (by omega)
 generalize (x.loaded.map XLoaded.e)=R0 at F0 hf0 hw0 m0⊢
 refine ae (fn:=pU) rfl ?_
 simp[pU,c0,hf0,hw0,m0]
def gC (b0 b1:AObj)(y0:L)(y2:L)(rows:List (List PV)):Nat→List AObj
 |0=>[b0,b1, .box [y0, .nil,y2]]
 |k+1=>[b0,b1, .box [y0, .arr 3,y2], .darr 4 (rows.take (k+1))]
theorem mN {B:Nat}(hB:B≤1048576){x:XStore}(h:x.Ok B):ah Ph au 191 [.agg [.pv (.str x.name), .pv (.lst (x.items.map XItem.e)), .pv (.int .i64 x.auto)]]=some (.agg [.pv (.str x.name),nd 4 (x.items.map XItem.e), .pv (.int .i64 x.auto)]):=by
 obtain⟨h_name,h_items,h_auto⟩:=h
 have e1:∀k(hk:k<x.items.length),_:=fun k hk=>r7 hB (h_items.2 _ (Zg hk))
 have hl:x.items.length≤1048576:=Zc h_items.1 hB
 refine ae (fn:=nA) rfl ?_
 simp[nA]
 refine cO aU Cl.fin x.items.length [.f,.f,.t,.t,.f,.f,.f,.f,.f,.f,.f,.f,.t,.t,.t,.f,.f,.f,.f,.f,.f,.f,.f,.f,.f,.f,.f] (fun k=>[(14,aa .i64 k)]) (gC (.box [.pv (.str x.name), .pv (.lst (x.items.map XItem.e)), .pv (.int .i64 x.auto)]) (.box [.pv (.str []), .nil, .pv (.int .i64 0)]) (.pv (.str x.name)) (.pv (.int .i64 x.auto)) (x.items.map XItem.e)) rfl ?_ ?_ ?_
 ·exact Kn.q [0,1,2] (by simp[gC,aS,aQ,aR,eJ,bp,aW,bm,aF,dz,bL,bf,bS,L.ren,aT])
 ·intro k hk
  have ek:=e1 k hk
  have hx:=XItem.e.eq_1 x.items[k]
  have ht:=cu (e:=XItem.e) hk
  rw[hx]at ht
  cases k with
  |zero=>
   simp only[gC,ht]
   simp[fF,hk,hx,ek,cz]
   exact Kn.q [0,1,2,6]
  |succ k=>
   obtain⟨i1,i2,i3,i4,i5,i6⟩:=od (n:=x.items.length) (by unfold maxLen;omega) hk
   have b1:min (k+1) x.items.length=k+1:=by omega
   have m1:=ew (m:=k+1+1) (z:=56) (by omega) (by omega)
   simp only[gC,ht]
   generalize hT:List.take (k+1) _=T
   have hTl:T.length=k+1:=by rw[←hT];simp;omega
   simp[fF,hk,hx,ek,i1,i2,i3,i4,i5,i6,hTl,m1]
   exact Kn.q [0,1,2,7]
 ·cases hq:x.items with
  |nil=>simp[fF,gC,nd]
  |cons q qs=>
   have hT:(x.items.map XItem.e).take (qs.length+1)=x.items.map XItem.e:=Zt (by rw[hq];simp)
   rw[hq]at hT
   simp only[Zn,gC,hT]
   simp[fF,nd]
def jo (b0 b1:AObj)(y0:L)(y2:L)(rows:List (List PV)):Nat→List AObj
 |0=>[b0,b1, .box [y0, .nil,y2]]
 |k+1=>[b0,b1, .box [y0, .arr 3,y2], .darr 4 (rows.take (k+1))]
theorem qi {B:Nat}(hB:B≤1048576){x:XStore}(h:x.Ok B):ah Ph au 187 [.agg [.pv (.str x.name), .pv (.lst (x.items.map XItem.e)), .pv (.int .i64 x.auto)]]=some (.agg [.pv (.str x.name),nd 4 (x.items.map XItem.e), .pv (.int .i64 x.auto)]):=by
 obtain⟨h_name,h_items,h_auto⟩:=h
 have e1:∀k(hk:k<x.items.length),_:=fun k hk=>uU hB (h_items.2 _ (Zg hk))
 have hl:x.items.length≤1048576:=Zc h_items.1 hB
 refine ae (fn:=rf) rfl ?_
 simp[rf]
 refine cO aU Cl.fin x.items.length [.f,.t,.t,.t,.t,.f,.f,.f,.f,.f,.f,.f,.f,.f,.f,.f,.f,.f,.f,.f,.f,.f,.f,.f,.f,.f,.f,.f,.f] (fun k=>[(4,aa .i64 k)]) (jo (.box [.pv (.str x.name), .pv (.lst (x.items.map XItem.e)), .pv (.int .i64 x.auto)]) (.box [.pv (.str []), .nil, .pv (.int .i64 0)]) (.pv (.str x.name)) (.pv (.int .i64 x.auto)) (x.items.map XItem.e)) rfl ?_ ?_ ?_
 ·exact Kn.q [0,1,2] (by simp[jo,aS,aQ,aR,eJ,bp,aW,bm,aF,dz,bL,bf,bS,L.ren,aT])
 ·intro k hk
  have ek:=e1 k hk
  have hx:=XItem.e.eq_1 x.items[k]
  have ht:=cu (e:=XItem.e) hk
  rw[hx]at ht
  cases k with
  |zero=>
   simp only[jo,ht]
   simp[gU,hk,hx,ek,cz]
   exact Kn.q [0,1,2,5]
  |succ k=>
   obtain⟨i1,i2,i3,i4,i5,i6⟩:=od (n:=x.items.length) (by unfold maxLen;omega) hk
   have b1:min (k+1) x.items.length=k+1:=by omega
   have m1:=ew (m:=k+1+1) (z:=56) (by omega) (by omega)
   simp only[jo,ht]
   generalize hT:List.take (k+1) _=T
   have hTl:T.length=k+1:=by rw[←hT];simp;omega
   simp[gU,hk,hx,ek,i1,i2,i3,i4,i5,i6,hTl,m1]
   exact Kn.q [0,1,2,6]
 ·cases hq:x.items with
  |nil=>simp[gU,jo,nd]
  |cons q qs=>
   have hT:(x.items.map XItem.e).take (qs.length+1)=x.items.map XItem.e:=Zt (by rw[hq];simp)
   rw[hq]at hT
   simp only[Zn,jo,hT]
   simp[gU,nd]
def fk (b0 b1:AObj)(nm:List UInt8)(ver:Int)(U rows:List (List PV)):Nat→List AObj
 |0=>[b0,b1, .box [.pv (.str nm), .pv (.int .i64 ver), .nil, .arr 3], .darr 2 U]
 |k+1=>[b0,b1, .box [.pv (.str nm), .pv (.int .i64 ver), .arr 4, .arr 3], .darr 2 U, .darr 3 (rows.take (k+1))]
theorem uE {B:Nat}(hB:B≤1048576){x:XDatabase}(h:x.Ok B):ah Ph au 498 [.agg [.pv (.str x.name), .pv (.int .i64 x.version), .pv (.lst (x.stores.map XStore.e)), .pv (.lst (x.unique.map XIndexDef.e))]]=some (.agg [.pv (.str x.name), .pv (.int .i64 x.version),nd 3 (x.stores.map XStore.e), .down 2 (x.unique.map XIndexDef.e)]):=by
 obtain⟨h_name,h_version,h_stores,h_unique⟩:=h
 have F0:Flat 2 (x.unique.map XIndexDef.e):=⟨ep (e:=XIndexDef.e) (fun _=>rfl) _,dQ (e:=XIndexDef.e) (z:=2) (fun _=>rfl) _,by rw[Zs];have:=h_unique.1;omega⟩
 have hf0:=F0.flat
 have hw0:=F0.wid
 have m0:=ew (m:=(x.unique.map XIndexDef.e).length) (z:=32) (by have:=F0.len;omega) (by omega)
 generalize (x.unique.map XIndexDef.e)=R0 at F0 hf0 hw0 m0⊢
 have e1:∀k(hk:k<x.stores.length),_:=fun k hk=>mN hB (h_stores.2 _ (Zg hk))
 have hl:x.stores.length≤1048576:=Zc h_stores.1 hB
 refine ae (fn:=kD) rfl ?_
 simp[kD,hf0,hw0,m0]
 refine cO aU Cl.fin x.stores.length [.f,.f,.t,.t,.f,.f,.f,.f,.f,.f,.f,.f,.f,.f,.f,.f,.t,.t,.t,.f,.f,.f,.f,.f,.f,.f,.f,.f,.f,.f,.f] (fun k=>[(18,aa .i64 k)]) (fk (.box [.pv (.str x.name), .pv (.int .i64 x.version), .pv (.lst (x.stores.map XStore.e)), .pv (.lst R0)]) (.box [.pv (.str []), .pv (.int .i64 0), .nil, .nil]) x.name x.version R0 (x.stores.map XStore.e)) rfl ?_ ?_ ?_
 ·exact Kn.q [0,1,2,3] (by simp[fk,aS,aQ,aR,eJ,bp,aW,bm,aF,dz,bL,bf,bS,L.ren,aT])
 ·intro k hk
  have ek:=e1 k hk
  have hx:=XStore.e.eq_1 x.stores[k]
  have ht:=cu (e:=XStore.e) hk
  rw[hx]at ht
  have N0:=eu 4 (x.stores[k].items.map XItem.e)
  generalize nd 4 (x.stores[k].items.map XItem.e)=n0 at N0 ek
  cases k with
  |zero=>
   simp only[fk,ht]
   rcases N0 with⟨q0,rfl⟩|⟨q0,rfl⟩
   ·simp only[q0]at ek
    simp[dk,hk,hx,ek,cz,q0]
    exact Kn.q [0,1,2,3,6]
   ·simp[dk,hk,hx,ek,cz]
    exact Kn.q [0,1,2,3,7]
  |succ k=>
   obtain⟨i1,i2,i3,i4,i5,i6⟩:=od (n:=x.stores.length) (by unfold maxLen;omega) hk
   have b1:min (k+1) x.stores.length=k+1:=by omega
   have m1:=ew (m:=k+1+1) (z:=48) (by omega) (by omega)
   simp only[fk,ht]
   generalize hT:List.take (k+1) _=T
   have hTl:T.length=k+1:=by rw[←hT];simp;omega
   rcases N0 with⟨q0,rfl⟩|⟨q0,rfl⟩
   ·simp only[q0]at ek
    simp[dk,hk,hx,ek,i1,i2,i3,i4,i5,i6,hTl,m1,q0]
    exact Kn.q [0,1,2,3,7]
   ·simp[dk,hk,hx,ek,i1,i2,i3,i4,i5,i6,hTl,m1]
    exact Kn.q [0,1,2,3,8]
 ·cases hq:x.stores with
  |nil=>simp[dk,fk,nd]
  |cons q qs=>
   have hT:(x.stores.map XStore.e).take (qs.length+1)=x.stores.map XStore.e:=Zt (by rw[hq];simp)
   rw[hq]at hT
   simp only[Zn,fk,hT]
   simp[dk,nd]
def jp (b0 b1:AObj)(nm:List UInt8)(ver:Int)(U rows:List (List PV)):Nat→List AObj
 |0=>[b0,b1, .box [.pv (.str nm), .pv (.int .i64 ver), .nil, .arr 3], .darr 2 U]
 |k+1=>[b0,b1, .box [.pv (.str nm), .pv (.int .i64 ver), .arr 4, .arr 3], .darr 2 U, .darr 3 (rows.take (k+1))]
theorem FQ {B:Nat}(hB:B≤1048576){x:XDatabase}(h:x.Ok B):ah Ph au 496 [.agg [.pv (.str x.name), .pv (.int .i64 x.version), .pv (.lst (x.stores.map XStore.e)), .pv (.lst (x.unique.map XIndexDef.e))]]=some (.agg [.pv (.str x.name), .pv (.int .i64 x.version),nd 3 (x.stores.map XStore.e), .down 2 (x.unique.map XIndexDef.e)]):=by
 obtain⟨h_name,h_version,h_stores,h_unique⟩:=h
 have F0:Flat 2 (x.unique.map XIndexDef.e):=⟨ep (e:=XIndexDef.e) (fun _=>rfl) _,dQ (e:=XIndexDef.e) (z:=2) (fun _=>rfl) _,by rw[Zs];have:=h_unique.1;omega⟩
 have hf0:=F0.flat
 have hw0:=F0.wid
 have m0:=ew (m:=(x.unique.map XIndexDef.e).length) (z:=32) (by have:=F0.len;omega) (by omega)
 generalize (x.unique.map XIndexDef.e)=R0 at F0 hf0 hw0 m0⊢
 have e1:∀k(hk:k<x.stores.length),_:=fun k hk=>qi hB (h_stores.2 _ (Zg hk))
 have hl:x.stores.length≤1048576:=Zc h_stores.1 hB
 refine ae (fn:=rm) rfl ?_
 simp[rm,hf0,hw0,m0]
 refine cO aU Cl.fin x.stores.length [.f,.t,.t,.t,.t,.f,.f,.f,.f,.f,.f,.f,.f,.f,.f,.f,.f,.f,.f,.f,.f,.f,.f,.f,.f,.f,.f,.f,.f,.f,.f,.f,.f] (fun k=>[(4,aa .i64 k)]) (jp (.box [.pv (.str x.name), .pv (.int .i64 x.version), .pv (.lst (x.stores.map XStore.e)), .pv (.lst R0)]) (.box [.pv (.str []), .pv (.int .i64 0), .nil, .nil]) x.name x.version R0 (x.stores.map XStore.e)) rfl ?_ ?_ ?_
 ·exact Kn.q [0,1,2,3] (by simp[jp,aS,aQ,aR,eJ,bp,aW,bm,aF,dz,bL,bf,bS,L.ren,aT])
 ·intro k hk
  have ek:=e1 k hk
  have hx:=XStore.e.eq_1 x.stores[k]
  have ht:=cu (e:=XStore.e) hk
  rw[hx]at ht
  have N0:=eu 4 (x.stores[k].items.map XItem.e)
  generalize nd 4 (x.stores[k].items.map XItem.e)=n0 at N0 ek
  cases k with
  |zero=>
   simp only[jp,ht]
   rcases N0 with⟨q0,rfl⟩|⟨q0,rfl⟩
   ·simp only[q0]at ek
    simp[fm,hk,hx,ek,cz,q0]
    exact Kn.q [0,1,2,3,5]
   ·simp[fm,hk,hx,ek,cz]
    exact Kn.q [0,1,2,3,6]
  |succ k=>
   obtain⟨i1,i2,i3,i4,i5,i6⟩:=od (n:=x.stores.length) (by unfold maxLen;omega) hk
   have b1:min (k+1) x.stores.length=k+1:=by omega
   have m1:=ew (m:=k+1+1) (z:=48) (by omega) (by omega)
   simp only[jp,ht]
   generalize hT:List.take (k+1) _=T
   have hTl:T.length=k+1:=by rw[←hT];simp;omega
   rcases N0 with⟨q0,rfl⟩|⟨q0,rfl⟩
   ·simp only[q0]at ek
    simp[fm,hk,hx,ek,i1,i2,i3,i4,i5,i6,hTl,m1,q0]
    exact Kn.q [0,1,2,3,6]
   ·simp[fm,hk,hx,ek,i1,i2,i3,i4,i5,i6,hTl,m1]
    exact Kn.q [0,1,2,3,7]
 ·cases hq:x.stores with
  |nil=>simp[fm,jp,nd]
  |cons q qs=>
   have hT:(x.stores.map XStore.e).take (qs.length+1)=x.stores.map XStore.e:=Zt (by rw[hq];simp)
   rw[hq]at hT
   simp only[Zn,jp,hT]
   simp[fm,nd]
end Gi
namespace Gi
open Go Go.RowKit
set_option maxHeartbeats 8000000
set_option maxRecDepth 4000
attribute [local simp] start rB bj cf dG fp dF fo fx fw tJ tT tK tU tL tV tM tW tN tX tO tY tP tZ tQ t6 tR t7 V.cells plain bo gn isInt isStr isBool bin cC iT cD iU fq un asList L.view am V.view viewL aY ar cH bP bM comp aJ bH df bY bz bw bx bG bc ca aN bB aT aO bE cd bD bA bF V.flat L.flat dO di bv putAt thaw thawL thawT V.ow fv dK dL cE fu cF dJ freezeVs freezeLs freezeL V.mut L.mut aG ez ie aW bm aF dz bL bf bS L.ren aV dA ce dM bO bh wp_seq wp_block bt dP cI bR cJ wp_skip wp_exit wp_ret cA cy cP cB cW cX cV bX aM L.notArr aS aQ aR dN bp storeD aX fD br ct bd m9 L.mov L.closed V.closed PV.bare PV.flat
def BI (s:List UInt8):List Int:=(s.length:Int)::s.map fun b=>(b.toNat:Int)
def O4 (s:List UInt8)(k:Nat):List (List PV):=[.int .i64 (s.length:Nat)]::((s.take k).map fun b=>[PV.int .i64 b.toNat])
theorem Kb {s:List UInt8}{k:Nat}(h:k<s.length):O4 s (k+1)=O4 s k++[[.int .i64 s[k].toNat]]:=by
 unfold O4
 rw[Z5 h,List.map_append]
 rfl
theorem NO (s:List UInt8):O4 s s.length=(BI s).map oV:=by simp[O4,BI,oV]
theorem NP {s:List UInt8}{k:Nat}(h:k≤s.length):(O4 s k).length=k+1:=by simp[O4];omega
theorem JQ (b:UInt8):IntKind.i64.wrap (b.toNat:Int)=(b.toNat:Int):=by
 have:=b.toNat_lt
 rw[IntKind.wrap_i64];omega
theorem xt {s:List UInt8}{k:Nat}(h:k<s.length):(ag s)[k]? =some [.int .u8 s[k].toNat]:=by simp[ag,h]
theorem B1 {s:List UInt8}{k:Nat}(h:k<(ag s).length):(ag s)[k]=[.int .u8 (s[k]'(by simpa[ag]using h)).toNat]:=by simp[ag]
theorem vH {s:List UInt8}(hl:s.length≤1048576):ah Ph au 349 [ba (ag s)]=some (.one (.own 1 ((BI s).map oV))):=by
 refine ae (fn:=lu) rfl ?_
 simp +contextual (maxSteps:=9999999) [lu,ak]
 refine cO aU Cl.fin s.length [.f,.f,.f,.t,.f,.f,.f,.f,.f,.t,.t,.t,.f,.f,.f,.f,.f,.f,.f,.f,.f,.f] (fun k=>[(3, .one (.arr 0)),(11,aa .i64 k)]) (fun k=>[.arr 1 (O4 s k)]) rfl (by simp[O4]) (fun k hk=> ?_) ?_
 ·have ha:=xt hk
  have hu:=JQ s[k]
  have hb:=NP (Xc hk)
  have m1:=ew (m:=k+1+1) (z:=8) (by omega) (by omega)
  have hn:=Kb hk
  try dsimp only
  rw[hn]
  generalize O4 s k=W at hb⊢
  simp(maxSteps:=9999999) [gY,hk,ha,B1,hu,hb,m1,ak,aE (n:=s.length) (by unfold maxLen;omega) hk,aZ hk,-ez]
  exact Kn.of [2] (by decide) (by simp) (by simp)
 ·try dsimp only
  rw[NO]
  simp(maxSteps:=9999999) [gY,ak]
theorem rY {s:List UInt8}(hl:s.length≤1048576)(n:Int):ah Ph au 580 [aa .i64 n,ba (ag s)]=some (aa .i64 (ku (101::n::BI s))):=by
 have e1:=vH hl
 have hb:(BI s).length=s.length+1:=by simp[BI]
 have e2:=I5 (ns:=101::n::BI s) (by simp only[Zn,hb];unfold maxLen;omega)
 have w1:((BI s).map oV).all (fun e=>e.length==1)=true:=dQ (e:=oV) (z:=1) (fun _=>rfl) _
 have hm:((101:Int)::n::BI s).map oV=[.int .i64 101]::[.int .i64 n]::(BI s).map oV:=rfl
 rw[hm]at e2
 have m1:=ew (m:=2+(s.length+1)) (z:=8) (by omega) (by omega)
 have m2:=ew (m:=s.length+1+1+1) (z:=8) (by omega) (by omega)
 generalize hW:(BI s).map oV=W at e1 e2 w1
 have hb2:W.length=s.length+1:=by rw[←hW];simpa using hb
 refine ae (fn:=oA) rfl ?_
 simp +contextual (maxSteps:=9999999) [oA,e1,e2,w1,m1,m2,hb2]
theorem vT {s:List UInt8}(hl:s.length≤1048576):ah Ph au 345 [ba (ag s)]=some (.one (.own 1 ((BI s).map oV))):=by
 refine ae (fn:=lN) rfl ?_
 simp +contextual (maxSteps:=9999999) [lN,ak]
 refine cO aU Cl.fin s.length [.t,.f,.f,.t,.t,.f,.f,.f,.f,.f,.f,.f,.f,.f,.f,.f,.f,.f,.f,.f,.f,.f,.f] (fun k=>[(3, .one (.arr 0)),(4,aa .i64 k)]) (fun k=>[.arr 1 (O4 s k)]) rfl (by simp[O4]) (fun k hk=> ?_) ?_
 ·have ha:=xt hk
  have hu:=JQ s[k]
  have hb:=NP (Xc hk)
  have m1:=ew (m:=k+1+1) (z:=8) (by omega) (by omega)
  have hn:=Kb hk
  try dsimp only
  rw[hn]
  generalize O4 s k=W at hb⊢
  simp(maxSteps:=9999999) [hC,hk,ha,B1,hu,hb,m1,ak,aE (n:=s.length) (by unfold maxLen;omega) hk,aZ hk,-ez]
  exact Kn.of [2] (by decide) (by simp) (by simp)
 ·try dsimp only
  rw[NO]
  simp(maxSteps:=9999999) [hC,ak]
theorem sn {s:List UInt8}(hl:s.length≤1048576)(n:Int):ah Ph au 574 [aa .i64 n,ba (ag s)]=some (aa .i64 (ku (101::n::BI s))):=by
 have e1:=vT hl
 have hb:(BI s).length=s.length+1:=by simp[BI]
 have e2:=Ji (ns:=101::n::BI s) (by simp only[Zn,hb];unfold maxLen;omega)
 have w1:((BI s).map oV).all (fun e=>e.length==1)=true:=dQ (e:=oV) (z:=1) (fun _=>rfl) _
 have hm:((101:Int)::n::BI s).map oV=[.int .i64 101]::[.int .i64 n]::(BI s).map oV:=rfl
 rw[hm]at e2
 have m1:=ew (m:=2+(s.length+1)) (z:=8) (by omega) (by omega)
 have m2:=ew (m:=s.length+1+1+1) (z:=8) (by omega) (by omega)
 generalize hW:(BI s).map oV=W at e1 e2 w1
 have hb2:W.length=s.length+1:=by rw[←hW];simpa using hb
 refine ae (fn:=oM) rfl ?_
 simp +contextual (maxSteps:=9999999) [oM,e1,e2,w1,m1,m2,hb2]
theorem JV {call:Nat→List V→Option V}{Q:Ex→St→Prop}{ks:List Fr}(hc:qv call)(hQ:Cl Q){c:ACode}{t:List V}{h:List AObj}{α:Type}(m:List Mk)(U:α→List (Nat×V))(H:α→List AObj)(next:α→Option α)(μ:α→Nat)(I:α→Prop)(a0:α)(i0:I a0)(hz:(c.zOk&&kz ks)=true)(kn:Kn ⟨m5 (hX m t) (U a0),H a0⟩ ⟨t,h⟩)
 (st:∀a b,I a→next a=some b→μ b<μ a∧I b∧wp call (fun e τ=>e= .normal∧Kn ⟨m5 (hX m t) (U b),H b⟩ τ) [] (aq call aB c ⟨m5 (hX m t) (U a),H a⟩))
 (en:∀a,I a→next a=none→wp call Q (.sq tH::ks) (aq call aB c ⟨m5 (hX m t) (U a),H a⟩)):wp call Q ks (aq call aB (.loop c) ⟨t,h⟩):=by
 have key:∀n a,μ a≤n→I a→wp call Q ks (aq call aB (.loop c) ⟨m5 (hX m t) (U a),H a⟩):=by
  intro n
  induction n with
  |zero=>
   intro a hn ia
   cases q:next a with
   |none=>exact sf (en a ia q)
   |some b=>have:=(st a b ia q).1;omega
  |succ n ih=>
   intro a hn ia
   cases q:next a with
   |none=>exact sf (en a ia q)
   |some b=>
    obtain⟨h1,h2,h3⟩:=st a b ia q
    exact Bh hc hQ hz h3 (ih b (by omega) h2)
 have hz':kz (.sq (.loop c)::ks)=true:=by simpa only[kz,ACode.zOk]using hz
 exact JU hc hQ ⟨m5 (hX m t) (U a0),H a0⟩ hz' kn (key _ a0 (Zl _) i0)
theorem JR {n:Nat}(h:n<256):IntKind.u8.wrap (n:Int)=(n:Int)∧(UInt8.ofNat n).toNat=n:=by
 refine⟨?_,by simp;omega⟩
 simp[IntKind.wrap,IntKind.signed,IntKind.bits]
 omega
theorem QP {n:Nat}(h:n<4611686018427387904):IntKind.i64.wrap ((BitVec.ofInt IntKind.i64.bits (n:Int)&&&BitVec.ofInt IntKind.i64.bits 127).toNat:Int)=((n%128:Nat):Int):=by
 have e1:(BitVec.ofInt IntKind.i64.bits (n:Int)).toNat=n:=by
  show(BitVec.ofInt 64 (n:Int)).toNat=n
  simp[BitVec.toNat_ofInt];omega
 have e2:(BitVec.ofInt IntKind.i64.bits 127).toNat=127:=by decide
 rw[BitVec.toNat_and,e1,e2,show(127:Nat)=2^7-1 from rfl,Nat.and_two_pow_sub_one_eq_mod]
 rw[IntKind.wrap_i64];omega
theorem US {n:Nat}(h:n<128):IntKind.i64.wrap ((BitVec.ofInt IntKind.i64.bits (n:Int)|||BitVec.ofInt IntKind.i64.bits 128).toNat:Int)=((n+128:Nat):Int):=by
 have e1:(BitVec.ofInt IntKind.i64.bits (n:Int)).toNat=n:=by
  show(BitVec.ofInt 64 (n:Int)).toNat=n
  simp[BitVec.toNat_ofInt];omega
 have e2:(BitVec.ofInt IntKind.i64.bits 128).toNat=128:=by decide
 have e3:=Nat.two_pow_add_eq_or_of_lt (i:=7) (b:=n) (by omega) 1
 rw[BitVec.toNat_or,e1,e2,Nat.or_comm,show(128:Nat)=2^7*1 from rfl,←e3]
 rw[IntKind.wrap_i64];omega
theorem kh (s:List UInt8)(x:UInt8):ag (s++[x])=ag s++[[.int .u8 x.toNat]]:=by simp[ag]
def BD (a:Nat×Nat×List UInt8):Option (Nat×Nat×List UInt8):=if a.2.1<128 then none else match a.1 with
 |0=>none
 |f+1=>some (f,a.2.1/128,a.2.2++[UInt8.ofNat (a.2.1%128+128)])
def UX (b T:List UInt8)(a:Nat×Nat×List UInt8):Prop:=a.2.1<128^(a.1+1)∧a.2.2++JY (a.1+1) a.2.1=T∧a.2.2.length+a.1≤b.length+5∧a.2.1≤1000000000000
theorem Mb {b T:List UInt8}{f m:Nat}{o:List UInt8}{a':Nat×Nat×List UInt8}(ia:UX b T (f,m,o))(h:BD (f,m,o)=some a'):128≤m∧UX b T a'∧(a':Nat×Nat×List UInt8)=(f-1,m/128,o++[UInt8.ofNat (m%128+128)]):=by
 obtain⟨h1,h2,h3,h4⟩:=ia
 unfold BD at h
 simp only at h h1 h2 h3 h4
 split at h
 ·cases h
 ·rename_i hm
  cases f with
  |zero=>cases h
  |succ f=>
   cases h
   refine⟨by omega,⟨?_,?_,by simp;omega,by simp only;omega⟩,rfl⟩
   ·show m/128<128^(f+1)
    rw[Xm (by decide),←Nat.pow_succ];exact h1
   ·rw[←h2]
    show(o++[UInt8.ofNat (m%128+128)])++JY (f+1) (m/128)=o++JY (f+1+1) m
    rw[show JY (f+1+1) m=UInt8.ofNat (m%128+128)::JY (f+1) (m/128) by rw[JY,if_neg hm]]
    simp
theorem OM {b T:List UInt8}{f m:Nat}{o:List UInt8}(ia:UX b T (f,m,o))(h:BD (f,m,o)=none):m<128∧o++[UInt8.ofNat m]=T:=by
 obtain⟨h1,h2,_⟩:=ia
 unfold BD at h
 simp only at h h1 h2
 split at h
 ·rename_i hm
  exact⟨hm,by rw[←h2,JY,if_pos hm]⟩
 ·rename_i hm
  cases f with
  |zero=>simp at h1;omega
  |succ f=>cases h
theorem jz {b:List UInt8}(hb:b.length≤1048000){n:Nat}(hn:n≤1000000000000):ah Ph au 247 [ba (ag b),aa .i64 (n:Int)]=some (.one (.own 1 (ag (b++qO n)))):=by
 have e1:rg (n:Int) 0 1000000000000=true:=xx.2 ⟨by omega,by omega⟩
 have e2:=be (n:Int) 0 1000000000000
 rw[e1]at e2
 have e3:=fY (R:=ag b) ⟨ji b,dy b,by rw[ak];omega⟩
 refine ae (fn:=jQ) rfl ?_
 simp(maxSteps:=9999999) [jQ,e2,e3]
 refine JV aU Cl.fin [.f,.t,.f,.f,.f,.t,.f,.f,.f,.f,.f,.f,.f,.f,.f,.f,.f,.f,.f,.f,.f,.f,.f,.f,.f,.f,.f,.f] (fun a=>[(1,aa .i64 (a.2.1:Nat)),(5, .one (.arr 0))]) (fun a=>[.arr 1 (ag a.2.2)]) BD (fun a=>a.2.1) (UX b (b++qO n)) (5,n,b) ⟨by show n<128^6;omega,rfl,by simp,hn⟩ rfl (by simp) (fun a a' ia ha=> ?_) (fun a ia ha=> ?_)
 ·obtain⟨f,m,o⟩:=a
  obtain⟨hm,hi,rfl⟩:=Mb ia ha
  obtain⟨_,_,hl,hmx⟩:=ia
  simp only at hl hmx
  have hlt:cQ (m:Int) 128=false:=kQ (by omega)
  have hlt2:cQ 127 (m:Int)=true:=hY (by omega)
  have q:=JR (n:=m%128+128) (by omega)
  have m1:o.length≤140737488355327∧o.length≤9223372036854775806:=by omega
  have m2:=ew (m:=o.length+1) (z:=1) (by omega) (by omega)
  have r1:(m:Int).tmod 128=(m:Int)%128:=Int.tmod_eq_emod_of_nonneg (by omega)
  have r2:(m:Int).tdiv 128=(m:Int)/128:=Int.tdiv_eq_ediv_of_nonneg (by omega)
  have r3:IntKind.i64.wrap ((m:Int)%128+128)=(m:Int)%128+128:=by rw[IntKind.wrap_i64];omega
  have r4:IntKind.i64.wrap ((m:Int)/128)=(m:Int)/128:=by rw[IntKind.wrap_i64];omega
  have r5:IntKind.u8.wrap ((m:Int)%128+128)=(m:Int)%128+128:=by have:=q.1;simpa using this
  have r6:((m:Int)%128+128)%256=(m:Int)%128+128:=by omega
  refine⟨by show m/128<m;omega,hi,?_⟩
  simp(maxSteps:=9999999) [gq,hlt,hlt2,r1,r2,r3,r4,r5,m1,m2,kh,ak,-ez]
  exact Kn.of [2] (by decide) (by simp[kh,r5,r6]) (by simp[r4])
 ·obtain⟨f,m,o⟩:=a
  obtain⟨hm,hi⟩:=OM ia ha
  obtain⟨_,_,hl,hmx⟩:=ia
  simp only at hl hmx
  have hlt:cQ (m:Int) 128=true:=hY (by omega)
  have hlt2:cQ 127 (m:Int)=false:=kQ (by omega)
  have q:=JR (n:=m) (by omega)
  have m1:o.length≤140737488355327∧o.length≤9223372036854775806:=by omega
  have m2:=ew (m:=o.length+1) (z:=1) (by omega) (by omega)
  rw[←hi]
  simp(maxSteps:=9999999) [gq,hlt,hlt2,q,m1,m2,kh,ak]
theorem Vv (m:Nat):jN .shr .i64 (m:Int) 7=some (aa .i64 ((m:Int)/128)):=by
 have e:(min (Int.toNat 7) IntKind.i64.bits)=7:=by decide
 simp only[jN]
 rw[if_neg (by omega)]
 simp only[e]
 rw[show((2:Int)^7)=128 by decide,Int.fdiv_eq_ediv_of_nonneg _ (by omega)]
theorem jB {b:List UInt8}(hb:b.length≤1048000){n:Nat}(hn:n≤1000000000000):ah Ph au 244 [ba (ag b),aa .i64 (n:Int)]=some (.one (.own 1 (ag (b++qO n)))):=by
 have e1:rg (n:Int) 0 1000000000000=true:=xx.2 ⟨by omega,by omega⟩
 have e2:=bK (n:Int) 0 1000000000000
 rw[e1]at e2
 have w1:=dy b
 have m0:b.length≤140737488355328∧b.length≤9223372036854775807:=by omega
 refine ae (fn:=jT) rfl ?_
 simp(maxSteps:=9999999) [jT,e2,w1,m0,ak]
 refine JV aU Cl.fin [.f,.t,.f,.f,.f,.t,.f,.f,.f,.f,.f,.f,.f,.f,.f,.f,.f,.f,.f,.f,.f,.f,.f,.f,.f,.f,.f,.f,.f] (fun a=>[(1,aa .i64 (a.2.1:Nat)),(5, .one (.arr 0))]) (fun a=>[.arr 1 (ag a.2.2)]) BD (fun a=>a.2.1) (UX b (b++qO n)) (5,n,b) ⟨by show n<128^6;omega,rfl,by simp,hn⟩ rfl (Kn.of [1] (by decide) (by simp) (by simp)) (fun a a' ia ha=> ?_) (fun a ia ha=> ?_)
 ·obtain⟨f,m,o⟩:=a
  obtain⟨hm,hi,rfl⟩:=Mb ia ha
  obtain⟨_,_,hl,hmx⟩:=ia
  simp only at hl hmx
  have hlt:cQ (m:Int) 128=false:=kQ (by omega)
  have hlt2:cQ 127 (m:Int)=true:=hY (by omega)
  have q:=JR (n:=m%128+128) (by omega)
  have m1:o.length≤140737488355327∧o.length≤9223372036854775806:=by omega
  have m2:=ew (m:=o.length+1) (z:=1) (by omega) (by omega)
  have r1:=QP (n:=m) (by omega)
  have r2:=Vv m
  have r3:=US (n:=m%128) (by omega)
  have e:((m%128:Nat):Int)=(m:Int)%128:=by omega
  have e':((m%128+128:Nat):Int)=(m:Int)%128+128:=by omega
  rw[e]at r1 r3
  rw[e']at r3
  have r4:IntKind.i64.wrap ((m:Int)/128)=(m:Int)/128:=by rw[IntKind.wrap_i64];omega
  have r5:IntKind.u8.wrap ((m:Int)%128+128)=(m:Int)%128+128:=by have:=q.1;simpa using this
  have r6:((m:Int)%128+128)%256=(m:Int)%128+128:=by omega
  refine⟨by show m/128<m;omega,hi,?_⟩
  simp(maxSteps:=9999999) [gr,hlt,hlt2, ↓r1,r2, ↓r3,r4,r5,m1,m2,kh,ak,-ez]
  exact Kn.of [2] (by decide) (by simp[kh,r5,r6]) (by simp[r4])
 ·obtain⟨f,m,o⟩:=a
  obtain⟨hm,hi⟩:=OM ia ha
  obtain⟨_,_,hl,hmx⟩:=ia
  simp only at hl hmx
  have hlt:cQ (m:Int) 128=true:=hY (by omega)
  have hlt2:cQ 127 (m:Int)=false:=kQ (by omega)
  have q:=JR (n:=m) (by omega)
  have m1:o.length≤140737488355327∧o.length≤9223372036854775806:=by omega
  have m2:=ew (m:=o.length+1) (z:=1) (by omega) (by omega)
  rw[←hi]
  simp(maxSteps:=9999999) [gr,hlt,hlt2,q,m1,m2,kh,ak]
theorem BX (s u:List UInt8):ag (s++u)=ag s++ag u:=by simp[ag]
theorem vG {b s:List UInt8}(hb:b.length≤1048000)(hs:s.length≤1048576):ah Ph au 248 [ba (ag b),ba (ag s)]=some (.one (.own 1 (ag (b++Gq s)))):=by
 have e1:=jz hb (n:=s.length) (by omega)
 have w1:=dy s
 have hl:=tm s.length
 have m1:b.length+(qO s.length).length+s.length≤140737488355328∧b.length+(qO s.length).length+s.length≤9223372036854775807:=by omega
 rw[show b++Gq s=(b++qO s.length)++s by simp[Gq]]
 have e:ag ((b++qO s.length)++s)=ag (b++qO s.length)++ag s:=BX _ _
 rw[e]
 refine ae (fn:=lq) rfl ?_
 simp(maxSteps:=9999999) [lq,e1,w1,m1,ak]
theorem vS {b s:List UInt8}(hb:b.length≤1048000)(hs:s.length≤1048576):ah Ph au 245 [ba (ag b),ba (ag s)]=some (.one (.own 1 (ag (b++Gq s)))):=by
 have e1:=jB hb (n:=s.length) (by omega)
 have w1:=dy s
 have hl:=tm s.length
 have m1:b.length+(qO s.length).length+s.length≤140737488355328∧b.length+(qO s.length).length+s.length≤9223372036854775807:=by omega
 rw[show b++Gq s=(b++qO s.length)++s by simp[Gq]]
 have e:ag ((b++qO s.length)++s)=ag (b++qO s.length)++ag s:=BX _ _
 rw[e]
 refine ae (fn:=lM) rfl ?_
 simp(maxSteps:=9999999) [lM,e1,w1,m1,ak]
end Gi
