/- Of this proof. -/
import Derived.Test.YtebnmoogdmpepaaGreatGzc
import Derived.Test.YtebnmoogdmpepaaGreatGkd
import Derived.Test.YtebnmoogdmpepaaGreatGxt
set_option linter.unusedSimpArgs false
set_option linter.unusedVariables false
namespace Gi
open Go Go.RowKit
set_option maxHeartbeats 8000000
set_option maxRecDepth 4000
attribute [local simp] start ah aJ bf bJ cI Opd.ev put V.cells plain bA fR isInt isStr isBool bin cK qh qg un asList L.view aj V.view viewL aW am cF bS comp aQ bI cH bP bq bo bp aC aq aY al aB aI au bi bF aE br bt V.flat L.flat db da bB putAt thaw thawL thawT freezeVs freezeLs freezeL V.mut L.mut aH aP dg bW dq bU bH wp_seq wp_block qb wp_cond wp_skip wp_exit wp_ret ct cr cz cu cC cD cB bO aF L.notArr aU aS aT eV bz storeD bc eP bu co ba k8 L.mov L.closed V.closed PV.bare PV.flat
theorem cy {s:List UInt8}:(ar s).length=s.length:=by simp[ar]
structure Flat (z:Nat) (R:List (List PV)):Prop where
 flat:nu R=true
 wid:(R.all fun r=>r.length==z)=true
 len:R.length≤1048576
theorem ny {R:List (List PV)}(h:Flat 1 R):ag Ph aM 261 [cA R]=some (.one (.down 1 R)):=by
 have hf:=h.flat
 have hw:=h.wid
 have m:=eR (m:=R.length) (z:=1) (by have:=h.len;omega) (by omega)
 rw[Nat.mul_one]at m
 refine ae (fn:=nX) rfl ?_
 simp[nX,hf,hw,m]
theorem Ag {R:List (List PV)}(h:Flat 4 R):ag Ph aM 489 [cA R]=some (.one (.down 4 R)):=by
 have hf:=h.flat
 have hw:=h.wid
 have m:=eR (m:=R.length) (z:=40) (by have:=h.len;omega) (by omega)
 refine ae (fn:=ol) rfl ?_
 simp[ol,hf,hw,m]
theorem mF {B:Nat}(hB:B≤1048576){x:XRecord}(h:x.Ok B):ag Ph aM 242 [.agg [.pv (.lst (x.fs.map XField.e))]]=some (.agg [.down 2 (x.fs.map XField.e)]):=by
 have h_fs:=h
 have F0:Flat 2 (x.fs.map XField.e):=⟨eL (e:=XField.e) (fun _=>rfl) _,dC (e:=XField.e) (z:=2) (fun _=>rfl) _,by rw[Zt];have:=h_fs.1;omega⟩
 have hf0:=F0.flat
 have hw0:=F0.wid
 have m0:=eR (m:=(x.fs.map XField.e).length) (z:=24) (by have:=F0.len;omega) (by omega)
 generalize (x.fs.map XField.e)=R0 at F0 hf0 hw0 m0⊢
 refine ae (fn:=na) rfl ?_
 simp[na,hf0,hw0,m0]
theorem qZ {B:Nat}(hB:B≤1048576){x:XRecord}(h:x.Ok B):ag Ph aM 239 [.agg [.pv (.lst (x.fs.map XField.e))]]=some (.agg [.down 2 (x.fs.map XField.e)]):=by
 have h_fs:=h
 have F0:Flat 2 (x.fs.map XField.e):=⟨eL (e:=XField.e) (fun _=>rfl) _,dC (e:=XField.e) (z:=2) (fun _=>rfl) _,by rw[Zt];have:=h_fs.1;omega⟩
 have hf0:=F0.flat
 have hw0:=F0.wid
 have m0:=eR (m:=(x.fs.map XField.e).length) (z:=24) (by have:=F0.len;omega) (by omega)
 generalize (x.fs.map XField.e)=R0 at F0 hf0 hw0 m0⊢
 refine ae (fn:=sC) rfl ?_
 simp[sC,hf0,hw0,m0]
theorem tg {B:Nat}(hB:B≤1048576){x:XItem}(h:x.Ok B):ag Ph aM 218 [.agg [.pv (.int .i64 x.key.kind), .pv (.int .i64 x.key.n), .pv (.str x.key.text), .pv (.lst (x.rcd.fs.map XField.e))]]=some (.agg [.pv (.int .i64 x.key.kind), .pv (.int .i64 x.key.n), .pv (.str x.key.text), .down 2 (x.rcd.fs.map XField.e)]):=by
 obtain⟨h_key,h_rcd⟩:=h
 have c0:=mF hB h_rcd
 refine ae (fn:=oZ) rfl ?_
 simp[oZ,c0]
theorem vL {B:Nat}(hB:B≤1048576){x:XItem}(h:x.Ok B):ag Ph aM 214 [.agg [.pv (.int .i64 x.key.kind), .pv (.int .i64 x.key.n), .pv (.str x.key.text), .pv (.lst (x.rcd.fs.map XField.e))]]=some (.agg [.pv (.int .i64 x.key.kind), .pv (.int .i64 x.key.n), .pv (.str x.key.text), .down 2 (x.rcd.fs.map XField.e)]):=by
 obtain⟨h_key,h_rcd⟩:=h
 have c0:=qZ hB h_rcd
 refine ae (fn:=sE) rfl ?_
 simp[sE,c0]
theorem wL {B:Nat}(hB:B≤1048576){x:XMachine}(h:x.Ok B):ag Ph aM 493 [.agg [.pv (.lst (x.script.map XInstr.e)), .pv (.int .i64 x.pc), .pv (.lst (x.regs.map wD)), .pv (.int .i64 x.steps), .pv (.bool x.done), .pv (.bool x.wait)]]=some (.agg [.down 4 (x.script.map XInstr.e), .pv (.int .i64 x.pc), .down 1 (x.regs.map wD), .pv (.int .i64 x.steps), .pv (.bool x.done), .pv (.bool x.wait)]):=by
 obtain⟨h_script,h_pc,h_regs,h_steps⟩:=h
 have F0:Flat 4 (x.script.map XInstr.e):=⟨eL (e:=XInstr.e) (fun _=>rfl) _,dC (e:=XInstr.e) (z:=4) (fun _=>rfl) _,by rw[Zt];have:=h_script.1;omega⟩
 have hf0:=F0.flat
 have hw0:=F0.wid
 have m0:=eR (m:=(x.script.map XInstr.e).length) (z:=40) (by have:=F0.len;omega) (by omega)
 generalize (x.script.map XInstr.e)=R0 at F0 hf0 hw0 m0⊢
 have F1:Flat 1 (x.regs.map wD):=⟨eL (e:=wD) (fun _=>rfl) _,dC (e:=wD) (z:=1) (fun _=>rfl) _,by rw[Zt];have:=h_regs.1;omega⟩
 have hf1:=F1.flat
 have hw1:=F1.wid
 have m1:=eR (m:=(x.regs.map wD).length) (z:=8) (by have:=F1.len;omega) (by omega)
 generalize (x.regs.map wD)=R1 at F1 hf1 hw1 m1⊢
 refine ae (fn:=ml) rfl ?_
 simp[ml,hf0,hw0,m0,hf1,hw1,m1]
theorem DB {B:Nat}(hB:B≤1048576){x:XMachine}(h:x.Ok B):ag Ph aM 477 [.agg [.pv (.lst (x.script.map XInstr.e)), .pv (.int .i64 x.pc), .pv (.lst (x.regs.map wD)), .pv (.int .i64 x.steps), .pv (.bool x.done), .pv (.bool x.wait)]]=some (.agg [.down 4 (x.script.map XInstr.e), .pv (.int .i64 x.pc), .down 1 (x.regs.map wD), .pv (.int .i64 x.steps), .pv (.bool x.done), .pv (.bool x.wait)]):=by
 obtain⟨h_script,h_pc,h_regs,h_steps⟩:=h
 have c0:=Ag (R:=(x.script.map XInstr.e)) ⟨eL (fun _=>rfl) _,dC (z:=4) (fun _=>rfl) _,by rw[Zt];have:=h_script.1;omega⟩
 have F0:Flat 1 (x.regs.map wD):=⟨eL (e:=wD) (fun _=>rfl) _,dC (e:=wD) (z:=1) (fun _=>rfl) _,by rw[Zt];have:=h_regs.1;omega⟩
 have hf0:=F0.flat
 have hw0:=F0.wid
 have m0:=eR (m:=(x.regs.map wD).length) (z:=8) (by have:=F0.len;omega) (by omega)
 generalize (x.regs.map wD)=R0 at F0 hf0 hw0 m0⊢
 refine ae (fn:=qy) rfl ?_
 simp[qy,c0,hf0,hw0,m0]
theorem By {B:Nat}(hB:B≤1048576){x:XPage}(h:x.Ok B):ag Ph aM 479 [.agg [.pv (.int .i64 x.id), .pv (.str x.site), .pv (.str x.top), .pv (.int .i64 x.version), .pv (.lst (x.loaded.map XLoaded.e)), .pv (.lst (x.machine.script.map XInstr.e)), .pv (.int .i64 x.machine.pc), .pv (.lst (x.machine.regs.map wD)), .pv (.int .i64 x.machine.steps), .pv (.bool x.machine.done), .pv (.bool x.machine.wait)]]=some (.agg [.pv (.int .i64 x.id), .pv (.str x.site), .pv (.str x.top), .pv (.int .i64 x.version), .down 2 (x.loaded.map XLoaded.e), .down 4 (x.machine.script.map XInstr.e), .pv (.int .i64 x.machine.pc), .down 1 (x.machine.regs.map wD), .pv (.int .i64 x.machine.steps), .pv (.bool x.machine.done), .pv (.bool x.machine.wait)]):=by
 obtain⟨h_id,h_site,h_top,h_version,h_loaded,h_machine⟩:=h
 have c0:=wL hB h_machine
 have F0:Flat 2 (x.loaded.map XLoaded.e):=⟨eL (e:=XLoaded.e) (fun _=>rfl) _,dC (e:=XLoaded.e) (z:=2) (fun _=>rfl) _,by rw[Zt];have:=h_loaded.1;omega⟩
 have hf0:=F0.flat
 have hw0:=F0.wid
 have m0:=eR (m:=(x.loaded.map XLoaded.e).length) (z:=24) (by have:=F0.len;omega) (by omega)
 generalize (x.loaded.map XLoaded.e)=R0 at F0 hf0 hw0 m0⊢
 refine ae (fn:=o7) rfl ?_
 simp[o7,c0,hf0,hw0,m0]
theorem DF {B:Nat}(hB:B≤1048576){x:XPage}(h:x.Ok B):ag Ph aM 451 [.agg [.pv (.int .i64 x.id), .pv (.str x.site), .pv (.str x.top), .pv (.int .i64 x.version), .pv (.lst (x.loaded.map XLoaded.e)), .pv (.lst (x.machine.script.map XInstr.e)), .pv (.int .i64 x.machine.pc), .pv (.lst (x.machine.regs.map wD)), .pv (.int .i64 x.machine.steps), .pv (.bool x.machine.done), .pv (.bool x.machine.wait)]]=some (.agg [.pv (.int .i64 x.id), .pv (.str x.site), .pv (.str x.top), .pv (.int .i64 x.version), .down 2 (x.loaded.map XLoaded.e), .down 4 (x.machine.script.map XInstr.e), .pv (.int .i64 x.machine.pc), .down 1 (x.machine.regs.map wD), .pv (.int .i64 x.machine.steps), .pv (.bool x.machine.done), .pv (.bool x.machine.wait)]):=by
 obtain⟨h_id,h_site,h_top,h_version,h_loaded,h_machine⟩:=h
 have c0:=DB hB h_machine
 have F0:Flat 2 (x.loaded.map XLoaded.e):=⟨eL (e:=XLoaded.e) (fun _=>rfl) _,dC (e:=XLoaded.e) (z:=2) (fun _=>rfl) _,by rw[Zt];have:=h_loaded.1;omega⟩
 have hf0:=F0.flat
 have hw0:=F0.wid
 have m0:=eR (m:=(x.loaded.map XLoaded.e).length) (z:=24) (by have:=F0.len;omega) (by omega)
 generalize (x.loaded.map XLoaded.e)=R0 at F0 hf0 hw0 m0⊢
 refine ae (fn:=qC) rfl ?_
 simp[qC,c0,hf0,hw0,m0]
def gW (b0 b1:AObj)(y0:L)(y2:L)(rows:List (List PV)):Nat→List AObj
 |0=>[b0,b1, .box [y0, .nil,y2]]
 |k+1=>[b0,b1, .box [y0, .arr 3,y2], .darr 4 (rows.take (k+1))]
theorem gu {B:Nat}(hB:B≤1048576){x:XStore}(h:x.Ok B):ag Ph aM 191 [.agg [.pv (.str x.name), .pv (.lst (x.items.map XItem.e)), .pv (.int .i64 x.auto)]]=some (.agg [.pv (.str x.name),nd 4 (x.items.map XItem.e), .pv (.int .i64 x.auto)]):=by
 obtain⟨h_name,h_items,h_auto⟩:=h
 have e1:∀k(hk:k<x.items.length),_:=fun k hk=>tg hB (h_items.2 _ (Zf hk))
 have hl:x.items.length≤1048576:=Zc h_items.1 hB
 refine ae (fn:=n5) rfl ?_
 simp[n5]
 refine dD bm Cl.fin x.items.length [.f,.f,.t,.t,.f,.f,.f,.f,.f,.f,.f,.f,.t,.t,.t,.f,.f,.f,.f,.f,.f,.f,.f,.f,.f,.f,.f] (fun k=>[(14,aa .i64 k)]) (gW (.box [.pv (.str x.name), .pv (.lst (x.items.map XItem.e)), .pv (.int .i64 x.auto)]) (.box [.pv (.str []), .nil, .pv (.int .i64 0)]) (.pv (.str x.name)) (.pv (.int .i64 x.auto)) (x.items.map XItem.e)) rfl ?_ ?_ ?_
 ·exact Kn.q [0,1,2] (by simp[gW,aU,aS,aT,eV,bz,aZ,bC,aN,dv,bR,bj,bV,L.ren,aI])
 ·intro k hk
  have ek:=e1 k hk
  have hx:=XItem.e.eq_1 x.items[k]
  have ht:=de (e:=XItem.e) hk
  rw[hx]at ht
  cases k with
  |zero=>
   simp only[gW,ht]
   simp[fO,hk,hx,ek,df]
   exact Kn.q [0,1,2,6]
  |succ k=>
   obtain⟨i1,i2,i3,i4,i5,i6⟩:=oJ (n:=x.items.length) (by unfold maxLen;omega) hk
   have b1:min (k+1) x.items.length=k+1:=by omega
   have m1:=eR (m:=k+1+1) (z:=56) (by omega) (by omega)
   simp only[gW,ht]
   generalize hT:List.take (k+1) _=T
   have hTl:T.length=k+1:=by rw[←hT];simp;omega
   simp[fO,hk,hx,ek,i1,i2,i3,i4,i5,i6,hTl,m1]
   exact Kn.q [0,1,2,7]
 ·cases hq:x.items with
  |nil=>simp[fO,gW,nd]
  |cons q qs=>
   have hT:(x.items.map XItem.e).take (qs.length+1)=x.items.map XItem.e:=Zs (by rw[hq];simp)
   rw[hq]at hT
   simp only[Zo,gW,hT]
   simp[fO,nd]
def jJ (b0 b1:AObj)(y0:L)(y2:L)(rows:List (List PV)):Nat→List AObj
 |0=>[b0,b1, .box [y0, .nil,y2]]
 |k+1=>[b0,b1, .box [y0, .arr 3,y2], .darr 4 (rows.take (k+1))]
theorem jh {B:Nat}(hB:B≤1048576){x:XStore}(h:x.Ok B):ag Ph aM 187 [.agg [.pv (.str x.name), .pv (.lst (x.items.map XItem.e)), .pv (.int .i64 x.auto)]]=some (.agg [.pv (.str x.name),nd 4 (x.items.map XItem.e), .pv (.int .i64 x.auto)]):=by
 obtain⟨h_name,h_items,h_auto⟩:=h
 have e1:∀k(hk:k<x.items.length),_:=fun k hk=>vL hB (h_items.2 _ (Zf hk))
 have hl:x.items.length≤1048576:=Zc h_items.1 hB
 refine ae (fn:=sD) rfl ?_
 simp[sD]
 refine dD bm Cl.fin x.items.length [.f,.t,.t,.t,.t,.f,.f,.f,.f,.f,.f,.f,.f,.f,.f,.f,.f,.f,.f,.f,.f,.f,.f,.f,.f,.f,.f,.f,.f] (fun k=>[(4,aa .i64 k)]) (jJ (.box [.pv (.str x.name), .pv (.lst (x.items.map XItem.e)), .pv (.int .i64 x.auto)]) (.box [.pv (.str []), .nil, .pv (.int .i64 0)]) (.pv (.str x.name)) (.pv (.int .i64 x.auto)) (x.items.map XItem.e)) rfl ?_ ?_ ?_
 ·exact Kn.q [0,1,2] (by simp[jJ,aU,aS,aT,eV,bz,aZ,bC,aN,dv,bR,bj,bV,L.ren,aI])
 ·intro k hk
  have ek:=e1 k hk
  have hx:=XItem.e.eq_1 x.items[k]
  have ht:=de (e:=XItem.e) hk
  rw[hx]at ht
  cases k with
  |zero=>
   simp only[jJ,ht]
   simp[ie,hk,hx,ek,df]
   exact Kn.q [0,1,2,5]
  |succ k=>
   obtain⟨i1,i2,i3,i4,i5,i6⟩:=oJ (n:=x.items.length) (by unfold maxLen;omega) hk
   have b1:min (k+1) x.items.length=k+1:=by omega
   have m1:=eR (m:=k+1+1) (z:=56) (by omega) (by omega)
   simp only[jJ,ht]
   generalize hT:List.take (k+1) _=T
   have hTl:T.length=k+1:=by rw[←hT];simp;omega
   simp[ie,hk,hx,ek,i1,i2,i3,i4,i5,i6,hTl,m1]
   exact Kn.q [0,1,2,6]
 ·cases hq:x.items with
  |nil=>simp[ie,jJ,nd]
  |cons q qs=>
   have hT:(x.items.map XItem.e).take (qs.length+1)=x.items.map XItem.e:=Zs (by rw[hq];simp)
   rw[hq]at hT
   simp only[Zo,jJ,hT]
   simp[ie,nd]
def fA (b0 b1:AObj)(nm:List UInt8)(ver:Int)(U rows:List (List PV)):Nat→List AObj
 |0=>[b0,b1, .box [.pv (.str nm), .pv (.int .i64 ver), .nil, .arr 3], .darr 2 U]
 |k+1=>[b0,b1, .box [.pv (.str nm), .pv (.int .i64 ver), .arr 4, .arr 3], .darr 2 U, .darr 3 (rows.take (k+1))]
theorem vk {B:Nat}(hB:B≤1048576){x:XDatabase}(h:x.Ok B):ag Ph aM 498 [.agg [.pv (.str x.name), .pv (.int .i64 x.version), .pv (.lst (x.stores.map XStore.e)), .pv (.lst (x.unique.map XIndexDef.e))]]=some (.agg [.pv (.str x.name), .pv (.int .i64 x.version),nd 3 (x.stores.map XStore.e), .down 2 (x.unique.map XIndexDef.e)]):=by
 obtain⟨h_name,h_version,h_stores,h_unique⟩:=h
 have F0:Flat 2 (x.unique.map XIndexDef.e):=⟨eL (e:=XIndexDef.e) (fun _=>rfl) _,dC (e:=XIndexDef.e) (z:=2) (fun _=>rfl) _,by rw[Zt];have:=h_unique.1;omega⟩
 have hf0:=F0.flat
 have hw0:=F0.wid
 have m0:=eR (m:=(x.unique.map XIndexDef.e).length) (z:=32) (by have:=F0.len;omega) (by omega)
 generalize (x.unique.map XIndexDef.e)=R0 at F0 hf0 hw0 m0⊢
 have e1:∀k(hk:k<x.stores.length),_:=fun k hk=>gu hB (h_stores.2 _ (Zf hk))
 have hl:x.stores.length≤1048576:=Zc h_stores.1 hB
 refine ae (fn:=lq) rfl ?_
 simp[lq,hf0,hw0,m0]
 refine dD bm Cl.fin x.stores.length [.f,.f,.t,.t,.f,.f,.f,.f,.f,.f,.f,.f,.f,.f,.f,.f,.t,.t,.t,.f,.f,.f,.f,.f,.f,.f,.f,.f,.f,.f,.f] (fun k=>[(18,aa .i64 k)]) (fA (.box [.pv (.str x.name), .pv (.int .i64 x.version), .pv (.lst (x.stores.map XStore.e)), .pv (.lst R0)]) (.box [.pv (.str []), .pv (.int .i64 0), .nil, .nil]) x.name x.version R0 (x.stores.map XStore.e)) rfl ?_ ?_ ?_
 ·exact Kn.q [0,1,2,3] (by simp[fA,aU,aS,aT,eV,bz,aZ,bC,aN,dv,bR,bj,bV,L.ren,aI])
 ·intro k hk
  have ek:=e1 k hk
  have hx:=XStore.e.eq_1 x.stores[k]
  have ht:=de (e:=XStore.e) hk
  rw[hx]at ht
  have N0:=dM 4 (x.stores[k].items.map XItem.e)
  generalize nd 4 (x.stores[k].items.map XItem.e)=n0 at N0 ek
  cases k with
  |zero=>
   simp only[fA,ht]
   rcases N0 with⟨q0,rfl⟩|⟨q0,rfl⟩
   ·simp only[q0]at ek
    simp[dG,hk,hx,ek,df,q0]
    exact Kn.q [0,1,2,3,6]
   ·simp[dG,hk,hx,ek,df]
    exact Kn.q [0,1,2,3,7]
  |succ k=>
   obtain⟨i1,i2,i3,i4,i5,i6⟩:=oJ (n:=x.stores.length) (by unfold maxLen;omega) hk
   have b1:min (k+1) x.stores.length=k+1:=by omega
   have m1:=eR (m:=k+1+1) (z:=48) (by omega) (by omega)
   simp only[fA,ht]
   generalize hT:List.take (k+1) _=T
   have hTl:T.length=k+1:=by rw[←hT];simp;omega
   rcases N0 with⟨q0,rfl⟩|⟨q0,rfl⟩
   ·simp only[q0]at ek
    simp[dG,hk,hx,ek,i1,i2,i3,i4,i5,i6,hTl,m1,q0]
    exact Kn.q [0,1,2,3,7]
   ·simp[dG,hk,hx,ek,i1,i2,i3,i4,i5,i6,hTl,m1]
    exact Kn.q [0,1,2,3,8]
 ·cases hq:x.stores with
  |nil=>simp[dG,fA,nd]
  |cons q qs=>
   have hT:(x.stores.map XStore.e).take (qs.length+1)=x.stores.map XStore.e:=Zs (by rw[hq];simp)
   rw[hq]at hT
   simp only[Zo,fA,hT]
   simp[dG,nd]
def jK (b0 b1:AObj)(nm:List UInt8)(ver:Int)(U rows:List (List PV)):Nat→List AObj
 |0=>[b0,b1, .box [.pv (.str nm), .pv (.int .i64 ver), .nil, .arr 3], .darr 2 U]
 |k+1=>[b0,b1, .box [.pv (.str nm), .pv (.int .i64 ver), .arr 4, .arr 3], .darr 2 U, .darr 3 (rows.take (k+1))]
theorem Gf {B:Nat}(hB:B≤1048576){x:XDatabase}(h:x.Ok B):ag Ph aM 496 [.agg [.pv (.str x.name), .pv (.int .i64 x.version), .pv (.lst (x.stores.map XStore.e)), .pv (.lst (x.unique.map XIndexDef.e))]]=some (.agg [.pv (.str x.name), .pv (.int .i64 x.version),nd 3 (x.stores.map XStore.e), .down 2 (x.unique.map XIndexDef.e)]):=by
 obtain⟨h_name,h_version,h_stores,h_unique⟩:=h
 have F0:Flat 2 (x.unique.map XIndexDef.e):=⟨eL (e:=XIndexDef.e) (fun _=>rfl) _,dC (e:=XIndexDef.e) (z:=2) (fun _=>rfl) _,by rw[Zt];have:=h_unique.1;omega⟩
 have hf0:=F0.flat
 have hw0:=F0.wid
 have m0:=eR (m:=(x.unique.map XIndexDef.e).length) (z:=32) (by have:=F0.len;omega) (by omega)
 generalize (x.unique.map XIndexDef.e)=R0 at F0 hf0 hw0 m0⊢
 have e1:∀k(hk:k<x.stores.length),_:=fun k hk=>jh hB (h_stores.2 _ (Zf hk))
 have hl:x.stores.length≤1048576:=Zc h_stores.1 hB
 refine ae (fn:=sG) rfl ?_
 simp[sG,hf0,hw0,m0]
 refine dD bm Cl.fin x.stores.length [.f,.t,.t,.t,.t,.f,.f,.f,.f,.f,.f,.f,.f,.f,.f,.f,.f,.f,.f,.f,.f,.f,.f,.f,.f,.f,.f,.f,.f,.f,.f,.f,.f] (fun k=>[(4,aa .i64 k)]) (jK (.box [.pv (.str x.name), .pv (.int .i64 x.version), .pv (.lst (x.stores.map XStore.e)), .pv (.lst R0)]) (.box [.pv (.str []), .pv (.int .i64 0), .nil, .nil]) x.name x.version R0 (x.stores.map XStore.e)) rfl ?_ ?_ ?_
 ·exact Kn.q [0,1,2,3] (by simp[jK,aU,aS,aT,eV,bz,aZ,bC,aN,dv,bR,bj,bV,L.ren,aI])
 ·intro k hk
  have ek:=e1 k hk
  have hx:=XStore.e.eq_1 x.stores[k]
  have ht:=de (e:=XStore.e) hk
  rw[hx]at ht
  have N0:=dM 4 (x.stores[k].items.map XItem.e)
  generalize nd 4 (x.stores[k].items.map XItem.e)=n0 at N0 ek
  cases k with
  |zero=>
   simp only[jK,ht]
   rcases N0 with⟨q0,rfl⟩|⟨q0,rfl⟩
   ·simp only[q0]at ek
    simp[fB,hk,hx,ek,df,q0]
    exact Kn.q [0,1,2,3,5]
   ·simp[fB,hk,hx,ek,df]
    exact Kn.q [0,1,2,3,6]
  |succ k=>
   obtain⟨i1,i2,i3,i4,i5,i6⟩:=oJ (n:=x.stores.length) (by unfold maxLen;omega) hk
   have b1:min (k+1) x.stores.length=k+1:=by omega
   have m1:=eR (m:=k+1+1) (z:=48) (by omega) (by omega)
   simp only[jK,ht]
   generalize hT:List.take (k+1) _=T
   have hTl:T.length=k+1:=by rw[←hT];simp;omega
   rcases N0 with⟨q0,rfl⟩|⟨q0,rfl⟩
   ·simp only[q0]at ek
    simp[fB,hk,hx,ek,i1,i2,i3,i4,i5,i6,hTl,m1,q0]
    exact Kn.q [0,1,2,3,6]
   ·simp[fB,hk,hx,ek,i1,i2,i3,i4,i5,i6,hTl,m1]
    exact Kn.q [0,1,2,3,7]
 ·cases hq:x.stores with
  |nil=>simp[fB,jK,nd]
  |cons q qs=>
   have hT:(x.stores.map XStore.e).take (qs.length+1)=x.stores.map XStore.e:=Zs (by rw[hq];simp)
   rw[hq]at hT
   simp only[Zo,jK,hT]
   simp[fB,nd]
end Gi
namespace Gi
open Go Go.RowKit
set_option maxHeartbeats 8000000
set_option maxRecDepth 4000
attribute [local simp] start oH bJ cI cS ed cR dZ eu ep pz pI pA pJ pB pK pC pL pD pM pE pO pF pP pG pQ pH pR V.cells plain bA fR isInt isStr isBool bin bY gj bZ gl ee un asList L.view aj V.view viewL aW am ce bD bS comp aQ bI cH bP bq bo bp aC aq aY al aB aI au bi bF aE br bt V.flat L.flat db da bB putAt thaw thawL thawT V.ow ej cV cW ca eh cd cU freezeVs freezeLs freezeL V.mut L.mut aH dE fK aZ bC aN dv bR bj bV L.ren aP dg bW dq bU bH wp_seq wp_block bg cZ cf bE cj wp_skip wp_exit wp_ret ct cr cz cu cC cD cB bO aF L.notArr aU aS aT cY bz storeD bc eP bu co ba k8 L.mov L.closed V.closed PV.bare PV.flat
abbrev uc (s:List UInt8):Bool:=sL s 30 true
theorem xY {s:List UInt8}(h:s.length≤maxLen):ag Ph aM 389 [eB s]=some (aA (uc s)):=by
 refine ae (fn:=mZ) rfl ?_
 simp(maxSteps:=9999999) [mZ,vm h]
theorem yq {s:List UInt8}(h:s.length≤maxLen):ag Ph aM 386 [eB s]=some (aA (uc s)):=by
 refine ae (fn:=nj) rfl ?_
 simp +contextual (maxSteps:=9999999) [nj]
 refine aG bm Cl.fin [.t,.f,.f,.t,.f,.f,.f,.f,.f,.f,.f,.f,.f,.f,.f,.f,.f,.f,.f,.f,.f,.f,.f,.f,.f,.f,.f,.f,.f] (fun k=>[(3,aa .i64 k)]) s.length (MZ true s) rfl (by simp) (fun k hk _=> ?_) (fun _ hp=> ?_)
 ·simp +contextual (maxSteps:=9999999) [iI,MZ,uc,sL,hk,aR h hk,bd hk]
 ·simp +contextual (maxSteps:=9999999) [iI,uc,sL,hp,cq]
def qS (x:XResponse):Bool:=rg x.type 1 4&&(rg x.status 0 999&&(rg x.version 0 1000000000000&& !(cT 60 x.body.length)))
theorem jB (x:XResponse):ag Ph aM 403 [x.v]=some (aA (qS x)):=by
 refine ae (fn:=m4) rfl ?_
 simp +contextual (maxSteps:=9999999) [m4,bL,qS,cy]
theorem yr (x:XResponse):ag Ph aM 408 [x.v]=some (aA (qS x)):=by
 refine ae (fn:=nk) rfl ?_
 simp +contextual (maxSteps:=9999999) [nk,cq,qS,cy]
def Lu (x:XWrite):Bool:=rg x.dev 1 1000000&&(rg x.seq 1 1000000&&(kD x.key&&(dB x.field&&rg x.n 0 1000000000)))
theorem nM {x:XWrite}(h:x.Ok maxLen):ag Ph aM 390 [x.v]=some (aA (Lu x)):=by
 refine ae (fn:=ku) rfl ?_
 simp +contextual (maxSteps:=9999999) [ku,bL,lD h.2.2.1,bX h.2.2.2.1,Lu]
theorem nN {x:XWrite}(h:x.Ok maxLen):ag Ph aM 383 [x.v]=some (aA (Lu x)):=by
 refine ae (fn:=kB) rfl ?_
 simp +contextual (maxSteps:=9999999) [kB,cq,lF h.2.2.1,du h.2.2.2.1,Lu]
def uS (a b:XBucket):Bool:=Op.bytesLess a.site b.site||(a.site==b.site&&Op.bytesLess a.top b.top)
theorem vi (a b:XBucket):ag Ph aM 388 [a.v,b.v]=some (aA (uS a b)):=by
 refine ae (fn:=lh) rfl ?_
 simp +contextual (maxSteps:=9999999) [lh,uS]
theorem DK (a b:XBucket):ag Ph aM 385 [a.v,eB b.site,eB b.top]=some (aA (uS a b)):=by
 refine ae (fn:=qL) rfl ?_
 simp +contextual (maxSteps:=9999999) [qL,uS]
def As :List (List UInt8):=[[98,97,110,107],[110,101,119,115],[115,104,111,112]]
theorem tB :ag Ph aM 181 []=some (.one (.own 1 (As.map vC))):=by
 refine ae (fn:=pp) rfl ?_
 simp(maxSteps:=9999999) [pp,As,vC]
theorem Fy {us:List (List UInt8)}(hl:us.length≤maxLen)(x:List UInt8):ag Ph aM 182 [cA (us.map vC),eB x]=some (aa .i64 (dR (fun u=>x==u) us)):=by
 refine ae (fn:=gA) rfl ?_
 simp +contextual (maxSteps:=9999999) [gA]
 refine aG bm Cl.fin [.t,.t,.f,.f,.f,.f,.f,.t,.t,.f,.f,.f,.f,.f,.f,.f,.f,.f,.f] (fun k=>[(8,aa .i64 k)]) us.length (ir (fun u=>x==u) us) rfl (by simp) (fun k hk hj=> ?_) (fun hj _=> ?_)
 ·have hf:=sI hk hj
  have hs:(us.map vC)[k]'(by simpa using hk)=[.str us[k]]:=by simp[vC]
  cases hg:(x==us[k])
  ·simp(maxSteps:=9999999) [dJ,ir,hk,hg,aR hl hk,bd hk,vC]
  ·have hf2:=hf hg
   have ha:ir (fun u=>x==u) us k=true:=by simp only[ir,hk,Zn,hg]
   generalize dR (fun u=>x==u) us=F at hf2⊢
   generalize ir (fun u=>x==u) us=A at ha⊢
   simp(maxSteps:=9999999) [dJ,ha,hk,hg,hf2,aR hl hk,bd hk,vC]
 ·simp +contextual (maxSteps:=9999999) [dJ,sH hj]
def jY (s:List UInt8):Int:=dR (fun u=>s==u) As
theorem mD (s:List UInt8):ag Ph aM 154 [eB s]=some (aa .i64 (jY s)):=by
 have e1:=Fy (us:=As) (by decide) s
 simp only[As,Zv,Z5,vC]at e1
 refine ae (fn:=m5) rfl ?_
 simp(maxSteps:=9999999) [m5,e1,jY,As]
end Gi
namespace Gi
open Go Go.RowKit
theorem XKey.Ok.mono {A B:Nat}(hAB:A≤B){x:XKey}(h:x.Ok A):x.Ok B:=by
 obtain⟨h0,h1,h2⟩:=h
 exact⟨h0,h1,Zc h2 hAB⟩
theorem XField.Ok.mono {A B:Nat}(hAB:A≤B){x:XField}(h:x.Ok A):x.Ok B:=by
 obtain⟨h0,h1⟩:=h
 exact⟨Zc h0 hAB,h1⟩
theorem XRecord.Ok.mono {A B:Nat}(hAB:A≤B){x:XRecord}(h:x.Ok A):x.Ok B:=by
 have h0:=h
 exact⟨Zc h0.1 hAB,fun y m=>XField.Ok.mono hAB (h0.2 y m)⟩
theorem XItem.Ok.mono {A B:Nat}(hAB:A≤B){x:XItem}(h:x.Ok A):x.Ok B:=by
 obtain⟨h0,h1⟩:=h
 exact⟨XKey.Ok.mono hAB h0,XRecord.Ok.mono hAB h1⟩
theorem XStore.Ok.mono {A B:Nat}(hAB:A≤B){x:XStore}(h:x.Ok A):x.Ok B:=by
 obtain⟨h0,h1,h2⟩:=h
 exact⟨Zc h0 hAB,⟨Zc h1.1 hAB,fun y m=>XItem.Ok.mono hAB (h1.2 y m)⟩,h2⟩
theorem XWrite.Ok.mono {A B:Nat}(hAB:A≤B){x:XWrite}(h:x.Ok A):x.Ok B:=by
 obtain⟨h0,h1,h2,h3,h4⟩:=h
 exact⟨h0,h1,XKey.Ok.mono hAB h2,Zc h3 hAB,h4⟩
theorem XApplied.Ok.mono {A B:Nat}(hAB:A≤B){x:XApplied}(h:x.Ok A):x.Ok B:=by
 obtain⟨h0,h1⟩:=h
 exact⟨h0,h1⟩
theorem XServer.Ok.mono {A B:Nat}(hAB:A≤B){x:XServer}(h:x.Ok A):x.Ok B:=by
 obtain⟨h0,h1,h2⟩:=h
 exact⟨XStore.Ok.mono hAB h0,⟨Zc h1.1 hAB,fun y m=>XApplied.Ok.mono hAB (h1.2 y m)⟩,⟨Zc h2.1 hAB,fun y m=>XWrite.Ok.mono hAB (h2.2 y m)⟩⟩
theorem XOutbox.Ok.mono {A B:Nat}(hAB:A≤B){x:XOutbox}(h:x.Ok A):x.Ok B:=by
 obtain⟨h0,h1,h2⟩:=h
 exact⟨h0,h1,⟨Zc h2.1 hAB,fun y m=>XWrite.Ok.mono hAB (h2.2 y m)⟩⟩
theorem XSync.Ok.mono {A B:Nat}(hAB:A≤B){x:XSync}(h:x.Ok A):x.Ok B:=by
 obtain⟨h0,h1,h2⟩:=h
 exact⟨XOutbox.Ok.mono hAB h0,h1,h2⟩
theorem XReplica.Ok.mono {A B:Nat}(hAB:A≤B){x:XReplica}(h:x.Ok A):x.Ok B:=by
 obtain⟨h0,h1,h2⟩:=h
 exact⟨XStore.Ok.mono hAB h0,h1,XSync.Ok.mono hAB h2⟩
theorem XResponse.Ok.mono {A B:Nat}(hAB:A≤B){x:XResponse}(h:x.Ok A):x.Ok B:=by
 obtain⟨h0,h1,h2,h3⟩:=h
 exact⟨h0,h1,h2,Zc h3 hAB⟩
theorem XCached.Ok.mono {A B:Nat}(hAB:A≤B){x:XCached}(h:x.Ok A):x.Ok B:=by
 obtain⟨h0,h1,h2⟩:=h
 exact⟨Zc h0 hAB,Zc h1 hAB,XResponse.Ok.mono hAB h2⟩
theorem XCache.Ok.mono {A B:Nat}(hAB:A≤B){x:XCache}(h:x.Ok A):x.Ok B:=by
 obtain⟨h0,h1⟩:=h
 exact⟨h0,⟨Zc h1.1 hAB,fun y m=>XCached.Ok.mono hAB (h1.2 y m)⟩⟩
theorem XCacheSet.Ok.mono {A B:Nat}(hAB:A≤B){x:XCacheSet}(h:x.Ok A):x.Ok B:=by
 have h0:=h
 exact⟨Zc h0.1 hAB,fun y m=>XCache.Ok.mono hAB (h0.2 y m)⟩
theorem XRegistration.Ok.mono {A B:Nat}(hAB:A≤B){x:XRegistration}(h:x.Ok A):x.Ok B:=by
 obtain⟨h0,h1,h2,h3⟩:=h
 exact⟨Zc h0 hAB,h1,h2,h3⟩
theorem XLoaded.Ok.mono {A B:Nat}(hAB:A≤B){x:XLoaded}(h:x.Ok A):x.Ok B:=by
 obtain⟨h0,h1⟩:=h
 exact⟨Zc h0 hAB,h1⟩
theorem XInstr.Ok.mono {A B:Nat}(hAB:A≤B){x:XInstr}(h:x.Ok A):x.Ok B:=by
 obtain⟨h0,h1,h2,h3⟩:=h
 exact⟨h0,h1,h2,Zc h3 hAB⟩
theorem XMachine.Ok.mono {A B:Nat}(hAB:A≤B){x:XMachine}(h:x.Ok A):x.Ok B:=by
 obtain⟨h0,h1,h2,h3⟩:=h
 exact⟨⟨Zc h0.1 hAB,fun y m=>XInstr.Ok.mono hAB (h0.2 y m)⟩,h1,⟨Zc h2.1 hAB,h2.2⟩,h3⟩
theorem XPage.Ok.mono {A B:Nat}(hAB:A≤B){x:XPage}(h:x.Ok A):x.Ok B:=by
 obtain⟨h0,h1,h2,h3,h4,h5⟩:=h
 exact⟨h0,Zc h1 hAB,Zc h2 hAB,h3,⟨Zc h4.1 hAB,fun y m=>XLoaded.Ok.mono hAB (h4.2 y m)⟩,XMachine.Ok.mono hAB h5⟩
theorem XIndexDef.Ok.mono {A B:Nat}(hAB:A≤B){x:XIndexDef}(h:x.Ok A):x.Ok B:=by
 obtain⟨h0,h1⟩:=h
 exact⟨Zc h0 hAB,Zc h1 hAB⟩
theorem XDatabase.Ok.mono {A B:Nat}(hAB:A≤B){x:XDatabase}(h:x.Ok A):x.Ok B:=by
 obtain⟨h0,h1,h2,h3⟩:=h
 exact⟨Zc h0 hAB,h1,⟨Zc h2.1 hAB,fun y m=>XStore.Ok.mono hAB (h2.2 y m)⟩,⟨Zc h3.1 hAB,fun y m=>XIndexDef.Ok.mono hAB (h3.2 y m)⟩⟩
theorem XDisk.Ok.mono {A B:Nat}(hAB:A≤B){x:XDisk}(h:x.Ok A):x.Ok B:=by
 obtain⟨h0,h1,h2⟩:=h
 exact⟨XDatabase.Ok.mono hAB h0,Zc h1 hAB,h2⟩
theorem XBucket.Ok.mono {A B:Nat}(hAB:A≤B){x:XBucket}(h:x.Ok A):x.Ok B:=by
 obtain⟨h0,h1,h2,h3,h4,h5,h6⟩:=h
 exact⟨Zc h0 hAB,Zc h1 hAB,XRegistration.Ok.mono hAB h2,XCacheSet.Ok.mono hAB h3,XDisk.Ok.mono hAB h4,XReplica.Ok.mono hAB h5,h6⟩
theorem XStorage.Ok.mono {A B:Nat}(hAB:A≤B){x:XStorage}(h:x.Ok A):x.Ok B:=by
 have h0:=h
 exact⟨Zc h0.1 hAB,fun y m=>XBucket.Ok.mono hAB (h0.2 y m)⟩
theorem XLock.Ok.mono {A B:Nat}(hAB:A≤B){x:XLock}(h:x.Ok A):x.Ok B:=by
 obtain⟨h0,h1⟩:=h
 exact⟨Zc h0 hAB,h1⟩
theorem XLockTable.Ok.mono {A B:Nat}(hAB:A≤B){x:XLockTable}(h:x.Ok A):x.Ok B:=by
 have h0:=h
 exact⟨Zc h0.1 hAB,fun y m=>XLock.Ok.mono hAB (h0.2 y m)⟩
theorem XMail.Ok.mono {A B:Nat}(hAB:A≤B){x:XMail}(h:x.Ok A):x.Ok B:=by
 obtain⟨h0,h1,h2⟩:=h
 exact⟨h0,h1,h2⟩
theorem XChannel.Ok.mono {A B:Nat}(hAB:A≤B){x:XChannel}(h:x.Ok A):x.Ok B:=by
 have h0:=h
 exact⟨Zc h0.1 hAB,fun y m=>XMail.Ok.mono hAB (h0.2 y m)⟩
theorem XSite.Ok.mono {A B:Nat}(hAB:A≤B){x:XSite}(h:x.Ok A):x.Ok B:=by
 obtain⟨h0,h1,h2⟩:=h
 exact⟨Zc h0 hAB,h1,⟨Zc h2.1 hAB,fun y m=>Zc (h2.2 y m) hAB⟩⟩
theorem XWorld.Ok.mono {A B:Nat}(hAB:A≤B){x:XWorld}(h:x.Ok A):x.Ok B:=by
 obtain⟨h0,h2,h3,h4,h5,h6,h7,h8,h9⟩:=h
 exact⟨h0,h2,XStorage.Ok.mono hAB h3,⟨Zc h4.1 hAB,fun y m=>XPage.Ok.mono hAB (h4.2 y m)⟩,h5,XLockTable.Ok.mono hAB h6,XChannel.Ok.mono hAB h7,⟨Zc h8.1 hAB,fun y m=>XSite.Ok.mono hAB (h8.2 y m)⟩,⟨Zc h9.1 hAB,fun y m=>XServer.Ok.mono hAB (h9.2 y m)⟩⟩
end Gi
