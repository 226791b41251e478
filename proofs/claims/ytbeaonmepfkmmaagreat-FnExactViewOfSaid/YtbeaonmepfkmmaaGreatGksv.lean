/- Of this proof. -/
import Derived.Test.YtbeaonmepfkmmaaGreatGnAv
import Derived.Test.YtbeaonmepfkmmaaGreatGlCv
set_option linter.unusedSimpArgs false
set_option linter.unusedVariables false
namespace Gi
open Go Go.RowKit
set_option maxHeartbeats 8000000
set_option maxRecDepth 4000
attribute [local simp] start am aK aW bo cj Opd.ev put V.cells plain bi fT isInt isStr isBool bin cA LN LM un asList L.view az V.view viewL aS aA cN bJ comp aM bA cz bI bc a9 ba av aj aE ai au aQ aq aY bC aD bd bf V.flat L.flat cT cS bq putAt thaw thawL thawT freezeVs freezeLs freezeL V.mut L.mut aI aO cX bR cZ bG bD wp_seq wp_block G2 wp_cond wp_skip wp_exit wp_ret ca b7 ce cd cr ct cq bH aL L.notArr bu br bt ub b6 storeD aV ep a8 bW aU lV L.mov L.closed V.closed PV.bare PV.flat
theorem al {s:List UInt8}:(ag s).length=s.length:=by simp[ag]
structure Flat (z:Nat) (R:List (List PV)):Prop where
 flat:mz R=true
 wid:(R.all fun r=>r.length==z)=true
 len:R.length≤1048576
theorem qG {R:List (List PV)}(h:Flat 1 R):ah Ph aH 261 [aR R]=some (.one (.down 1 R)):=by
 have hf:=h.flat
 have hw:=h.wid
 have m:=gx (m:=R.length) (z:=1) (by have:=h.len;omega) (by omega)
 rw[Nat.mul_one]at m
 refine aa (fn:=na) rfl ?_
 simp[na,hf,hw,m]
theorem yu {R:List (List PV)}(h:Flat 4 R):ah Ph aH 489 [aR R]=some (.one (.down 4 R)):=by
 have hf:=h.flat
 have hw:=h.wid
 have m:=gx (m:=R.length) (z:=40) (by have:=h.len;omega) (by omega)
 refine aa (fn:=nl) rfl ?_
 simp[nl,hf,hw,m]
theorem lI {B:Nat}(hB:B≤1048576){x:XRecord}(h:x.Ok B):ah Ph aH 242 [.agg [.pv (.lst (x.fs.map XField.e))]]=some (.agg [.down 2 (x.fs.map XField.e)]):=by
 have h_fs:=h
 have F0:Flat 2 (x.fs.map XField.e):=⟨jO (e:=XField.e) (fun _=>rfl) _,eM (e:=XField.e) (z:=2) (fun _=>rfl) _,by rw[Zv];have:=h_fs.1;omega⟩
 have hf0:=F0.flat
 have hw0:=F0.wid
 have m0:=gx (m:=(x.fs.map XField.e).length) (z:=24) (by have:=F0.len;omega) (by omega)
 generalize (x.fs.map XField.e)=R0 at F0 hf0 hw0 m0⊢
 refine aa (fn:=mh) rfl ?_
 simp[mh,hf0,hw0,m0]
theorem qd {B:Nat}(hB:B≤1048576){x:XRecord}(h:x.Ok B):ah Ph aH 239 [.agg [.pv (.lst (x.fs.map XField.e))]]=some (.agg [.down 2 (x.fs.map XField.e)]):=by
 have h_fs:=h
 have F0:Flat 2 (x.fs.map XField.e):=⟨jO (e:=XField.e) (fun _=>rfl) _,eM (e:=XField.e) (z:=2) (fun _=>rfl) _,by rw[Zv];have:=h_fs.1;omega⟩
 have hf0:=F0.flat
 have hw0:=F0.wid
 have m0:=gx (m:=(x.fs.map XField.e).length) (z:=24) (by have:=F0.len;omega) (by omega)
 generalize (x.fs.map XField.e)=R0 at F0 hf0 hw0 m0⊢
 refine aa (fn:=qV) rfl ?_
 simp[qV,hf0,hw0,m0]
theorem rW {B:Nat}(hB:B≤1048576){x:XItem}(h:x.Ok B):ah Ph aH 218 [.agg [.pv (.int .i64 x.key.kind), .pv (.int .i64 x.key.n), .pv (.str x.key.text), .pv (.lst (x.rcd.fs.map XField.e))]]=some (.agg [.pv (.int .i64 x.key.kind), .pv (.int .i64 x.key.n), .pv (.str x.key.text), .down 2 (x.rcd.fs.map XField.e)]):=by
 obtain⟨h_key,h_rcd⟩:=h
 have c0:=lI hB h_rcd
 refine aa (fn:=og) rfl ?_
 simp[og,c0]
theorem qe {B:Nat}(hB:B≤1048576){x:XItem}(h:x.Ok B):ah Ph aH 214 [.agg [.pv (.int .i64 x.key.kind), .pv (.int .i64 x.key.n), .pv (.str x.key.text), .pv (.lst (x.rcd.fs.map XField.e))]]=some (.agg [.pv (.int .i64 x.key.kind), .pv (.int .i64 x.key.n), .pv (.str x.key.text), .down 2 (x.rcd.fs.map XField.e)]):=by
 obtain⟨h_key,h_rcd⟩:=h
 have c0:=qd hB h_rcd
 refine aa (fn:=qX) rfl ?_
 simp[qX,c0]
theorem vh {B:Nat}(hB:B≤1048576){x:XMachine}(h:x.Ok B):ah Ph aH 493 [.agg [.pv (.lst (x.script.map XInstr.e)), .pv (.int .i64 x.pc), .pv (.lst (x.regs.map kM)), .pv (.int .i64 x.steps), .pv (.bool x.done), .pv (.bool x.wait)]]=some (.agg [.down 4 (x.script.map XInstr.e), .pv (.int .i64 x.pc), .down 1 (x.regs.map kM), .pv (.int .i64 x.steps), .pv (.bool x.done), .pv (.bool x.wait)]):=by
 obtain⟨h_script,h_pc,h_regs,h_steps⟩:=h
 have F0:Flat 4 (x.script.map XInstr.e):=⟨jO (e:=XInstr.e) (fun _=>rfl) _,eM (e:=XInstr.e) (z:=4) (fun _=>rfl) _,by rw[Zv];have:=h_script.1;omega⟩
 have hf0:=F0.flat
 have hw0:=F0.wid
 have m0:=gx (m:=(x.script.map XInstr.e).length) (z:=40) (by have:=F0.len;omega) (by omega)
 generalize (x.script.map XInstr.e)=R0 at F0 hf0 hw0 m0⊢
 have F1:Flat 1 (x.regs.map kM):=⟨jO (e:=kM) (fun _=>rfl) _,eM (e:=kM) (z:=1) (fun _=>rfl) _,by rw[Zv];have:=h_regs.1;omega⟩
 have hf1:=F1.flat
 have hw1:=F1.wid
 have m1:=gx (m:=(x.regs.map kM).length) (z:=8) (by have:=F1.len;omega) (by omega)
 generalize (x.regs.map kM)=R1 at F1 hf1 hw1 m1⊢
 refine aa (fn:=lA) rfl ?_
 simp[lA,hf0,hw0,m0,hf1,hw1,m1]
theorem B7 {B:Nat}(hB:B≤1048576){x:XMachine}(h:x.Ok B):ah Ph aH 477 [.agg [.pv (.lst (x.script.map XInstr.e)), .pv (.int .i64 x.pc), .pv (.lst (x.regs.map kM)), .pv (.int .i64 x.steps), .pv (.bool x.done), .pv (.bool x.wait)]]=some (.agg [.down 4 (x.script.map XInstr.e), .pv (.int .i64 x.pc), .down 1 (x.regs.map kM), .pv (.int .i64 x.steps), .pv (.bool x.done), .pv (.bool x.wait)]):=by
 obtain⟨h_script,h_pc,h_regs,h_steps⟩:=h
 have c0:=yu (R:=(x.script.map XInstr.e)) ⟨jO (fun _=>rfl) _,eM (z:=4) (fun _=>rfl) _,by rw[Zv];have:=h_script.1;omega⟩
 have F0:Flat 1 (x.regs.map kM):=⟨jO (e:=kM) (fun _=>rfl) _,eM (e:=kM) (z:=1) (fun _=>rfl) _,by rw[Zv];have:=h_regs.1;omega⟩
 have hf0:=F0.flat
 have hw0:=F0.wid
 have m0:=gx (m:=(x.regs.map kM).length) (z:=8) (by have:=F0.len;omega) (by omega)
 generalize (x.regs.map kM)=R0 at F0 hf0 hw0 m0⊢
 refine aa (fn:=pV) rfl ?_
 simp[pV,c0,hf0,hw0,m0]
theorem zV {B:Nat}(hB:B≤1048576){x:XPage}(h:x.Ok B):ah Ph aH 479 [.agg [.pv (.int .i64 x.id), .pv (.str x.site), .pv (.str x.top), .pv (.int .i64 x.version), .pv (.lst (x.loaded.map XLoaded.e)), .pv (.lst (x.machine.script.map XInstr.e)), .pv (.int .i64 x.machine.pc), .pv (.lst (x.machine.regs.map kM)), .pv (.int .i64 x.machine.steps), .pv (.bool x.machine.done), .pv (.bool x.machine.wait)]]=some (.agg [.pv (.int .i64 x.id), .pv (.str x.site), .pv (.str x.top), .pv (.int .i64 x.version), .down 2 (x.loaded.map XLoaded.e), .down 4 (x.machine.script.map XInstr.e), .pv (.int .i64 x.machine.pc), .down 1 (x.machine.regs.map kM), .pv (.int .i64 x.machine.steps), .pv (.bool x.machine.done), .pv (.bool x.machine.wait)]):=by
 obtain⟨h_id,h_site,h_top,h_version,h_loaded,h_machine⟩:=h
 have c0:=vh hB h_machine
 have F0:Flat 2 (x.loaded.map XLoaded.e):=⟨jO (e:=XLoaded.e) (fun _=>rfl) _,eM (e:=XLoaded.e) (z:=2) (fun _=>rfl) _,by rw[Zv];have:=h_loaded.1;omega⟩
 have hf0:=F0.flat
 have hw0:=F0.wid
 have m0:=gx (m:=(x.loaded.map XLoaded.e).length) (z:=24) (by have:=F0.len;omega) (by omega)
 generalize (x.loaded.map XLoaded.e)=R0 at F0 hf0 hw0 m0⊢
 refine aa (fn:=oh) rfl ?_
 simp[oh,c0,hf0,hw0,m0]
theorem B8 {B:Nat}(hB:B≤1048576){x:XPage}(h:x.Ok B):ah Ph aH 451 [.agg [.pv (.int .i64 x.id), .pv (.str x.site), .pv (.str x.top), .pv (.int .i64 x.version), .pv (.lst (x.loaded.map XLoaded.e)), .pv (.lst (x.machine.script.map XInstr.e)), .pv (.int .i64 x.machine.pc), .pv (.lst (x.machine.regs.map kM)), .pv (.int .i64 x.machine.steps), .pv (.bool x.machine.done), .pv (.bool x.machine.wait)]]=some (.agg [.pv (.int .i64 x.id), .pv (.str x.site), .pv (.str x.top), .pv (.int .i64 x.version), .down 2 (x.loaded.map XLoaded.e), .down 4 (x.machine.script.map XInstr.e), .pv (.int .i64 x.machine.pc), .down 1 (x.machine.regs.map kM), .pv (.int .i64 x.machine.steps), .pv (.bool x.machine.done), .pv (.bool x.machine.wait)]):=by
 obtain⟨h_id,h_site,h_top,h_version,h_loaded,h_machine⟩:=h
 have c0:=B7 hB h_machine
 have F0:Flat 2 (x.loaded.map XLoaded.e):=⟨jO (e:=XLoaded.e) (fun _=>rfl) _,eM (e:=XLoaded.e) (z:=2) (fun _=>rfl) _,by rw[Zv];have:=h_loaded.1;omega⟩
 have hf0:=F0.flat
 have hw0:=F0.wid
 have m0:=gx (m:=(x.loaded.map XLoaded.e).length) (z:=24) (by have:=F0.len;omega) (by omega)
 generalize (x.loaded.map XLoaded.e)=R0 at F0 hf0 hw0 m0⊢
 refine aa (fn:=pW) rfl ?_
 simp[pW,c0,hf0,hw0,m0]
def gu (b0 b1:AObj)(y0:L)(y2:L)(rows:List (List PV)):Nat→List AObj
 |0=>[b0,b1, .box [y0, .nil,y2]]
 |k+1=>[b0,b1, .box [y0, .arr 3,y2], .darr 4 (rows.take (k+1))]
theorem eF {B:Nat}(hB:B≤1048576){x:XStore}(h:x.Ok B):ah Ph aH 191 [.agg [.pv (.str x.name), .pv (.lst (x.items.map XItem.e)), .pv (.int .i64 x.auto)]]=some (.agg [.pv (.str x.name),nd 4 (x.items.map XItem.e), .pv (.int .i64 x.auto)]):=by
 obtain⟨h_name,h_items,h_auto⟩:=h
 have e1:∀k(hk:k<x.items.length),_:=fun k hk=>rW hB (h_items.2 _ (Zf hk))
 have hl:x.items.length≤1048576:=Zc h_items.1 hB
 refine aa (fn:=nc) rfl ?_
 simp[nc]
 refine hJ bX Cl.fin x.items.length [.f,.f,.t,.t,.f,.f,.f,.f,.f,.f,.f,.f,.t,.t,.t,.f,.f,.f,.f,.f,.f,.f,.f,.f,.f,.f,.f] (fun k=>[(14,ae .i64 k)]) (gu (.box [.pv (.str x.name), .pv (.lst (x.items.map XItem.e)), .pv (.int .i64 x.auto)]) (.box [.pv (.str []), .nil, .pv (.int .i64 0)]) (.pv (.str x.name)) (.pv (.int .i64 x.auto)) (x.items.map XItem.e)) rfl ?_ ?_ ?_
 ·exact Kn.q [0,1,2] (by simp[gu,bu,br,bt,ub,b6,aZ,bB,aP,dL,cf,bE,cy,L.ren,aQ])
 ·intro k hk
  have ek:=e1 k hk
  have hx:=XItem.e.eq_1 x.items[k]
  have ht:=tc (e:=XItem.e) hk
  rw[hx]at ht
  cases k with
  |zero=>
   simp only[gu,ht]
   simp[fe,hk,hx,ek,mR]
   exact Kn.q [0,1,2,6]
  |succ k=>
   obtain⟨i1,i2,i3,i4,i5,i6⟩:=Pv (n:=x.items.length) (by unfold maxLen;omega) hk
   have b1:min (k+1) x.items.length=k+1:=by omega
   have m1:=gx (m:=k+1+1) (z:=56) (by omega) (by omega)
   simp only[gu,ht]
   generalize hT:List.take (k+1) _=T
   have hTl:T.length=k+1:=by rw[←hT];simp;omega
   simp[fe,hk,hx,ek,i1,i2,i3,i4,i5,i6,hTl,m1]
   exact Kn.q [0,1,2,7]
 ·cases hq:x.items with
  |nil=>simp[fe,gu,nd]
  |cons q qs=>
   have hT:(x.items.map XItem.e).take (qs.length+1)=x.items.map XItem.e:=Zz (by rw[hq];simp)
   rw[hq]at hT
   simp only[Zo,gu,hT]
   simp[fe,nd]
def jl (b0 b1:AObj)(y0:L)(y2:L)(rows:List (List PV)):Nat→List AObj
 |0=>[b0,b1, .box [y0, .nil,y2]]
 |k+1=>[b0,b1, .box [y0, .arr 3,y2], .darr 4 (rows.take (k+1))]
theorem fB {B:Nat}(hB:B≤1048576){x:XStore}(h:x.Ok B):ah Ph aH 187 [.agg [.pv (.str x.name), .pv (.lst (x.items.map XItem.e)), .pv (.int .i64 x.auto)]]=some (.agg [.pv (.str x.name),nd 4 (x.items.map XItem.e), .pv (.int .i64 x.auto)]):=by
 obtain⟨h_name,h_items,h_auto⟩:=h
 have e1:∀k(hk:k<x.items.length),_:=fun k hk=>qe hB (h_items.2 _ (Zf hk))
 have hl:x.items.length≤1048576:=Zc h_items.1 hB
 refine aa (fn:=qW) rfl ?_
 simp[qW]
 refine hJ bX Cl.fin x.items.length [.f,.t,.t,.t,.t,.f,.f,.f,.f,.f,.f,.f,.f,.f,.f,.f,.f,.f,.f,.f,.f,.f,.f,.f,.f,.f,.f,.f,.f] (fun k=>[(4,ae .i64 k)]) (jl (.box [.pv (.str x.name), .pv (.lst (x.items.map XItem.e)), .pv (.int .i64 x.auto)]) (.box [.pv (.str []), .nil, .pv (.int .i64 0)]) (.pv (.str x.name)) (.pv (.int .i64 x.auto)) (x.items.map XItem.e)) rfl ?_ ?_ ?_
 ·exact Kn.q [0,1,2] (by simp[jl,bu,br,bt,ub,b6,aZ,bB,aP,dL,cf,bE,cy,L.ren,aQ])
 ·intro k hk
  have ek:=e1 k hk
  have hx:=XItem.e.eq_1 x.items[k]
  have ht:=tc (e:=XItem.e) hk
  rw[hx]at ht
  cases k with
  |zero=>
   simp only[jl,ht]
   simp[gK,hk,hx,ek,mR]
   exact Kn.q [0,1,2,5]
  |succ k=>
   obtain⟨i1,i2,i3,i4,i5,i6⟩:=Pv (n:=x.items.length) (by unfold maxLen;omega) hk
   have b1:min (k+1) x.items.length=k+1:=by omega
   have m1:=gx (m:=k+1+1) (z:=56) (by omega) (by omega)
   simp only[jl,ht]
   generalize hT:List.take (k+1) _=T
   have hTl:T.length=k+1:=by rw[←hT];simp;omega
   simp[gK,hk,hx,ek,i1,i2,i3,i4,i5,i6,hTl,m1]
   exact Kn.q [0,1,2,6]
 ·cases hq:x.items with
  |nil=>simp[gK,jl,nd]
  |cons q qs=>
   have hT:(x.items.map XItem.e).take (qs.length+1)=x.items.map XItem.e:=Zz (by rw[hq];simp)
   rw[hq]at hT
   simp only[Zo,jl,hT]
   simp[gK,nd]
def eP (b0 b1:AObj)(nm:List UInt8)(ver:Int)(U rows:List (List PV)):Nat→List AObj
 |0=>[b0,b1, .box [.pv (.str nm), .pv (.int .i64 ver), .nil, .arr 3], .darr 2 U]
 |k+1=>[b0,b1, .box [.pv (.str nm), .pv (.int .i64 ver), .arr 4, .arr 3], .darr 2 U, .darr 3 (rows.take (k+1))]
theorem jQ {B:Nat}(hB:B≤1048576){x:XDatabase}(h:x.Ok B):ah Ph aH 498 [.agg [.pv (.str x.name), .pv (.int .i64 x.version), .pv (.lst (x.stores.map XStore.e)), .pv (.lst (x.unique.map XIndexDef.e))]]=some (.agg [.pv (.str x.name), .pv (.int .i64 x.version),nd 3 (x.stores.map XStore.e), .down 2 (x.unique.map XIndexDef.e)]):=by
 obtain⟨h_name,h_version,h_stores,h_unique⟩:=h
 have F0:Flat 2 (x.unique.map XIndexDef.e):=⟨jO (e:=XIndexDef.e) (fun _=>rfl) _,eM (e:=XIndexDef.e) (z:=2) (fun _=>rfl) _,by rw[Zv];have:=h_unique.1;omega⟩
 have hf0:=F0.flat
 have hw0:=F0.wid
 have m0:=gx (m:=(x.unique.map XIndexDef.e).length) (z:=32) (by have:=F0.len;omega) (by omega)
 generalize (x.unique.map XIndexDef.e)=R0 at F0 hf0 hw0 m0⊢
 have e1:∀k(hk:k<x.stores.length),_:=fun k hk=>eF hB (h_stores.2 _ (Zf hk))
 have hl:x.stores.length≤1048576:=Zc h_stores.1 hB
 refine aa (fn:=kD) rfl ?_
 simp[kD,hf0,hw0,m0]
 refine hJ bX Cl.fin x.stores.length [.f,.f,.t,.t,.f,.f,.f,.f,.f,.f,.f,.f,.f,.f,.f,.f,.t,.t,.t,.f,.f,.f,.f,.f,.f,.f,.f,.f,.f,.f,.f] (fun k=>[(18,ae .i64 k)]) (eP (.box [.pv (.str x.name), .pv (.int .i64 x.version), .pv (.lst (x.stores.map XStore.e)), .pv (.lst R0)]) (.box [.pv (.str []), .pv (.int .i64 0), .nil, .nil]) x.name x.version R0 (x.stores.map XStore.e)) rfl ?_ ?_ ?_
 ·exact Kn.q [0,1,2,3] (by simp[eP,bu,br,bt,ub,b6,aZ,bB,aP,dL,cf,bE,cy,L.ren,aQ])
 ·intro k hk
  have ek:=e1 k hk
  have hx:=XStore.e.eq_1 x.stores[k]
  have ht:=tc (e:=XStore.e) hk
  rw[hx]at ht
  have N0:=AS 4 (x.stores[k].items.map XItem.e)
  generalize nd 4 (x.stores[k].items.map XItem.e)=n0 at N0 ek
  cases k with
  |zero=>
   simp only[eP,ht]
   rcases N0 with⟨q0,rfl⟩|⟨q0,rfl⟩
   ·simp only[q0]at ek
    simp[de,hk,hx,ek,mR,q0]
    exact Kn.q [0,1,2,3,6]
   ·simp[de,hk,hx,ek,mR]
    exact Kn.q [0,1,2,3,7]
  |succ k=>
   obtain⟨i1,i2,i3,i4,i5,i6⟩:=Pv (n:=x.stores.length) (by unfold maxLen;omega) hk
   have b1:min (k+1) x.stores.length=k+1:=by omega
   have m1:=gx (m:=k+1+1) (z:=48) (by omega) (by omega)
   simp only[eP,ht]
   generalize hT:List.take (k+1) _=T
   have hTl:T.length=k+1:=by rw[←hT];simp;omega
   rcases N0 with⟨q0,rfl⟩|⟨q0,rfl⟩
   ·simp only[q0]at ek
    simp[de,hk,hx,ek,i1,i2,i3,i4,i5,i6,hTl,m1,q0]
    exact Kn.q [0,1,2,3,7]
   ·simp[de,hk,hx,ek,i1,i2,i3,i4,i5,i6,hTl,m1]
    exact Kn.q [0,1,2,3,8]
 ·cases hq:x.stores with
  |nil=>simp[de,eP,nd]
  |cons q qs=>
   have hT:(x.stores.map XStore.e).take (qs.length+1)=x.stores.map XStore.e:=Zz (by rw[hq];simp)
   rw[hq]at hT
   simp only[Zo,eP,hT]
   simp[de,nd]
def jm (b0 b1:AObj)(nm:List UInt8)(ver:Int)(U rows:List (List PV)):Nat→List AObj
 |0=>[b0,b1, .box [.pv (.str nm), .pv (.int .i64 ver), .nil, .arr 3], .darr 2 U]
 |k+1=>[b0,b1, .box [.pv (.str nm), .pv (.int .i64 ver), .arr 4, .arr 3], .darr 2 U, .darr 3 (rows.take (k+1))]
theorem qg {B:Nat}(hB:B≤1048576){x:XDatabase}(h:x.Ok B):ah Ph aH 496 [.agg [.pv (.str x.name), .pv (.int .i64 x.version), .pv (.lst (x.stores.map XStore.e)), .pv (.lst (x.unique.map XIndexDef.e))]]=some (.agg [.pv (.str x.name), .pv (.int .i64 x.version),nd 3 (x.stores.map XStore.e), .down 2 (x.unique.map XIndexDef.e)]):=by
 obtain⟨h_name,h_version,h_stores,h_unique⟩:=h
 have F0:Flat 2 (x.unique.map XIndexDef.e):=⟨jO (e:=XIndexDef.e) (fun _=>rfl) _,eM (e:=XIndexDef.e) (z:=2) (fun _=>rfl) _,by rw[Zv];have:=h_unique.1;omega⟩
 have hf0:=F0.flat
 have hw0:=F0.wid
 have m0:=gx (m:=(x.unique.map XIndexDef.e).length) (z:=32) (by have:=F0.len;omega) (by omega)
 generalize (x.unique.map XIndexDef.e)=R0 at F0 hf0 hw0 m0⊢
 have e1:∀k(hk:k<x.stores.length),_:=fun k hk=>fB hB (h_stores.2 _ (Zf hk))
 have hl:x.stores.length≤1048576:=Zc h_stores.1 hB
 refine aa (fn:=qZ) rfl ?_
 simp[qZ,hf0,hw0,m0]
 refine hJ bX Cl.fin x.stores.length [.f,.t,.t,.t,.t,.f,.f,.f,.f,.f,.f,.f,.f,.f,.f,.f,.f,.f,.f,.f,.f,.f,.f,.f,.f,.f,.f,.f,.f,.f,.f,.f,.f] (fun k=>[(4,ae .i64 k)]) (jm (.box [.pv (.str x.name), .pv (.int .i64 x.version), .pv (.lst (x.stores.map XStore.e)), .pv (.lst R0)]) (.box [.pv (.str []), .pv (.int .i64 0), .nil, .nil]) x.name x.version R0 (x.stores.map XStore.e)) rfl ?_ ?_ ?_
 ·exact Kn.q [0,1,2,3] (by simp[jm,bu,br,bt,ub,b6,aZ,bB,aP,dL,cf,bE,cy,L.ren,aQ])
 ·intro k hk
  have ek:=e1 k hk
  have hx:=XStore.e.eq_1 x.stores[k]
  have ht:=tc (e:=XStore.e) hk
  rw[hx]at ht
  have N0:=AS 4 (x.stores[k].items.map XItem.e)
  generalize nd 4 (x.stores[k].items.map XItem.e)=n0 at N0 ek
  cases k with
  |zero=>
   simp only[jm,ht]
   rcases N0 with⟨q0,rfl⟩|⟨q0,rfl⟩
   ·simp only[q0]at ek
    simp[eU,hk,hx,ek,mR,q0]
    exact Kn.q [0,1,2,3,5]
   ·simp[eU,hk,hx,ek,mR]
    exact Kn.q [0,1,2,3,6]
  |succ k=>
   obtain⟨i1,i2,i3,i4,i5,i6⟩:=Pv (n:=x.stores.length) (by unfold maxLen;omega) hk
   have b1:min (k+1) x.stores.length=k+1:=by omega
   have m1:=gx (m:=k+1+1) (z:=48) (by omega) (by omega)
   simp only[jm,ht]
   generalize hT:List.take (k+1) _=T
   have hTl:T.length=k+1:=by rw[←hT];simp;omega
   rcases N0 with⟨q0,rfl⟩|⟨q0,rfl⟩
   ·simp only[q0]at ek
    simp[eU,hk,hx,ek,i1,i2,i3,i4,i5,i6,hTl,m1,q0]
    exact Kn.q [0,1,2,3,6]
   ·simp[eU,hk,hx,ek,i1,i2,i3,i4,i5,i6,hTl,m1]
    exact Kn.q [0,1,2,3,7]
 ·cases hq:x.stores with
  |nil=>simp[eU,jm,nd]
  |cons q qs=>
   have hT:(x.stores.map XStore.e).take (qs.length+1)=x.stores.map XStore.e:=Zz (by rw[hq];simp)
   rw[hq]at hT
   simp only[Zo,jm,hT]
   simp[eU,nd]
end Gi
namespace Gi
open Go Go.RowKit
set_option maxHeartbeats 8000000
set_option maxRecDepth 4000
attribute [local simp] start nY bo cj cE dE cD dD dJ dI pa pp pd pq pe pt pf pw pg px ph py pj pz pk pA pm pB V.cells plain bi fT isInt isStr isBool bin bK fR bL fS dF un asList L.view az V.view viewL aS aA bO bg bJ comp aM bA cz bI bc a9 ba av aj aE ai au aQ aq aY bC aD bd bf V.flat L.flat cT cS bq putAt thaw thawL thawT V.ow dH cG cH bM dG bN cF freezeVs freezeLs freezeL V.mut L.mut aI bY fu aZ bB aP dL cf bE cy L.ren aO cX bR cZ bG bD wp_seq wp_block aT cJ bP bh bQ wp_skip wp_exit wp_ret ca b7 ce cd cr ct cq bH aL L.notArr bu br bt cI b6 storeD aV ep a8 bW aU lV L.mov L.closed V.closed PV.bare PV.flat
def Az (s:List UInt8):List Int:=(s.length:Int)::s.map fun b=>(b.toNat:Int)
def OJ (s:List UInt8)(k:Nat):List (List PV):=[.int .i64 (s.length:Nat)]::((s.take k).map fun b=>[PV.int .i64 b.toNat])
theorem Jq {s:List UInt8}{k:Nat}(h:k<s.length):OJ s (k+1)=OJ s k++[[.int .i64 s[k].toNat]]:=by
 unfold OJ
 rw[Zx h,List.map_append]
 rfl
theorem Nn (s:List UInt8):OJ s s.length=(Az s).map kM:=by simp[OJ,Az,kM]
theorem No {s:List UInt8}{k:Nat}(h:k≤s.length):(OJ s k).length=k+1:=by simp[OJ];omega
theorem uy (b:UInt8):IntKind.i64.wrap (b.toNat:Int)=(b.toNat:Int):=by
 have:=b.toNat_lt
 rw[IntKind.wrap_i64];omega
theorem nw {s:List UInt8}{k:Nat}(h:k<s.length):(ag s)[k]? =some [.int .u8 s[k].toNat]:=by simp[ag,h]
theorem tZ {s:List UInt8}{k:Nat}(h:k<(ag s).length):(ag s)[k]=[.int .u8 (s[k]'(by simpa[ag]using h)).toNat]:=by simp[ag]
theorem ve {s:List UInt8}(hl:s.length≤1048576):ah Ph aH 349 [aR (ag s)]=some (.one (.own 1 ((Az s).map kM))):=by
 refine aa (fn:=ln) rfl ?_
 simp +contextual (maxSteps:=9999999) [ln,al]
 refine hJ bX Cl.fin s.length [.f,.f,.f,.t,.f,.f,.f,.f,.f,.t,.t,.t,.f,.f,.f,.f,.f,.f,.f,.f,.f,.f] (fun k=>[(3, .one (.arr 0)),(11,ae .i64 k)]) (fun k=>[.arr 1 (OJ s k)]) rfl (by simp[OJ]) (fun k hk=> ?_) ?_
 ·have ha:=nw hk
  have hu:=uy s[k]
  have hb:=No (Nat.le_of_lt hk)
  have m1:=gx (m:=k+1+1) (z:=8) (by omega) (by omega)
  have hn:=Jq hk
  try dsimp only
  rw[hn]
  generalize OJ s k=W at hb⊢
  simp(maxSteps:=9999999) [gP,hk,ha,tZ,hu,hb,m1,al,bw (n:=s.length) (by unfold maxLen;omega) hk,bU hk,-bY]
  exact Kn.of [2] (by decide) (by simp) (by simp)
 ·try dsimp only
  rw[Nn]
  simp(maxSteps:=9999999) [gP,al]
theorem rS {s:List UInt8}(hl:s.length≤1048576)(n:Int):ah Ph aH 580 [ae .i64 n,aR (ag s)]=some (ae .i64 (kw (101::n::Az s))):=by
 have e1:=ve hl
 have hb:(Az s).length=s.length+1:=by simp[Az]
 have e2:=HZ (ns:=101::n::Az s) (by simp only[Zo,hb];unfold maxLen;omega)
 have w1:((Az s).map kM).all (fun e=>e.length==1)=true:=eM (e:=kM) (z:=1) (fun _=>rfl) _
 have hm:((101:Int)::n::Az s).map kM=[.int .i64 101]::[.int .i64 n]::(Az s).map kM:=rfl
 rw[hm]at e2
 have m1:=gx (m:=2+(s.length+1)) (z:=8) (by omega) (by omega)
 have m2:=gx (m:=s.length+1+1+1) (z:=8) (by omega) (by omega)
 generalize hW:(Az s).map kM=W at e1 e2 w1
 have hb2:W.length=s.length+1:=by rw[←hW];simpa using hb
 refine aa (fn:=n7) rfl ?_
 simp +contextual (maxSteps:=9999999) [n7,e1,e2,w1,m1,m2,hb2]
theorem vk {s:List UInt8}(hl:s.length≤1048576):ah Ph aH 345 [aR (ag s)]=some (.one (.own 1 ((Az s).map kM))):=by
 refine aa (fn:=lD) rfl ?_
 simp +contextual (maxSteps:=9999999) [lD,al]
 refine hJ bX Cl.fin s.length [.t,.f,.f,.t,.t,.f,.f,.f,.f,.f,.f,.f,.f,.f,.f,.f,.f,.f,.f,.f,.f,.f,.f] (fun k=>[(3, .one (.arr 0)),(4,ae .i64 k)]) (fun k=>[.arr 1 (OJ s k)]) rfl (by simp[OJ]) (fun k hk=> ?_) ?_
 ·have ha:=nw hk
  have hu:=uy s[k]
  have hb:=No (Nat.le_of_lt hk)
  have m1:=gx (m:=k+1+1) (z:=8) (by omega) (by omega)
  have hn:=Jq hk
  try dsimp only
  rw[hn]
  generalize OJ s k=W at hb⊢
  simp(maxSteps:=9999999) [gR,hk,ha,tZ,hu,hb,m1,al,bw (n:=s.length) (by unfold maxLen;omega) hk,bU hk,-bY]
  exact Kn.of [2] (by decide) (by simp) (by simp)
 ·try dsimp only
  rw[Nn]
  simp(maxSteps:=9999999) [gR,al]
theorem si {s:List UInt8}(hl:s.length≤1048576)(n:Int):ah Ph aH 574 [ae .i64 n,aR (ag s)]=some (ae .i64 (kw (101::n::Az s))):=by
 have e1:=vk hl
 have hb:(Az s).length=s.length+1:=by simp[Az]
 have e2:=Iv (ns:=101::n::Az s) (by simp only[Zo,hb];unfold maxLen;omega)
 have w1:((Az s).map kM).all (fun e=>e.length==1)=true:=eM (e:=kM) (z:=1) (fun _=>rfl) _
 have hm:((101:Int)::n::Az s).map kM=[.int .i64 101]::[.int .i64 n]::(Az s).map kM:=rfl
 rw[hm]at e2
 have m1:=gx (m:=2+(s.length+1)) (z:=8) (by omega) (by omega)
 have m2:=gx (m:=s.length+1+1+1) (z:=8) (by omega) (by omega)
 generalize hW:(Az s).map kM=W at e1 e2 w1
 have hb2:W.length=s.length+1:=by rw[←hW];simpa using hb
 refine aa (fn:=ol) rfl ?_
 simp +contextual (maxSteps:=9999999) [ol,e1,e2,w1,m1,m2,hb2]
theorem oC {call:Nat→List V→Option V}{Q:Ex→St→Prop}{ks:List Fr}(hc:qu call)(hQ:Cl Q){c:ACode}{t:List V}{h:List AObj}{α:Type}(m:List Mk)(U:α→List (Nat×V))(H:α→List AObj)(next:α→Option α)(μ:α→Nat)(I:α→Prop)(a0:α)(i0:I a0)(hz:(c.zOk&&kz ks)=true)(kn:Kn ⟨mV (gW m t) (U a0),H a0⟩ ⟨t,h⟩)
 (st:∀a b,I a→next a=some b→μ b<μ a∧I b∧wp call (fun e τ=>e= .normal∧Kn ⟨mV (gW m t) (U b),H b⟩ τ) [] (aB call aG c ⟨mV (gW m t) (U a),H a⟩))
 (en:∀a,I a→next a=none→wp call Q (.sq tn::ks) (aB call aG c ⟨mV (gW m t) (U a),H a⟩)):wp call Q ks (aB call aG (.loop c) ⟨t,h⟩):=by
 have key:∀n a,μ a≤n→I a→wp call Q ks (aB call aG (.loop c) ⟨mV (gW m t) (U a),H a⟩):=by
  intro n
  induction n with
  |zero=>
   intro a hn ia
   cases q:next a with
   |none=>exact r8 (en a ia q)
   |some b=>have:=(st a b ia q).1;omega
  |succ n ih=>
   intro a hn ia
   cases q:next a with
   |none=>exact r8 (en a ia q)
   |some b=>
    obtain⟨h1,h2,h3⟩:=st a b ia q
    exact Aa hc hQ hz h3 (ih b (by omega) h2)
 have hz':kz (.sq (.loop c)::ks)=true:=by simpa only[kz,ACode.zOk]using hz
 exact I7 hc hQ ⟨mV (gW m t) (U a0),H a0⟩ hz' kn (key _ a0 (Zk _) i0)
theorem I5 {n:Nat}(h:n<256):IntKind.u8.wrap (n:Int)=(n:Int)∧(UInt8.ofNat n).toNat=n:=by
 refine⟨?_,by simp;omega⟩
 simp[IntKind.wrap,IntKind.signed,IntKind.bits]
 omega
theorem QH {n:Nat}(h:n<4611686018427387904):IntKind.i64.wrap ((BitVec.ofInt IntKind.i64.bits (n:Int)&&&BitVec.ofInt IntKind.i64.bits 127).toNat:Int)=((n%128:Nat):Int):=by
 have e1:(BitVec.ofInt IntKind.i64.bits (n:Int)).toNat=n:=by
  show(BitVec.ofInt 64 (n:Int)).toNat=n
  simp[BitVec.toNat_ofInt];omega
 have e2:(BitVec.ofInt IntKind.i64.bits 127).toNat=127:=by decide
 rw[BitVec.toNat_and,e1,e2,show(127:Nat)=2^7-1 from rfl,Nat.and_two_pow_sub_one_eq_mod]
 rw[IntKind.wrap_i64];omega
theorem Vf {n:Nat}(h:n<128):IntKind.i64.wrap ((BitVec.ofInt IntKind.i64.bits (n:Int)|||BitVec.ofInt IntKind.i64.bits 128).toNat:Int)=((n+128:Nat):Int):=by
 have e1:(BitVec.ofInt IntKind.i64.bits (n:Int)).toNat=n:=by
  show(BitVec.ofInt 64 (n:Int)).toNat=n
  simp[BitVec.toNat_ofInt];omega
 have e2:(BitVec.ofInt IntKind.i64.bits 128).toNat=128:=by decide
 have e3:=Nat.two_pow_add_eq_or_of_lt (i:=7) (b:=n) (by omega) 1
 rw[BitVec.toNat_or,e1,e2,Nat.or_comm,show(128:Nat)=2^7*1 from rfl,←e3]
 rw[IntKind.wrap_i64];omega
theorem kg (s:List UInt8)(x:UInt8):ag (s++[x])=ag s++[[.int .u8 x.toNat]]:=by simp[ag]
def Au (a:Nat×Nat×List UInt8):Option (Nat×Nat×List UInt8):=if a.2.1<128 then none else match a.1 with
 |0=>none
 |f+1=>some (f,a.2.1/128,a.2.2++[UInt8.ofNat (a.2.1%128+128)])
def Vl (b T:List UInt8)(a:Nat×Nat×List UInt8):Prop:=a.2.1<128^(a.1+1)∧a.2.2++Fb (a.1+1) a.2.1=T∧a.2.2.length+a.1≤b.length+5∧a.2.1≤1000000000000
theorem Lz {b T:List UInt8}{f m:Nat}{o:List UInt8}{a':Nat×Nat×List UInt8}(ia:Vl b T (f,m,o))(h:Au (f,m,o)=some a'):128≤m∧Vl b T a'∧(a':Nat×Nat×List UInt8)=(f-1,m/128,o++[UInt8.ofNat (m%128+128)]):=by
 obtain⟨h1,h2,h3,h4⟩:=ia
 unfold Au at h
 simp only at h h1 h2 h3 h4
 split at h
 ·cases h
 ·rename_i hm
  cases f with
  |zero=>cases h
  |succ f=>
   cases h
   refine⟨by omega,⟨?_,?_,by simp;omega,by simp only;omega⟩,rfl⟩
   ·show m/128<128^(f+1)
    rw[Nat.div_lt_iff_lt_mul (by decide),←Nat.pow_succ];exact h1
   ·rw[←h2]
    show(o++[UInt8.ofNat (m%128+128)])++Fb (f+1) (m/128)=o++Fb (f+1+1) m
    rw[show Fb (f+1+1) m=UInt8.ofNat (m%128+128)::Fb (f+1) (m/128) by rw[Fb,if_neg hm]]
    simp
theorem Ov {b T:List UInt8}{f m:Nat}{o:List UInt8}(ia:Vl b T (f,m,o))(h:Au (f,m,o)=none):m<128∧o++[UInt8.ofNat m]=T:=by
 obtain⟨h1,h2,_⟩:=ia
 unfold Au at h
 simp only at h h1 h2
 split at h
 ·rename_i hm
  exact⟨hm,by rw[←h2,Fb,if_pos hm]⟩
 ·rename_i hm
  cases f with
  |zero=>simp at h1;omega
  |succ f=>cases h
theorem fa {b:List UInt8}(hb:b.length≤1048000){n:Nat}(hn:n≤1000000000000):ah Ph aH 247 [aR (ag b),ae .i64 (n:Int)]=some (.one (.own 1 (ag (b++jG n)))):=by
 have e1:rg (n:Int) 0 1000000000000=true:=sX.2 ⟨by omega,by omega⟩
 have e2:=eV (n:Int) 0 1000000000000
 rw[e1]at e2
 have e3:=qG (R:=ag b) ⟨we b,eu b,by rw[al];omega⟩
 refine aa (fn:=jJ) rfl ?_
 simp(maxSteps:=9999999) [jJ,e2,e3]
 refine oC bX Cl.fin [.f,.t,.f,.f,.f,.t,.f,.f,.f,.f,.f,.f,.f,.f,.f,.f,.f,.f,.f,.f,.f,.f,.f,.f,.f,.f,.f,.f] (fun a=>[(1,ae .i64 (a.2.1:Nat)),(5, .one (.arr 0))]) (fun a=>[.arr 1 (ag a.2.2)]) Au (fun a=>a.2.1) (Vl b (b++jG n)) (5,n,b) ⟨by show n<128^6;omega,rfl,by simp,hn⟩ rfl (by simp) (fun a a' ia ha=> ?_) (fun a ia ha=> ?_)
 ·obtain⟨f,m,o⟩:=a
  obtain⟨hm,hi,rfl⟩:=Lz ia ha
  obtain⟨_,_,hl,hmx⟩:=ia
  simp only at hl hmx
  have hlt:b9 (m:Int) 128=false:=fG (by omega)
  have hlt2:b9 127 (m:Int)=true:=d6 (by omega)
  have q:=I5 (n:=m%128+128) (by omega)
  have m1:o.length≤140737488355327∧o.length≤9223372036854775806:=by omega
  have m2:=gx (m:=o.length+1) (z:=1) (by omega) (by omega)
  have r1:(m:Int).tmod 128=(m:Int)%128:=Int.tmod_eq_emod_of_nonneg (by omega)
  have r2:(m:Int).tdiv 128=(m:Int)/128:=Int.tdiv_eq_ediv_of_nonneg (by omega)
  have r3:IntKind.i64.wrap ((m:Int)%128+128)=(m:Int)%128+128:=by rw[IntKind.wrap_i64];omega
  have r4:IntKind.i64.wrap ((m:Int)/128)=(m:Int)/128:=by rw[IntKind.wrap_i64];omega
  have r5:IntKind.u8.wrap ((m:Int)%128+128)=(m:Int)%128+128:=by have:=q.1;simpa using this
  have r6:((m:Int)%128+128)%256=(m:Int)%128+128:=by omega
  refine⟨by show m/128<m;omega,hi,?_⟩
  simp(maxSteps:=9999999) [fW,hlt,hlt2,r1,r2,r3,r4,r5,m1,m2,kg,al,-bY]
  exact Kn.of [2] (by decide) (by simp[kg,r5,r6]) (by simp[r4])
 ·obtain⟨f,m,o⟩:=a
  obtain⟨hm,hi⟩:=Ov ia ha
  obtain⟨_,_,hl,hmx⟩:=ia
  simp only at hl hmx
  have hlt:b9 (m:Int) 128=true:=d6 (by omega)
  have hlt2:b9 127 (m:Int)=false:=fG (by omega)
  have q:=I5 (n:=m) (by omega)
  have m1:o.length≤140737488355327∧o.length≤9223372036854775806:=by omega
  have m2:=gx (m:=o.length+1) (z:=1) (by omega) (by omega)
  rw[←hi]
  simp(maxSteps:=9999999) [fW,hlt,hlt2,q,m1,m2,kg,al]
theorem VQ (m:Nat):iz .shr .i64 (m:Int) 7=some (ae .i64 ((m:Int)/128)):=by
 have e:(min (Int.toNat 7) IntKind.i64.bits)=7:=by decide
 simp only[iz]
 rw[if_neg (by omega)]
 simp only[e]
 rw[show((2:Int)^7)=128 by decide,Int.fdiv_eq_ediv_of_nonneg _ (by omega)]
theorem fb {b:List UInt8}(hb:b.length≤1048000){n:Nat}(hn:n≤1000000000000):ah Ph aH 244 [aR (ag b),ae .i64 (n:Int)]=some (.one (.own 1 (ag (b++jG n)))):=by
 have e1:rg (n:Int) 0 1000000000000=true:=sX.2 ⟨by omega,by omega⟩
 have e2:=fY (n:Int) 0 1000000000000
 rw[e1]at e2
 have w1:=eu b
 have m0:b.length≤140737488355328∧b.length≤9223372036854775807:=by omega
 refine aa (fn:=jN) rfl ?_
 simp(maxSteps:=9999999) [jN,e2,w1,m0,al]
 refine oC bX Cl.fin [.f,.t,.f,.f,.f,.t,.f,.f,.f,.f,.f,.f,.f,.f,.f,.f,.f,.f,.f,.f,.f,.f,.f,.f,.f,.f,.f,.f,.f] (fun a=>[(1,ae .i64 (a.2.1:Nat)),(5, .one (.arr 0))]) (fun a=>[.arr 1 (ag a.2.2)]) Au (fun a=>a.2.1) (Vl b (b++jG n)) (5,n,b) ⟨by show n<128^6;omega,rfl,by simp,hn⟩ rfl (Kn.of [1] (by decide) (by simp) (by simp)) (fun a a' ia ha=> ?_) (fun a ia ha=> ?_)
 ·obtain⟨f,m,o⟩:=a
  obtain⟨hm,hi,rfl⟩:=Lz ia ha
  obtain⟨_,_,hl,hmx⟩:=ia
  simp only at hl hmx
  have hlt:b9 (m:Int) 128=false:=fG (by omega)
  have hlt2:b9 127 (m:Int)=true:=d6 (by omega)
  have q:=I5 (n:=m%128+128) (by omega)
  have m1:o.length≤140737488355327∧o.length≤9223372036854775806:=by omega
  have m2:=gx (m:=o.length+1) (z:=1) (by omega) (by omega)
  have r1:=QH (n:=m) (by omega)
  have r2:=VQ m
  have r3:=Vf (n:=m%128) (by omega)
  have e:((m%128:Nat):Int)=(m:Int)%128:=by omega
  have e':((m%128+128:Nat):Int)=(m:Int)%128+128:=by omega
  rw[e]at r1 r3
  rw[e']at r3
  have r4:IntKind.i64.wrap ((m:Int)/128)=(m:Int)/128:=by rw[IntKind.wrap_i64];omega
  have r5:IntKind.u8.wrap ((m:Int)%128+128)=(m:Int)%128+128:=by have:=q.1;simpa using this
  have r6:((m:Int)%128+128)%256=(m:Int)%128+128:=by omega
  refine⟨by show m/128<m;omega,hi,?_⟩
  simp(maxSteps:=9999999) [fX,hlt,hlt2, ↓r1,r2, ↓r3,r4,r5,m1,m2,kg,al,-bY]
  exact Kn.of [2] (by decide) (by simp[kg,r5,r6]) (by simp[r4])
 ·obtain⟨f,m,o⟩:=a
  obtain⟨hm,hi⟩:=Ov ia ha
  obtain⟨_,_,hl,hmx⟩:=ia
  simp only at hl hmx
  have hlt:b9 (m:Int) 128=true:=d6 (by omega)
  have hlt2:b9 127 (m:Int)=false:=fG (by omega)
  have q:=I5 (n:=m) (by omega)
  have m1:o.length≤140737488355327∧o.length≤9223372036854775806:=by omega
  have m2:=gx (m:=o.length+1) (z:=1) (by omega) (by omega)
  rw[←hi]
  simp(maxSteps:=9999999) [fX,hlt,hlt2,q,m1,m2,kg,al]
theorem AT (s u:List UInt8):ag (s++u)=ag s++ag u:=by simp[ag]
theorem oE {b s:List UInt8}(hb:b.length≤1048000)(hs:s.length≤1048576):ah Ph aH 248 [aR (ag b),aR (ag s)]=some (.one (.own 1 (ag (b++mU s)))):=by
 have e1:=fa hb (n:=s.length) (by omega)
 have w1:=eu s
 have hl:=jF s.length
 have m1:b.length+(jG s.length).length+s.length≤140737488355328∧b.length+(jG s.length).length+s.length≤9223372036854775807:=by omega
 rw[show b++mU s=(b++jG s.length)++s by simp[mU]]
 have e:ag ((b++jG s.length)++s)=ag (b++jG s.length)++ag s:=AT _ _
 rw[e]
 refine aa (fn:=lm) rfl ?_
 simp(maxSteps:=9999999) [lm,e1,w1,m1,al]
theorem oG {b s:List UInt8}(hb:b.length≤1048000)(hs:s.length≤1048576):ah Ph aH 245 [aR (ag b),aR (ag s)]=some (.one (.own 1 (ag (b++mU s)))):=by
 have e1:=fb hb (n:=s.length) (by omega)
 have w1:=eu s
 have hl:=jF s.length
 have m1:b.length+(jG s.length).length+s.length≤140737488355328∧b.length+(jG s.length).length+s.length≤9223372036854775807:=by omega
 rw[show b++mU s=(b++jG s.length)++s by simp[mU]]
 have e:ag ((b++jG s.length)++s)=ag (b++jG s.length)++ag s:=AT _ _
 rw[e]
 refine aa (fn:=lC) rfl ?_
 simp(maxSteps:=9999999) [lC,e1,w1,m1,al]
end Gi
