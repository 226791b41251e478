/- Of this proof. -/
import Derived.Test.YtbeaonmepfkmmaaGreatGnA
import Derived.Test.YtbeaonmepfkmmaaGreatGlC
set_option linter.unusedSimpArgs false
set_option linter.unusedVariables false
namespace Gi
open Go Go.RowKit
set_option maxHeartbeats 8000000
set_option maxRecDepth 4000
attribute [local simp] start aK bA cI bZ cJ Opd.ev put V.cells plain bt gD isInt isStr isBool bin ee Ln Lm un asList L.view au V.view viewL aT az dO b6 comp aN bU cy bI aY aW aX ar aj aE ah aq aO am aR bw aA aZ a9 V.flat L.flat cZ cV br putAt thaw thawL thawT freezeVs freezeLs freezeL V.mut L.mut aH aJ cS bX cY bW bE wp_seq wp_block GY wp_cond wp_skip wp_exit wp_ret b9 b8 cj ca cr ct cq bH aF L.notArr bq bo bp uW b7 storeD aS eB ba bY aQ kX L.mov L.closed V.closed PV.bare PV.flat
theorem al {s:List UInt8}:(ae s).length=s.length:=by simp[ae]
structure Flat (z:Nat) (R:List (List PV)):Prop where
 flat:m6 R=true
 wid:(R.all fun r=>r.length==z)=true
 len:R.length≤1048576
theorem rl {R:List (List PV)}(h:Flat 1 R):ag Ph aC 261 [bi R]=some (.one (.down 1 R)):=by
 have hf:=h.flat
 have hw:=h.wid
 have m:=gV (m:=R.length) (z:=1) (by have:=h.len;omega) (by omega)
 rw[Nat.mul_one]at m
 refine aa (fn:=nL) rfl ?_
 simp[nL,hf,hw,m]
theorem zj {R:List (List PV)}(h:Flat 4 R):ag Ph aC 489 [bi R]=some (.one (.down 4 R)):=by
 have hf:=h.flat
 have hw:=h.wid
 have m:=gV (m:=R.length) (z:=40) (by have:=h.len;omega) (by omega)
 refine aa (fn:=nT) rfl ?_
 simp[nT,hf,hw,m]
theorem mg {B:Nat}(hB:B≤1048576){x:XRecord}(h:x.Ok B):ag Ph aC 242 [.agg [.pv (.lst (x.fs.map XField.e))]]=some (.agg [.down 2 (x.fs.map XField.e)]):=by
 have h_fs:=h
 have F0:Flat 2 (x.fs.map XField.e):=⟨kl (e:=XField.e) (fun _=>rfl) _,fj (e:=XField.e) (z:=2) (fun _=>rfl) _,by rw[List.length_map];have:=h_fs.1;omega⟩
 have hf0:=F0.flat
 have hw0:=F0.wid
 have m0:=gV (m:=(x.fs.map XField.e).length) (z:=24) (by have:=F0.len;omega) (by omega)
 generalize (x.fs.map XField.e)=R0 at F0 hf0 hw0 m0⊢
 refine aa (fn:=mQ) rfl ?_
 simp[mQ,hf0,hw0,m0]
theorem qC {B:Nat}(hB:B≤1048576){x:XRecord}(h:x.Ok B):ag Ph aC 239 [.agg [.pv (.lst (x.fs.map XField.e))]]=some (.agg [.down 2 (x.fs.map XField.e)]):=by
 have h_fs:=h
 have F0:Flat 2 (x.fs.map XField.e):=⟨kl (e:=XField.e) (fun _=>rfl) _,fj (e:=XField.e) (z:=2) (fun _=>rfl) _,by rw[List.length_map];have:=h_fs.1;omega⟩
 have hf0:=F0.flat
 have hw0:=F0.wid
 have m0:=gV (m:=(x.fs.map XField.e).length) (z:=24) (by have:=F0.len;omega) (by omega)
 generalize (x.fs.map XField.e)=R0 at F0 hf0 hw0 m0⊢
 refine aa (fn:=rW) rfl ?_
 simp[rW,hf0,hw0,m0]
theorem sC {B:Nat}(hB:B≤1048576){x:XItem}(h:x.Ok B):ag Ph aC 218 [.agg [.pv (.int .i64 x.key.kind), .pv (.int .i64 x.key.n), .pv (.str x.key.text), .pv (.lst (x.rcd.fs.map XField.e))]]=some (.agg [.pv (.int .i64 x.key.kind), .pv (.int .i64 x.key.n), .pv (.str x.key.text), .down 2 (x.rcd.fs.map XField.e)]):=by
 obtain⟨h_key,h_rcd⟩:=h
 have c0:=mg hB h_rcd
 refine aa (fn:=o5) rfl ?_
 simp[o5,c0]
theorem qD {B:Nat}(hB:B≤1048576){x:XItem}(h:x.Ok B):ag Ph aC 214 [.agg [.pv (.int .i64 x.key.kind), .pv (.int .i64 x.key.n), .pv (.str x.key.text), .pv (.lst (x.rcd.fs.map XField.e))]]=some (.agg [.pv (.int .i64 x.key.kind), .pv (.int .i64 x.key.n), .pv (.str x.key.text), .down 2 (x.rcd.fs.map XField.e)]):=by
 obtain⟨h_key,h_rcd⟩:=h
 have c0:=qC hB h_rcd
 refine aa (fn:=rY) rfl ?_
 simp[rY,c0]
theorem v9 {B:Nat}(hB:B≤1048576){x:XMachine}(h:x.Ok B):ag Ph aC 493 [.agg [.pv (.lst (x.script.map XInstr.e)), .pv (.int .i64 x.pc), .pv (.lst (x.regs.map jS)), .pv (.int .i64 x.steps), .pv (.bool x.done), .pv (.bool x.wait)]]=some (.agg [.down 4 (x.script.map XInstr.e), .pv (.int .i64 x.pc), .down 1 (x.regs.map jS), .pv (.int .i64 x.steps), .pv (.bool x.done), .pv (.bool x.wait)]):=by
 obtain⟨h_script,h_pc,h_regs,h_steps⟩:=h
 have F0:Flat 4 (x.script.map XInstr.e):=⟨kl (e:=XInstr.e) (fun _=>rfl) _,fj (e:=XInstr.e) (z:=4) (fun _=>rfl) _,by rw[List.length_map];have:=h_script.1;omega⟩
 have hf0:=F0.flat
 have hw0:=F0.wid
 have m0:=gV (m:=(x.script.map XInstr.e).length) (z:=40) (by have:=F0.len;omega) (by omega)
 generalize (x.script.map XInstr.e)=R0 at F0 hf0 hw0 m0⊢
 have F1:Flat 1 (x.regs.map jS):=⟨kl (e:=jS) (fun _=>rfl) _,fj (e:=jS) (z:=1) (fun _=>rfl) _,by rw[List.length_map];have:=h_regs.1;omega⟩
 have hf1:=F1.flat
 have hw1:=F1.wid
 have m1:=gV (m:=(x.regs.map jS).length) (z:=8) (by have:=F1.len;omega) (by omega)
 generalize (x.regs.map jS)=R1 at F1 hf1 hw1 m1⊢
 refine aa (fn:=lV) rfl ?_
 simp[lV,hf0,hw0,m0,hf1,hw1,m1]
theorem Cu {B:Nat}(hB:B≤1048576){x:XMachine}(h:x.Ok B):ag Ph aC 477 [.agg [.pv (.lst (x.script.map XInstr.e)), .pv (.int .i64 x.pc), .pv (.lst (x.regs.map jS)), .pv (.int .i64 x.steps), .pv (.bool x.done), .pv (.bool x.wait)]]=some (.agg [.down 4 (x.script.map XInstr.e), .pv (.int .i64 x.pc), .down 1 (x.regs.map jS), .pv (.int .i64 x.steps), .pv (.bool x.done), .pv (.bool x.wait)]):=by
 obtain⟨h_script,h_pc,h_regs,h_steps⟩:=h
 have c0:=zj (R:=(x.script.map XInstr.e)) ⟨kl (fun _=>rfl) _,fj (z:=4) (fun _=>rfl) _,by rw[List.length_map];have:=h_script.1;omega⟩
 have F0:Flat 1 (x.regs.map jS):=⟨kl (e:=jS) (fun _=>rfl) _,fj (e:=jS) (z:=1) (fun _=>rfl) _,by rw[List.length_map];have:=h_regs.1;omega⟩
 have hf0:=F0.flat
 have hw0:=F0.wid
 have m0:=gV (m:=(x.regs.map jS).length) (z:=8) (by have:=F0.len;omega) (by omega)
 generalize (x.regs.map jS)=R0 at F0 hf0 hw0 m0⊢
 refine aa (fn:=qp) rfl ?_
 simp[qp,c0,hf0,hw0,m0]
theorem AE {B:Nat}(hB:B≤1048576){x:XPage}(h:x.Ok B):ag Ph aC 479 [.agg [.pv (.int .i64 x.id), .pv (.str x.site), .pv (.str x.top), .pv (.int .i64 x.version), .pv (.lst (x.loaded.map XLoaded.e)), .pv (.lst (x.machine.script.map XInstr.e)), .pv (.int .i64 x.machine.pc), .pv (.lst (x.machine.regs.map jS)), .pv (.int .i64 x.machine.steps), .pv (.bool x.machine.done), .pv (.bool x.machine.wait)]]=some (.agg [.pv (.int .i64 x.id), .pv (.str x.site), .pv (.str x.top), .pv (.int .i64 x.version), .down 2 (x.loaded.map XLoaded.e), .down 4 (x.machine.script.map XInstr.e), .pv (.int .i64 x.machine.pc), .down 1 (x.machine.regs.map jS), .pv (.int .i64 x.machine.steps), .pv (.bool x.machine.done), .pv (.bool x.machine.wait)]):=by
 obtain⟨h_id,h_site,h_top,h_version,h_loaded,h_machine⟩:=h
 have c0:=v9 hB h_machine
 have F0:Flat 2 (x.loaded.map XLoaded.e):=⟨kl (e:=XLoaded.e) (fun _=>rfl) _,fj (e:=XLoaded.e) (z:=2) (fun _=>rfl) _,by rw[List.length_map];have:=h_loaded.1;omega⟩
 have hf0:=F0.flat
 have hw0:=F0.wid
 have m0:=gV (m:=(x.loaded.map XLoaded.e).length) (z:=24) (by have:=F0.len;omega) (by omega)
 generalize (x.loaded.map XLoaded.e)=R0 at F0 hf0 hw0 m0⊢
 refine aa (fn:=o6) rfl ?_
 simp[o6,c0,hf0,hw0,m0]
theorem Cv {B:Nat}(hB:B≤1048576){x:XPage}(h:x.Ok B):ag Ph aC 451 [.agg [.pv (.int .i64 x.id), .pv (.str x.site), .pv (.str x.top), .pv (.int .i64 x.version), .pv (.lst (x.loaded.map XLoaded.e)), .pv (.lst (x.machine.script.map XInstr.e)), .pv (.int .i64 x.machine.pc), .pv (.lst (x.machine.regs.map jS)), .pv (.int .i64 x.machine.steps), .pv (.bool x.machine.done), .pv (.bool x.machine.wait)]]=some (.agg [.pv (.int .i64 x.id), .pv (.str x.site), .pv (.str x.top), .pv (.int .i64 x.version), .down 2 (x.loaded.map XLoaded.e), .down 4 (x.machine.script.map XInstr.e), .pv (.int .i64 x.machine.pc), .down 1 (x.machine.regs.map jS), .pv (.int .i64 x.machine.steps), .pv (.bool x.machine.done), .pv (.bool x.machine.wait)]):=by
 obtain⟨h_id,h_site,h_top,h_version,h_loaded,h_machine⟩:=h
 have c0:=Cu hB h_machine
 have F0:Flat 2 (x.loaded.map XLoaded.e):=⟨kl (e:=XLoaded.e) (fun _=>rfl) _,fj (e:=XLoaded.e) (z:=2) (fun _=>rfl) _,by rw[List.length_map];have:=h_loaded.1;omega⟩
 have hf0:=F0.flat
 have hw0:=F0.wid
 have m0:=gV (m:=(x.loaded.map XLoaded.e).length) (z:=24) (by have:=F0.len;omega) (by omega)
 generalize (x.loaded.map XLoaded.e)=R0 at F0 hf0 hw0 m0⊢
 refine aa (fn:=qq) rfl ?_
 simp[qq,c0,hf0,hw0,m0]
def gT (b0 b1:AObj)(y0:L)(y2:L)(rows:List (List PV)):Nat→List AObj
 |0=>[b0,b1, .box [y0, .nil,y2]]
 |k+1=>[b0,b1, .box [y0, .arr 3,y2], .darr 4 (rows.take (k+1))]
theorem ff {B:Nat}(hB:B≤1048576){x:XStore}(h:x.Ok B):ag Ph aC 191 [.agg [.pv (.str x.name), .pv (.lst (x.items.map XItem.e)), .pv (.int .i64 x.auto)]]=some (.agg [.pv (.str x.name),nd 4 (x.items.map XItem.e), .pv (.int .i64 x.auto)]):=by
 obtain⟨h_name,h_items,h_auto⟩:=h
 have e1:∀k(hk:k<x.items.length),_:=fun k hk=>sC hB (h_items.2 _ (List.getElem_mem hk))
 have hl:x.items.length≤1048576:=Nat.le_trans h_items.1 hB
 refine aa (fn:=nM) rfl ?_
 simp[nM]
 refine iB bG Cl.fin x.items.length [.f,.f,.t,.t,.f,.f,.f,.f,.f,.f,.f,.f,.t,.t,.t,.f,.f,.f,.f,.f,.f,.f,.f,.f,.f,.f,.f] (fun k=>[(14,ai .i64 k)]) (gT (.box [.pv (.str x.name), .pv (.lst (x.items.map XItem.e)), .pv (.int .i64 x.auto)]) (.box [.pv (.str []), .nil, .pv (.int .i64 0)]) (.pv (.str x.name)) (.pv (.int .i64 x.auto)) (x.items.map XItem.e)) rfl ?_ ?_ ?_
 ·exact Kn.q [0,1,2] (by simp[gT,bq,bo,bp,uW,b7,bg,bF,aP,dN,cu,bK,cH,L.ren,aO])
 ·intro k hk
  have ek:=e1 k hk
  have hx:=XItem.e.eq_1 x.items[k]
  have ht:=tY (e:=XItem.e) hk
  rw[hx]at ht
  cases k with
  |zero=>
   simp only[gT,ht]
   simp[fJ,hk,hx,ek,nu]
   exact Kn.q [0,1,2,6]
  |succ k=>
   obtain⟨i1,i2,i3,i4,i5,i6⟩:=OL (n:=x.items.length) (by unfold maxLen;omega) hk
   have b1:min (k+1) x.items.length=k+1:=by omega
   have m1:=gV (m:=k+1+1) (z:=56) (by omega) (by omega)
   simp only[gT,ht]
   generalize hT:List.take (k+1) _=T
   have hTl:T.length=k+1:=by rw[←hT];simp;omega
   simp[fJ,hk,hx,ek,i1,i2,i3,i4,i5,i6,hTl,m1]
   exact Kn.q [0,1,2,7]
 ·cases hq:x.items with
  |nil=>simp[fJ,gT,nd]
  |cons q qs=>
   have hT:(x.items.map XItem.e).take (qs.length+1)=x.items.map XItem.e:=List.take_of_length_le (by rw[hq];simp)
   rw[hq]at hT
   simp only[List.length_cons,gT,hT]
   simp[fJ,nd]
def jC (b0 b1:AObj)(y0:L)(y2:L)(rows:List (List PV)):Nat→List AObj
 |0=>[b0,b1, .box [y0, .nil,y2]]
 |k+1=>[b0,b1, .box [y0, .arr 3,y2], .darr 4 (rows.take (k+1))]
theorem gh {B:Nat}(hB:B≤1048576){x:XStore}(h:x.Ok B):ag Ph aC 187 [.agg [.pv (.str x.name), .pv (.lst (x.items.map XItem.e)), .pv (.int .i64 x.auto)]]=some (.agg [.pv (.str x.name),nd 4 (x.items.map XItem.e), .pv (.int .i64 x.auto)]):=by
 obtain⟨h_name,h_items,h_auto⟩:=h
 have e1:∀k(hk:k<x.items.length),_:=fun k hk=>qD hB (h_items.2 _ (List.getElem_mem hk))
 have hl:x.items.length≤1048576:=Nat.le_trans h_items.1 hB
 refine aa (fn:=rX) rfl ?_
 simp[rX]
 refine iB bG Cl.fin x.items.length [.f,.t,.t,.t,.t,.f,.f,.f,.f,.f,.f,.f,.f,.f,.f,.f,.f,.f,.f,.f,.f,.f,.f,.f,.f,.f,.f,.f,.f] (fun k=>[(4,ai .i64 k)]) (jC (.box [.pv (.str x.name), .pv (.lst (x.items.map XItem.e)), .pv (.int .i64 x.auto)]) (.box [.pv (.str []), .nil, .pv (.int .i64 0)]) (.pv (.str x.name)) (.pv (.int .i64 x.auto)) (x.items.map XItem.e)) rfl ?_ ?_ ?_
 ·exact Kn.q [0,1,2] (by simp[jC,bq,bo,bp,uW,b7,bg,bF,aP,dN,cu,bK,cH,L.ren,aO])
 ·intro k hk
  have ek:=e1 k hk
  have hx:=XItem.e.eq_1 x.items[k]
  have ht:=tY (e:=XItem.e) hk
  rw[hx]at ht
  cases k with
  |zero=>
   simp only[jC,ht]
   simp[ij,hk,hx,ek,nu]
   exact Kn.q [0,1,2,5]
  |succ k=>
   obtain⟨i1,i2,i3,i4,i5,i6⟩:=OL (n:=x.items.length) (by unfold maxLen;omega) hk
   have b1:min (k+1) x.items.length=k+1:=by omega
   have m1:=gV (m:=k+1+1) (z:=56) (by omega) (by omega)
   simp only[jC,ht]
   generalize hT:List.take (k+1) _=T
   have hTl:T.length=k+1:=by rw[←hT];simp;omega
   simp[ij,hk,hx,ek,i1,i2,i3,i4,i5,i6,hTl,m1]
   exact Kn.q [0,1,2,6]
 ·cases hq:x.items with
  |nil=>simp[ij,jC,nd]
  |cons q qs=>
   have hT:(x.items.map XItem.e).take (qs.length+1)=x.items.map XItem.e:=List.take_of_length_le (by rw[hq];simp)
   rw[hq]at hT
   simp only[List.length_cons,jC,hT]
   simp[ij,nd]
def fq (b0 b1:AObj)(nm:List UInt8)(ver:Int)(U rows:List (List PV)):Nat→List AObj
 |0=>[b0,b1, .box [.pv (.str nm), .pv (.int .i64 ver), .nil, .arr 3], .darr 2 U]
 |k+1=>[b0,b1, .box [.pv (.str nm), .pv (.int .i64 ver), .arr 4, .arr 3], .darr 2 U, .darr 3 (rows.take (k+1))]
theorem ko {B:Nat}(hB:B≤1048576){x:XDatabase}(h:x.Ok B):ag Ph aC 498 [.agg [.pv (.str x.name), .pv (.int .i64 x.version), .pv (.lst (x.stores.map XStore.e)), .pv (.lst (x.unique.map XIndexDef.e))]]=some (.agg [.pv (.str x.name), .pv (.int .i64 x.version),nd 3 (x.stores.map XStore.e), .down 2 (x.unique.map XIndexDef.e)]):=by
 obtain⟨h_name,h_version,h_stores,h_unique⟩:=h
 have F0:Flat 2 (x.unique.map XIndexDef.e):=⟨kl (e:=XIndexDef.e) (fun _=>rfl) _,fj (e:=XIndexDef.e) (z:=2) (fun _=>rfl) _,by rw[List.length_map];have:=h_unique.1;omega⟩
 have hf0:=F0.flat
 have hw0:=F0.wid
 have m0:=gV (m:=(x.unique.map XIndexDef.e).length) (z:=32) (by have:=F0.len;omega) (by omega)
 generalize (x.unique.map XIndexDef.e)=R0 at F0 hf0 hw0 m0⊢
 have e1:∀k(hk:k<x.stores.length),_:=fun k hk=>ff hB (h_stores.2 _ (List.getElem_mem hk))
 have hl:x.stores.length≤1048576:=Nat.le_trans h_stores.1 hB
 refine aa (fn:=k8) rfl ?_
 simp[k8,hf0,hw0,m0]
 refine iB bG Cl.fin x.stores.length [.f,.f,.t,.t,.f,.f,.f,.f,.f,.f,.f,.f,.f,.f,.f,.f,.t,.t,.t,.f,.f,.f,.f,.f,.f,.f,.f,.f,.f,.f,.f] (fun k=>[(18,ai .i64 k)]) (fq (.box [.pv (.str x.name), .pv (.int .i64 x.version), .pv (.lst (x.stores.map XStore.e)), .pv (.lst R0)]) (.box [.pv (.str []), .pv (.int .i64 0), .nil, .nil]) x.name x.version R0 (x.stores.map XStore.e)) rfl ?_ ?_ ?_
 ·exact Kn.q [0,1,2,3] (by simp[fq,bq,bo,bp,uW,b7,bg,bF,aP,dN,cu,bK,cH,L.ren,aO])
 ·intro k hk
  have ek:=e1 k hk
  have hx:=XStore.e.eq_1 x.stores[k]
  have ht:=tY (e:=XStore.e) hk
  rw[hx]at ht
  have N0:=Bi 4 (x.stores[k].items.map XItem.e)
  generalize nd 4 (x.stores[k].items.map XItem.e)=n0 at N0 ek
  cases k with
  |zero=>
   simp only[fq,ht]
   rcases N0 with⟨q0,rfl⟩|⟨q0,rfl⟩
   ·simp only[q0]at ek
    simp[du,hk,hx,ek,nu,q0]
    exact Kn.q [0,1,2,3,6]
   ·simp[du,hk,hx,ek,nu]
    exact Kn.q [0,1,2,3,7]
  |succ k=>
   obtain⟨i1,i2,i3,i4,i5,i6⟩:=OL (n:=x.stores.length) (by unfold maxLen;omega) hk
   have b1:min (k+1) x.stores.length=k+1:=by omega
   have m1:=gV (m:=k+1+1) (z:=48) (by omega) (by omega)
   simp only[fq,ht]
   generalize hT:List.take (k+1) _=T
   have hTl:T.length=k+1:=by rw[←hT];simp;omega
   rcases N0 with⟨q0,rfl⟩|⟨q0,rfl⟩
   ·simp only[q0]at ek
    simp[du,hk,hx,ek,i1,i2,i3,i4,i5,i6,hTl,m1,q0]
    exact Kn.q [0,1,2,3,7]
   ·simp[du,hk,hx,ek,i1,i2,i3,i4,i5,i6,hTl,m1]
    exact Kn.q [0,1,2,3,8]
 ·cases hq:x.stores with
  |nil=>simp[du,fq,nd]
  |cons q qs=>
   have hT:(x.stores.map XStore.e).take (qs.length+1)=x.stores.map XStore.e:=List.take_of_length_le (by rw[hq];simp)
   rw[hq]at hT
   simp only[List.length_cons,fq,hT]
   simp[du,nd]
def jD (b0 b1:AObj)(nm:List UInt8)(ver:Int)(U rows:List (List PV)):Nat→List AObj
 |0=>[b0,b1, .box [.pv (.str nm), .pv (.int .i64 ver), .nil, .arr 3], .darr 2 U]
 |k+1=>[b0,b1, .box [.pv (.str nm), .pv (.int .i64 ver), .arr 4, .arr 3], .darr 2 U, .darr 3 (rows.take (k+1))]
theorem qE {B:Nat}(hB:B≤1048576){x:XDatabase}(h:x.Ok B):ag Ph aC 496 [.agg [.pv (.str x.name), .pv (.int .i64 x.version), .pv (.lst (x.stores.map XStore.e)), .pv (.lst (x.unique.map XIndexDef.e))]]=some (.agg [.pv (.str x.name), .pv (.int .i64 x.version),nd 3 (x.stores.map XStore.e), .down 2 (x.unique.map XIndexDef.e)]):=by
 obtain⟨h_name,h_version,h_stores,h_unique⟩:=h
 have F0:Flat 2 (x.unique.map XIndexDef.e):=⟨kl (e:=XIndexDef.e) (fun _=>rfl) _,fj (e:=XIndexDef.e) (z:=2) (fun _=>rfl) _,by rw[List.length_map];have:=h_unique.1;omega⟩
 have hf0:=F0.flat
 have hw0:=F0.wid
 have m0:=gV (m:=(x.unique.map XIndexDef.e).length) (z:=32) (by have:=F0.len;omega) (by omega)
 generalize (x.unique.map XIndexDef.e)=R0 at F0 hf0 hw0 m0⊢
 have e1:∀k(hk:k<x.stores.length),_:=fun k hk=>gh hB (h_stores.2 _ (List.getElem_mem hk))
 have hl:x.stores.length≤1048576:=Nat.le_trans h_stores.1 hB
 refine aa (fn:=r7) rfl ?_
 simp[r7,hf0,hw0,m0]
 refine iB bG Cl.fin x.stores.length [.f,.t,.t,.t,.t,.f,.f,.f,.f,.f,.f,.f,.f,.f,.f,.f,.f,.f,.f,.f,.f,.f,.f,.f,.f,.f,.f,.f,.f,.f,.f,.f,.f] (fun k=>[(4,ai .i64 k)]) (jD (.box [.pv (.str x.name), .pv (.int .i64 x.version), .pv (.lst (x.stores.map XStore.e)), .pv (.lst R0)]) (.box [.pv (.str []), .pv (.int .i64 0), .nil, .nil]) x.name x.version R0 (x.stores.map XStore.e)) rfl ?_ ?_ ?_
 ·exact Kn.q [0,1,2,3] (by simp[jD,bq,bo,bp,uW,b7,bg,bF,aP,dN,cu,bK,cH,L.ren,aO])
 ·intro k hk
  have ek:=e1 k hk
  have hx:=XStore.e.eq_1 x.stores[k]
  have ht:=tY (e:=XStore.e) hk
  rw[hx]at ht
  have N0:=Bi 4 (x.stores[k].items.map XItem.e)
  generalize nd 4 (x.stores[k].items.map XItem.e)=n0 at N0 ek
  cases k with
  |zero=>
   simp only[jD,ht]
   rcases N0 with⟨q0,rfl⟩|⟨q0,rfl⟩
   ·simp only[q0]at ek
    simp[fx,hk,hx,ek,nu,q0]
    exact Kn.q [0,1,2,3,5]
   ·simp[fx,hk,hx,ek,nu]
    exact Kn.q [0,1,2,3,6]
  |succ k=>
   obtain⟨i1,i2,i3,i4,i5,i6⟩:=OL (n:=x.stores.length) (by unfold maxLen;omega) hk
   have b1:min (k+1) x.stores.length=k+1:=by omega
   have m1:=gV (m:=k+1+1) (z:=48) (by omega) (by omega)
   simp only[jD,ht]
   generalize hT:List.take (k+1) _=T
   have hTl:T.length=k+1:=by rw[←hT];simp;omega
   rcases N0 with⟨q0,rfl⟩|⟨q0,rfl⟩
   ·simp only[q0]at ek
    simp[fx,hk,hx,ek,i1,i2,i3,i4,i5,i6,hTl,m1,q0]
    exact Kn.q [0,1,2,3,6]
   ·simp[fx,hk,hx,ek,i1,i2,i3,i4,i5,i6,hTl,m1]
    exact Kn.q [0,1,2,3,7]
 ·cases hq:x.stores with
  |nil=>simp[fx,jD,nd]
  |cons q qs=>
   have hT:(x.stores.map XStore.e).take (qs.length+1)=x.stores.map XStore.e:=List.take_of_length_le (by rw[hq];simp)
   rw[hq]at hT
   simp only[List.length_cons,jD,hT]
   simp[fx,nd]
end Gi
namespace Gi
open Go Go.RowKit
set_option maxHeartbeats 8000000
set_option maxRecDepth 4000
attribute [local simp] start nx bZ cJ cB dB cA dA dG dF og oA oh oB ol oC om oD oq oE ot oF ou oG ov oH oz oI V.cells plain bt gD isInt isStr isBool bin bM fF bN fG dC un asList L.view au V.view viewL aT az bQ bd b6 comp aN bU cy bI aY aW aX ar aj aE ah aq aO am aR bw aA aZ a9 V.flat L.flat cZ cV br putAt thaw thawL thawT V.ow dE cD cE bO dD bP cC freezeVs freezeLs freezeL V.mut L.mut aH cd eW bg bF aP dN cu bK cH L.ren aJ cS bX cY bW bE wp_seq wp_block aM cG bR bf bS wp_skip wp_exit wp_ret b9 b8 cj ca cr ct cq bH aF L.notArr bq bo bp cF b7 storeD aS eB ba bY aQ kX L.mov L.closed V.closed PV.bare PV.flat
def A6 (s:List UInt8):List Int:=(s.length:Int)::s.map fun b=>(b.toNat:Int)
def NZ (s:List UInt8)(k:Nat):List (List PV):=[.int .i64 (s.length:Nat)]::((s.take k).map fun b=>[PV.int .i64 b.toNat])
theorem Ja {s:List UInt8}{k:Nat}(h:k<s.length):NZ s (k+1)=NZ s k++[[.int .i64 s[k].toNat]]:=by
 unfold NZ
 rw[List.take_succ_eq_append_getElem h,List.map_append]
 rfl
theorem MQ (s:List UInt8):NZ s s.length=(A6 s).map jS:=by simp[NZ,A6,jS]
theorem MR {s:List UInt8}{k:Nat}(h:k≤s.length):(NZ s k).length=k+1:=by simp[NZ];omega
theorem vt (b:UInt8):IntKind.i64.wrap (b.toNat:Int)=(b.toNat:Int):=by
 have:=b.toNat_lt
 rw[IntKind.wrap_i64];omega
theorem nW {s:List UInt8}{k:Nat}(h:k<s.length):(ae s)[k]? =some [.int .u8 s[k].toNat]:=by simp[ae,h]
theorem uR {s:List UInt8}{k:Nat}(h:k<(ae s).length):(ae s)[k]=[.int .u8 (s[k]'(by simpa[ae]using h)).toNat]:=by simp[ae]
theorem v6 {s:List UInt8}(hl:s.length≤1048576):ag Ph aC 349 [bi (ae s)]=some (.one (.own 1 ((A6 s).map jS))):=by
 refine aa (fn:=lO) rfl ?_
 simp +contextual (maxSteps:=9999999) [lO,al]
 refine iB bG Cl.fin s.length [.f,.f,.f,.t,.f,.f,.f,.f,.f,.t,.t,.t,.f,.f,.f,.f,.f,.f,.f,.f,.f,.f] (fun k=>[(3, .one (.arr 0)),(11,ai .i64 k)]) (fun k=>[.arr 1 (NZ s k)]) rfl (by simp[NZ]) (fun k hk=> ?_) ?_
 ·have ha:=nW hk
  have hu:=vt s[k]
  have hb:=MR (Nat.le_of_lt hk)
  have m1:=gV (m:=k+1+1) (z:=8) (by omega) (by omega)
  have hn:=Ja hk
  try dsimp only
  rw[hn]
  generalize NZ s k=W at hb⊢
  simp(maxSteps:=9999999) [il,hk,ha,uR,hu,hb,m1,al,aU (n:=s.length) (by unfold maxLen;omega) hk,a8 hk,-cd]
  exact Kn.of [2] (by decide) (by simp) (by simp)
 ·try dsimp only
  rw[MQ]
  simp(maxSteps:=9999999) [il,al]
theorem sA {s:List UInt8}(hl:s.length≤1048576)(n:Int):ag Ph aC 580 [ai .i64 n,bi (ae s)]=some (ai .i64 (kW (101::n::A6 s))):=by
 have e1:=v6 hl
 have hb:(A6 s).length=s.length+1:=by simp[A6]
 have e2:=HM (ns:=101::n::A6 s) (by simp only[List.length_cons,hb];unfold maxLen;omega)
 have w1:((A6 s).map jS).all (fun e=>e.length==1)=true:=fj (e:=jS) (z:=1) (fun _=>rfl) _
 have hm:((101:Int)::n::A6 s).map jS=[.int .i64 101]::[.int .i64 n]::(A6 s).map jS:=rfl
 rw[hm]at e2
 have m1:=gV (m:=2+(s.length+1)) (z:=8) (by omega) (by omega)
 have m2:=gV (m:=s.length+1+1+1) (z:=8) (by omega) (by omega)
 generalize hW:(A6 s).map jS=W at e1 e2 w1
 have hb2:W.length=s.length+1:=by rw[←hW];simpa using hb
 refine aa (fn:=oW) rfl ?_
 simp +contextual (maxSteps:=9999999) [oW,e1,e2,w1,m1,m2,hb2]
theorem wg {s:List UInt8}(hl:s.length≤1048576):ag Ph aC 345 [bi (ae s)]=some (.one (.own 1 ((A6 s).map jS))):=by
 refine aa (fn:=ma) rfl ?_
 simp +contextual (maxSteps:=9999999) [ma,al]
 refine iB bG Cl.fin s.length [.t,.f,.f,.t,.t,.f,.f,.f,.f,.f,.f,.f,.f,.f,.f,.f,.f,.f,.f,.f,.f,.f,.f] (fun k=>[(3, .one (.arr 0)),(4,ai .i64 k)]) (fun k=>[.arr 1 (NZ s k)]) rfl (by simp[NZ]) (fun k hk=> ?_) ?_
 ·have ha:=nW hk
  have hu:=vt s[k]
  have hb:=MR (Nat.le_of_lt hk)
  have m1:=gV (m:=k+1+1) (z:=8) (by omega) (by omega)
  have hn:=Ja hk
  try dsimp only
  rw[hn]
  generalize NZ s k=W at hb⊢
  simp(maxSteps:=9999999) [iq,hk,ha,uR,hu,hb,m1,al,aU (n:=s.length) (by unfold maxLen;omega) hk,a8 hk,-cd]
  exact Kn.of [2] (by decide) (by simp) (by simp)
 ·try dsimp only
  rw[MQ]
  simp(maxSteps:=9999999) [iq,al]
theorem sO {s:List UInt8}(hl:s.length≤1048576)(n:Int):ag Ph aC 574 [ai .i64 n,bi (ae s)]=some (ai .i64 (kW (101::n::A6 s))):=by
 have e1:=wg hl
 have hb:(A6 s).length=s.length+1:=by simp[A6]
 have e2:=Ih (ns:=101::n::A6 s) (by simp only[List.length_cons,hb];unfold maxLen;omega)
 have w1:((A6 s).map jS).all (fun e=>e.length==1)=true:=fj (e:=jS) (z:=1) (fun _=>rfl) _
 have hm:((101:Int)::n::A6 s).map jS=[.int .i64 101]::[.int .i64 n]::(A6 s).map jS:=rfl
 rw[hm]at e2
 have m1:=gV (m:=2+(s.length+1)) (z:=8) (by omega) (by omega)
 have m2:=gV (m:=s.length+1+1+1) (z:=8) (by omega) (by omega)
 generalize hW:(A6 s).map jS=W at e1 e2 w1
 have hb2:W.length=s.length+1:=by rw[←hW];simpa using hb
 refine aa (fn:=o7) rfl ?_
 simp +contextual (maxSteps:=9999999) [o7,e1,e2,w1,m1,m2,hb2]
theorem pk {call:Nat→List V→Option V}{Q:Ex→St→Prop}{ks:List Fr}(hc:qS call)(hQ:Cl Q){c:ACode}{t:List V}{h:List AObj}{α:Type}(m:List Mk)(U:α→List (Nat×V))(H:α→List AObj)(next:α→Option α)(μ:α→Nat)(I:α→Prop)(a0:α)(i0:I a0)(hz:(c.zOk&&kz ks)=true)(kn:Kn ⟨nA (iy m t) (U a0),H a0⟩ ⟨t,h⟩)
 (st:∀a b,I a→next a=some b→μ b<μ a∧I b∧wp call (fun e τ=>e= .normal∧Kn ⟨nA (iy m t) (U b),H b⟩ τ) [] (aG call aV c ⟨nA (iy m t) (U a),H a⟩))
 (en:∀a,I a→next a=none→wp call Q (.sq uc::ks) (aG call aV c ⟨nA (iy m t) (U a),H a⟩)):wp call Q ks (aG call aV (.loop c) ⟨t,h⟩):=by
 have key:∀n a,μ a≤n→I a→wp call Q ks (aG call aV (.loop c) ⟨nA (iy m t) (U a),H a⟩):=by
  intro n
  induction n with
  |zero=>
   intro a hn ia
   cases q:next a with
   |none=>exact sH (en a ia q)
   |some b=>have:=(st a b ia q).1;omega
  |succ n ih=>
   intro a hn ia
   cases q:next a with
   |none=>exact sH (en a ia q)
   |some b=>
    obtain⟨h1,h2,h3⟩:=st a b ia q
    exact AL hc hQ hz h3 (ih b (by omega) h2)
 have hz':kz (.sq (.loop c)::ks)=true:=by simpa only[kz,ACode.zOk]using hz
 exact IU hc hQ ⟨nA (iy m t) (U a0),H a0⟩ hz' kn (key _ a0 (Nat.le_refl _) i0)
theorem IS {n:Nat}(h:n<256):IntKind.u8.wrap (n:Int)=(n:Int)∧(UInt8.ofNat n).toNat=n:=by
 refine⟨?_,by simp;omega⟩
 simp[IntKind.wrap,IntKind.signed,IntKind.bits]
 omega
theorem PT {n:Nat}(h:n<4611686018427387904):IntKind.i64.wrap ((BitVec.ofInt IntKind.i64.bits (n:Int)&&&BitVec.ofInt IntKind.i64.bits 127).toNat:Int)=((n%128:Nat):Int):=by
 have e1:(BitVec.ofInt IntKind.i64.bits (n:Int)).toNat=n:=by
  show(BitVec.ofInt 64 (n:Int)).toNat=n
  simp[BitVec.toNat_ofInt];omega
 have e2:(BitVec.ofInt IntKind.i64.bits 127).toNat=127:=by decide
 rw[BitVec.toNat_and,e1,e2,show(127:Nat)=2^7-1 from rfl,Nat.and_two_pow_sub_one_eq_mod]
 rw[IntKind.wrap_i64];omega
theorem Uk {n:Nat}(h:n<128):IntKind.i64.wrap ((BitVec.ofInt IntKind.i64.bits (n:Int)|||BitVec.ofInt IntKind.i64.bits 128).toNat:Int)=((n+128:Nat):Int):=by
 have e1:(BitVec.ofInt IntKind.i64.bits (n:Int)).toNat=n:=by
  show(BitVec.ofInt 64 (n:Int)).toNat=n
  simp[BitVec.toNat_ofInt];omega
 have e2:(BitVec.ofInt IntKind.i64.bits 128).toNat=128:=by decide
 have e3:=Nat.two_pow_add_eq_or_of_lt (i:=7) (b:=n) (by omega) 1
 rw[BitVec.toNat_or,e1,e2,Nat.or_comm,show(128:Nat)=2^7*1 from rfl,←e3]
 rw[IntKind.wrap_i64];omega
theorem kQ (s:List UInt8)(x:UInt8):ae (s++[x])=ae s++[[.int .u8 x.toNat]]:=by simp[ae]
def A1 (a:Nat×Nat×List UInt8):Option (Nat×Nat×List UInt8):=if a.2.1<128 then none else match a.1 with
 |0=>none
 |f+1=>some (f,a.2.1/128,a.2.2++[UInt8.ofNat (a.2.1%128+128)])
def Uq (b T:List UInt8)(a:Nat×Nat×List UInt8):Prop:=a.2.1<128^(a.1+1)∧a.2.2++Fe (a.1+1) a.2.1=T∧a.2.2.length+a.1≤b.length+5∧a.2.1≤1000000000000
theorem Lb {b T:List UInt8}{f m:Nat}{o:List UInt8}{a':Nat×Nat×List UInt8}(ia:Uq b T (f,m,o))(h:A1 (f,m,o)=some a'):128≤m∧Uq b T a'∧(a':Nat×Nat×List UInt8)=(f-1,m/128,o++[UInt8.ofNat (m%128+128)]):=by
 obtain⟨h1,h2,h3,h4⟩:=ia
 unfold A1 at h
 simp only at h h1 h2 h3 h4
 split at h
 ·cases h
 ·rename_i hm
  cases f with
  |zero=>cases h
  |succ f=>
   cases h
   refine⟨by omega,⟨?_,?_,by simp;omega,by simp only;omega⟩,rfl⟩
   ·show m/128<128^(f+1)
    rw[Nat.div_lt_iff_lt_mul (by decide),←Nat.pow_succ];exact h1
   ·rw[←h2]
    show(o++[UInt8.ofNat (m%128+128)])++Fe (f+1) (m/128)=o++Fe (f+1+1) m
    rw[show Fe (f+1+1) m=UInt8.ofNat (m%128+128)::Fe (f+1) (m/128) by rw[Fe,if_neg hm]]
    simp
theorem NO {b T:List UInt8}{f m:Nat}{o:List UInt8}(ia:Uq b T (f,m,o))(h:A1 (f,m,o)=none):m<128∧o++[UInt8.ofNat m]=T:=by
 obtain⟨h1,h2,_⟩:=ia
 unfold A1 at h
 simp only at h h1 h2
 split at h
 ·rename_i hm
  exact⟨hm,by rw[←h2,Fe,if_pos hm]⟩
 ·rename_i hm
  cases f with
  |zero=>simp at h1;omega
  |succ f=>cases h
theorem fH {b:List UInt8}(hb:b.length≤1048000){n:Nat}(hn:n≤1000000000000):ag Ph aC 247 [bi (ae b),ai .i64 (n:Int)]=some (.one (.own 1 (ae (b++jZ n)))):=by
 have e1:rg (n:Int) 0 1000000000000=true:=tN.2 ⟨by omega,by omega⟩
 have e2:=fy (n:Int) 0 1000000000000
 rw[e1]at e2
 have e3:=rl (R:=ae b) ⟨xb b,eU b,by rw[al];omega⟩
 refine aa (fn:=j7) rfl ?_
 simp(maxSteps:=9999999) [j7,e2,e3]
 refine pk bG Cl.fin [.f,.t,.f,.f,.f,.t,.f,.f,.f,.f,.f,.f,.f,.f,.f,.f,.f,.f,.f,.f,.f,.f,.f,.f,.f,.f,.f,.f] (fun a=>[(1,ai .i64 (a.2.1:Nat)),(5, .one (.arr 0))]) (fun a=>[.arr 1 (ae a.2.2)]) A1 (fun a=>a.2.1) (Uq b (b++jZ n)) (5,n,b) ⟨by show n<128^6;omega,rfl,by simp,hn⟩ rfl (by simp) (fun a a' ia ha=> ?_) (fun a ia ha=> ?_)
 ·obtain⟨f,m,o⟩:=a
  obtain⟨hm,hi,rfl⟩:=Lb ia ha
  obtain⟨_,_,hl,hmx⟩:=ia
  simp only at hl hmx
  have hlt:cw (m:Int) 128=false:=fB (by omega)
  have hlt2:cw 127 (m:Int)=true:=eJ (by omega)
  have q:=IS (n:=m%128+128) (by omega)
  have m1:o.length≤140737488355327∧o.length≤9223372036854775806:=by omega
  have m2:=gV (m:=o.length+1) (z:=1) (by omega) (by omega)
  have r1:(m:Int).tmod 128=(m:Int)%128:=Int.tmod_eq_emod_of_nonneg (by omega)
  have r2:(m:Int).tdiv 128=(m:Int)/128:=Int.tdiv_eq_ediv_of_nonneg (by omega)
  have r3:IntKind.i64.wrap ((m:Int)%128+128)=(m:Int)%128+128:=by rw[IntKind.wrap_i64];omega
  have r4:IntKind.i64.wrap ((m:Int)/128)=(m:Int)/128:=by rw[IntKind.wrap_i64];omega
  have r5:IntKind.u8.wrap ((m:Int)%128+128)=(m:Int)%128+128:=by have:=q.1;simpa using this
  have r6:((m:Int)%128+128)%256=(m:Int)%128+128:=by omega
  refine⟨by show m/128<m;omega,hi,?_⟩
  simp(maxSteps:=9999999) [gE,hlt,hlt2,r1,r2,r3,r4,r5,m1,m2,kQ,al,-cd]
  exact Kn.of [2] (by decide) (by simp[kQ,r5,r6]) (by simp[r4])
 ·obtain⟨f,m,o⟩:=a
  obtain⟨hm,hi⟩:=NO ia ha
  obtain⟨_,_,hl,hmx⟩:=ia
  simp only at hl hmx
  have hlt:cw (m:Int) 128=true:=eJ (by omega)
  have hlt2:cw 127 (m:Int)=false:=fB (by omega)
  have q:=IS (n:=m) (by omega)
  have m1:o.length≤140737488355327∧o.length≤9223372036854775806:=by omega
  have m2:=gV (m:=o.length+1) (z:=1) (by omega) (by omega)
  rw[←hi]
  simp(maxSteps:=9999999) [gE,hlt,hlt2,q,m1,m2,kQ,al]
theorem UX (m:Nat):iT .shr .i64 (m:Int) 7=some (ai .i64 ((m:Int)/128)):=by
 have e:(min (Int.toNat 7) IntKind.i64.bits)=7:=by decide
 simp only[iT]
 rw[if_neg (by omega)]
 simp only[e]
 rw[show((2:Int)^7)=128 by decide,Int.fdiv_eq_ediv_of_nonneg _ (by omega)]
theorem fI {b:List UInt8}(hb:b.length≤1048000){n:Nat}(hn:n≤1000000000000):ag Ph aC 244 [bi (ae b),ai .i64 (n:Int)]=some (.one (.own 1 (ae (b++jZ n)))):=by
 have e1:rg (n:Int) 0 1000000000000=true:=tN.2 ⟨by omega,by omega⟩
 have e2:=gI (n:Int) 0 1000000000000
 rw[e1]at e2
 have w1:=eU b
 have m0:b.length≤140737488355328∧b.length≤9223372036854775807:=by omega
 refine aa (fn:=ki) rfl ?_
 simp(maxSteps:=9999999) [ki,e2,w1,m0,al]
 refine pk bG Cl.fin [.f,.t,.f,.f,.f,.t,.f,.f,.f,.f,.f,.f,.f,.f,.f,.f,.f,.f,.f,.f,.f,.f,.f,.f,.f,.f,.f,.f,.f] (fun a=>[(1,ai .i64 (a.2.1:Nat)),(5, .one (.arr 0))]) (fun a=>[.arr 1 (ae a.2.2)]) A1 (fun a=>a.2.1) (Uq b (b++jZ n)) (5,n,b) ⟨by show n<128^6;omega,rfl,by simp,hn⟩ rfl (Kn.of [1] (by decide) (by simp) (by simp)) (fun a a' ia ha=> ?_) (fun a ia ha=> ?_)
 ·obtain⟨f,m,o⟩:=a
  obtain⟨hm,hi,rfl⟩:=Lb ia ha
  obtain⟨_,_,hl,hmx⟩:=ia
  simp only at hl hmx
  have hlt:cw (m:Int) 128=false:=fB (by omega)
  have hlt2:cw 127 (m:Int)=true:=eJ (by omega)
  have q:=IS (n:=m%128+128) (by omega)
  have m1:o.length≤140737488355327∧o.length≤9223372036854775806:=by omega
  have m2:=gV (m:=o.length+1) (z:=1) (by omega) (by omega)
  have r1:=PT (n:=m) (by omega)
  have r2:=UX m
  have r3:=Uk (n:=m%128) (by omega)
  have e:((m%128:Nat):Int)=(m:Int)%128:=by omega
  have e':((m%128+128:Nat):Int)=(m:Int)%128+128:=by omega
  rw[e]at r1 r3
  rw[e']at r3
  have r4:IntKind.i64.wrap ((m:Int)/128)=(m:Int)/128:=by rw[IntKind.wrap_i64];omega
  have r5:IntKind.u8.wrap ((m:Int)%128+128)=(m:Int)%128+128:=by have:=q.1;simpa using this
  have r6:((m:Int)%128+128)%256=(m:Int)%128+128:=by omega
  refine⟨by show m/128<m;omega,hi,?_⟩
  simp(maxSteps:=9999999) [gF,hlt,hlt2, ↓r1,r2, ↓r3,r4,r5,m1,m2,kQ,al,-cd]
  exact Kn.of [2] (by decide) (by simp[kQ,r5,r6]) (by simp[r4])
 ·obtain⟨f,m,o⟩:=a
  obtain⟨hm,hi⟩:=NO ia ha
  obtain⟨_,_,hl,hmx⟩:=ia
  simp only at hl hmx
  have hlt:cw (m:Int) 128=true:=eJ (by omega)
  have hlt2:cw 127 (m:Int)=false:=fB (by omega)
  have q:=IS (n:=m) (by omega)
  have m1:o.length≤140737488355327∧o.length≤9223372036854775806:=by omega
  have m2:=gV (m:=o.length+1) (z:=1) (by omega) (by omega)
  rw[←hi]
  simp(maxSteps:=9999999) [gF,hlt,hlt2,q,m1,m2,kQ,al]
theorem Bj (s u:List UInt8):ae (s++u)=ae s++ae u:=by simp[ae]
theorem pn {b s:List UInt8}(hb:b.length≤1048000)(hs:s.length≤1048576):ag Ph aC 248 [bi (ae b),bi (ae s)]=some (.one (.own 1 (ae (b++ny s)))):=by
 have e1:=fH hb (n:=s.length) (by omega)
 have w1:=eU s
 have hl:=jY s.length
 have m1:b.length+(jZ s.length).length+s.length≤140737488355328∧b.length+(jZ s.length).length+s.length≤9223372036854775807:=by omega
 rw[show b++ny s=(b++jZ s.length)++s by simp[ny]]
 have e:ae ((b++jZ s.length)++s)=ae (b++jZ s.length)++ae s:=Bj _ _
 rw[e]
 refine aa (fn:=lN) rfl ?_
 simp(maxSteps:=9999999) [lN,e1,w1,m1,al]
theorem pt {b s:List UInt8}(hb:b.length≤1048000)(hs:s.length≤1048576):ag Ph aC 245 [bi (ae b),bi (ae s)]=some (.one (.own 1 (ae (b++ny s)))):=by
 have e1:=fI hb (n:=s.length) (by omega)
 have w1:=eU s
 have hl:=jY s.length
 have m1:b.length+(jZ s.length).length+s.length≤140737488355328∧b.length+(jZ s.length).length+s.length≤9223372036854775807:=by omega
 rw[show b++ny s=(b++jZ s.length)++s by simp[ny]]
 have e:ae ((b++jZ s.length)++s)=ae (b++jZ s.length)++ae s:=Bj _ _
 rw[e]
 refine aa (fn:=lZ) rfl ?_
 simp(maxSteps:=9999999) [lZ,e1,w1,m1,al]
end Gi
