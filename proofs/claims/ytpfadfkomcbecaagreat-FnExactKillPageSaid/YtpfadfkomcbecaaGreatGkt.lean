/- Of this proof. -/
import Derived.Test.YtpfadfkomcbecaaGreatGzc
import Derived.Test.YtpfadfkomcbecaaGreatGkq
set_option linter.unusedSimpArgs false
set_option linter.unusedVariables false
namespace Gi
open Go Go.RowKit
set_option maxHeartbeats 8000000
set_option maxRecDepth 4000
attribute [local simp] start ah az aH bf bU Opd.ev put V.cells plain bm gu isInt isStr isBool bin bM oE oD un asList L.view ap V.view viewL aV au bE bN comp aK bq dw co bz bw bx bI bi cq aW bD aR aX bG cr bF bC bH V.flat L.flat dG dk bt putAt thaw thawL thawT freezeVs freezeLs freezeL V.mut L.mut aJ aT dH ca dL bO bB wp_seq wp_block ov wp_cond wp_skip wp_exit wp_ret cG cE cP cH dd de db cj aU L.notArr aQ aO aP dW bn storeD a9 fR bo cD be nX L.mov L.closed V.closed PV.bare PV.flat
theorem bp {s:List UInt8}:(al s).length=s.length:=by simp[al]
structure Flat (z:Nat) (R:List (List PV)):Prop where
 flat:lZ R=true
 wid:(R.all fun r=>r.length==z)=true
 len:R.length≤1048576
theorem me {R:List (List PV)}(h:Flat 1 R):ag Ph aF 261 [bu R]=some (.one (.down 1 R)):=by
 have hf:=h.flat
 have hw:=h.wid
 have m:=eR (m:=R.length) (z:=1) (by have:=h.len;omega) (by omega)
 rw[Nat.mul_one]at m
 refine ae (fn:=mR) rfl ?_
 simp[mR,hf,hw,m]
theorem xU {R:List (List PV)}(h:Flat 4 R):ag Ph aF 489 [bu R]=some (.one (.down 4 R)):=by
 have hf:=h.flat
 have hw:=h.wid
 have m:=eR (m:=R.length) (z:=40) (by have:=h.len;omega) (by omega)
 refine ae (fn:=m9) rfl ?_
 simp[m9,hf,hw,m]
theorem vQ {B:Nat}(hB:B≤1048576){x:XRecord}(h:x.Ok B):ag Ph aF 242 [.agg [.pv (.lst (x.fs.map XField.e))]]=some (.agg [.down 2 (x.fs.map XField.e)]):=by
 have h_fs:=h
 have F0:Flat 2 (x.fs.map XField.e):=⟨dF (e:=XField.e) (fun _=>rfl) _,dz (e:=XField.e) (z:=2) (fun _=>rfl) _,by rw[List.length_map];have:=h_fs.1;omega⟩
 have hf0:=F0.flat
 have hw0:=F0.wid
 have m0:=eR (m:=(x.fs.map XField.e).length) (z:=24) (by have:=F0.len;omega) (by omega)
 generalize (x.fs.map XField.e)=R0 at F0 hf0 hw0 m0⊢
 refine ae (fn:=lN) rfl ?_
 simp[lN,hf0,hw0,m0]
theorem Em {B:Nat}(hB:B≤1048576){x:XRecord}(h:x.Ok B):ag Ph aF 239 [.agg [.pv (.lst (x.fs.map XField.e))]]=some (.agg [.down 2 (x.fs.map XField.e)]):=by
 have h_fs:=h
 have F0:Flat 2 (x.fs.map XField.e):=⟨dF (e:=XField.e) (fun _=>rfl) _,dz (e:=XField.e) (z:=2) (fun _=>rfl) _,by rw[List.length_map];have:=h_fs.1;omega⟩
 have hf0:=F0.flat
 have hw0:=F0.wid
 have m0:=eR (m:=(x.fs.map XField.e).length) (z:=24) (by have:=F0.len;omega) (by omega)
 generalize (x.fs.map XField.e)=R0 at F0 hf0 hw0 m0⊢
 refine ae (fn:=qd) rfl ?_
 simp[qd,hf0,hw0,m0]
theorem qC {B:Nat}(hB:B≤1048576){x:XItem}(h:x.Ok B):ag Ph aF 218 [.agg [.pv (.int .i64 x.key.kind), .pv (.int .i64 x.key.n), .pv (.str x.key.text), .pv (.lst (x.rcd.fs.map XField.e))]]=some (.agg [.pv (.int .i64 x.key.kind), .pv (.int .i64 x.key.n), .pv (.str x.key.text), .down 2 (x.rcd.fs.map XField.e)]):=by
 obtain⟨h_key,h_rcd⟩:=h
 have c0:=vQ hB h_rcd
 refine ae (fn:=nF) rfl ?_
 simp[nF,c0]
theorem ta {B:Nat}(hB:B≤1048576){x:XItem}(h:x.Ok B):ag Ph aF 214 [.agg [.pv (.int .i64 x.key.kind), .pv (.int .i64 x.key.n), .pv (.str x.key.text), .pv (.lst (x.rcd.fs.map XField.e))]]=some (.agg [.pv (.int .i64 x.key.kind), .pv (.int .i64 x.key.n), .pv (.str x.key.text), .down 2 (x.rcd.fs.map XField.e)]):=by
 obtain⟨h_key,h_rcd⟩:=h
 have c0:=Em hB h_rcd
 refine ae (fn:=qf) rfl ?_
 simp[qf,c0]
theorem t7 {B:Nat}(hB:B≤1048576){x:XMachine}(h:x.Ok B):ag Ph aF 493 [.agg [.pv (.lst (x.script.map XInstr.e)), .pv (.int .i64 x.pc), .pv (.lst (x.regs.map tV)), .pv (.int .i64 x.steps), .pv (.bool x.done), .pv (.bool x.wait)]]=some (.agg [.down 4 (x.script.map XInstr.e), .pv (.int .i64 x.pc), .down 1 (x.regs.map tV), .pv (.int .i64 x.steps), .pv (.bool x.done), .pv (.bool x.wait)]):=by
 obtain⟨h_script,h_pc,h_regs,h_steps⟩:=h
 have F0:Flat 4 (x.script.map XInstr.e):=⟨dF (e:=XInstr.e) (fun _=>rfl) _,dz (e:=XInstr.e) (z:=4) (fun _=>rfl) _,by rw[List.length_map];have:=h_script.1;omega⟩
 have hf0:=F0.flat
 have hw0:=F0.wid
 have m0:=eR (m:=(x.script.map XInstr.e).length) (z:=40) (by have:=F0.len;omega) (by omega)
 generalize (x.script.map XInstr.e)=R0 at F0 hf0 hw0 m0⊢
 have F1:Flat 1 (x.regs.map tV):=⟨dF (e:=tV) (fun _=>rfl) _,dz (e:=tV) (z:=1) (fun _=>rfl) _,by rw[List.length_map];have:=h_regs.1;omega⟩
 have hf1:=F1.flat
 have hw1:=F1.wid
 have m1:=eR (m:=(x.regs.map tV).length) (z:=8) (by have:=F1.len;omega) (by omega)
 generalize (x.regs.map tV)=R1 at F1 hf1 hw1 m1⊢
 refine ae (fn:=kT) rfl ?_
 simp[kT,hf0,hw0,m0,hf1,hw1,m1]
theorem BL {B:Nat}(hB:B≤1048576){x:XMachine}(h:x.Ok B):ag Ph aF 477 [.agg [.pv (.lst (x.script.map XInstr.e)), .pv (.int .i64 x.pc), .pv (.lst (x.regs.map tV)), .pv (.int .i64 x.steps), .pv (.bool x.done), .pv (.bool x.wait)]]=some (.agg [.down 4 (x.script.map XInstr.e), .pv (.int .i64 x.pc), .down 1 (x.regs.map tV), .pv (.int .i64 x.steps), .pv (.bool x.done), .pv (.bool x.wait)]):=by
 obtain⟨h_script,h_pc,h_regs,h_steps⟩:=h
 have c0:=xU (R:=(x.script.map XInstr.e)) ⟨dF (fun _=>rfl) _,dz (z:=4) (fun _=>rfl) _,by rw[List.length_map];have:=h_script.1;omega⟩
 have F0:Flat 1 (x.regs.map tV):=⟨dF (e:=tV) (fun _=>rfl) _,dz (e:=tV) (z:=1) (fun _=>rfl) _,by rw[List.length_map];have:=h_regs.1;omega⟩
 have hf0:=F0.flat
 have hw0:=F0.wid
 have m0:=eR (m:=(x.regs.map tV).length) (z:=8) (by have:=F0.len;omega) (by omega)
 generalize (x.regs.map tV)=R0 at F0 hf0 hw0 m0⊢
 refine ae (fn:=oQ) rfl ?_
 simp[oQ,c0,hf0,hw0,m0]
theorem zE {B:Nat}(hB:B≤1048576){x:XPage}(h:x.Ok B):ag Ph aF 479 [.agg [.pv (.int .i64 x.id), .pv (.str x.site), .pv (.str x.top), .pv (.int .i64 x.version), .pv (.lst (x.loaded.map XLoaded.e)), .pv (.lst (x.machine.script.map XInstr.e)), .pv (.int .i64 x.machine.pc), .pv (.lst (x.machine.regs.map tV)), .pv (.int .i64 x.machine.steps), .pv (.bool x.machine.done), .pv (.bool x.machine.wait)]]=some (.agg [.pv (.int .i64 x.id), .pv (.str x.site), .pv (.str x.top), .pv (.int .i64 x.version), .down 2 (x.loaded.map XLoaded.e), .down 4 (x.machine.script.map XInstr.e), .pv (.int .i64 x.machine.pc), .down 1 (x.machine.regs.map tV), .pv (.int .i64 x.machine.steps), .pv (.bool x.machine.done), .pv (.bool x.machine.wait)]):=by
 obtain⟨h_id,h_site,h_top,h_version,h_loaded,h_machine⟩:=h
 have c0:=t7 hB h_machine
 have F0:Flat 2 (x.loaded.map XLoaded.e):=⟨dF (e:=XLoaded.e) (fun _=>rfl) _,dz (e:=XLoaded.e) (z:=2) (fun _=>rfl) _,by rw[List.length_map];have:=h_loaded.1;omega⟩
 have hf0:=F0.flat
 have hw0:=F0.wid
 have m0:=eR (m:=(x.loaded.map XLoaded.e).length) (z:=24) (by have:=F0.len;omega) (by omega)
 generalize (x.loaded.map XLoaded.e)=R0 at F0 hf0 hw0 m0⊢
 refine ae (fn:=nG) rfl ?_
 simp[nG,c0,hf0,hw0,m0]
theorem BP {B:Nat}(hB:B≤1048576){x:XPage}(h:x.Ok B):ag Ph aF 451 [.agg [.pv (.int .i64 x.id), .pv (.str x.site), .pv (.str x.top), .pv (.int .i64 x.version), .pv (.lst (x.loaded.map XLoaded.e)), .pv (.lst (x.machine.script.map XInstr.e)), .pv (.int .i64 x.machine.pc), .pv (.lst (x.machine.regs.map tV)), .pv (.int .i64 x.machine.steps), .pv (.bool x.machine.done), .pv (.bool x.machine.wait)]]=some (.agg [.pv (.int .i64 x.id), .pv (.str x.site), .pv (.str x.top), .pv (.int .i64 x.version), .down 2 (x.loaded.map XLoaded.e), .down 4 (x.machine.script.map XInstr.e), .pv (.int .i64 x.machine.pc), .down 1 (x.machine.regs.map tV), .pv (.int .i64 x.machine.steps), .pv (.bool x.machine.done), .pv (.bool x.machine.wait)]):=by
 obtain⟨h_id,h_site,h_top,h_version,h_loaded,h_machine⟩:=h
 have c0:=BL hB h_machine
 have F0:Flat 2 (x.loaded.map XLoaded.e):=⟨dF (e:=XLoaded.e) (fun _=>rfl) _,dz (e:=XLoaded.e) (z:=2) (fun _=>rfl) _,by rw[List.length_map];have:=h_loaded.1;omega⟩
 have hf0:=F0.flat
 have hw0:=F0.wid
 have m0:=eR (m:=(x.loaded.map XLoaded.e).length) (z:=24) (by have:=F0.len;omega) (by omega)
 generalize (x.loaded.map XLoaded.e)=R0 at F0 hf0 hw0 m0⊢
 refine ae (fn:=oU) rfl ?_
 simp[oU,c0,hf0,hw0,m0]
def gi (b0 b1:AObj)(y0:L)(y2:L)(rows:List (List PV)):Nat→List AObj
 |0=>[b0,b1, .box [y0, .nil,y2]]
 |k+1=>[b0,b1, .box [y0, .arr 3,y2], .darr 4 (rows.take (k+1))]
theorem mh {B:Nat}(hB:B≤1048576){x:XStore}(h:x.Ok B):ag Ph aF 191 [.agg [.pv (.str x.name), .pv (.lst (x.items.map XItem.e)), .pv (.int .i64 x.auto)]]=some (.agg [.pv (.str x.name),nd 4 (x.items.map XItem.e), .pv (.int .i64 x.auto)]):=by
 obtain⟨h_name,h_items,h_auto⟩:=h
 have e1:∀k(hk:k<x.items.length),_:=fun k hk=>qC hB (h_items.2 _ (List.getElem_mem hk))
 have hl:x.items.length≤1048576:=Nat.le_trans h_items.1 hB
 refine ae (fn:=mV) rfl ?_
 simp[mV]
 refine cy aM Cl.fin x.items.length [.f,.f,.t,.t,.f,.f,.f,.f,.f,.f,.f,.f,.t,.t,.t,.f,.f,.f,.f,.f,.f,.f,.f,.f,.f,.f,.f] (fun k=>[(14,aa .i64 k)]) (gi (.box [.pv (.str x.name), .pv (.lst (x.items.map XItem.e)), .pv (.int .i64 x.auto)]) (.box [.pv (.str []), .nil, .pv (.int .i64 0)]) (.pv (.str x.name)) (.pv (.int .i64 x.auto)) (x.items.map XItem.e)) rfl ?_ ?_ ?_
 ·exact Kn.q [0,1,2] (by simp[gi,aQ,aO,aP,dW,bn,aN,bd,aG,dj,bK,bg,bQ,L.ren,aR])
 ·intro k hk
  have ek:=e1 k hk
  have hx:=XItem.e.eq_1 x.items[k]
  have ht:=bV (e:=XItem.e) hk
  rw[hx]at ht
  cases k with
  |zero=>
   simp only[gi,ht]
   simp[eZ,hk,hx,ek,bW]
   exact Kn.q [0,1,2,6]
  |succ k=>
   obtain⟨i1,i2,i3,i4,i5,i6⟩:=nk (n:=x.items.length) (by unfold maxLen;omega) hk
   have b1:min (k+1) x.items.length=k+1:=by omega
   have m1:=eR (m:=k+1+1) (z:=56) (by omega) (by omega)
   simp only[gi,ht]
   generalize hT:List.take (k+1) _=T
   have hTl:T.length=k+1:=by rw[←hT];simp;omega
   simp[eZ,hk,hx,ek,i1,i2,i3,i4,i5,i6,hTl,m1]
   exact Kn.q [0,1,2,7]
 ·cases hq:x.items with
  |nil=>simp[eZ,gi,nd]
  |cons q qs=>
   have hT:(x.items.map XItem.e).take (qs.length+1)=x.items.map XItem.e:=List.take_of_length_le (by rw[hq];simp)
   rw[hq]at hT
   simp only[List.length_cons,gi,hT]
   simp[eZ,nd]
def iQ (b0 b1:AObj)(y0:L)(y2:L)(rows:List (List PV)):Nat→List AObj
 |0=>[b0,b1, .box [y0, .nil,y2]]
 |k+1=>[b0,b1, .box [y0, .arr 3,y2], .darr 4 (rows.take (k+1))]
theorem pq {B:Nat}(hB:B≤1048576){x:XStore}(h:x.Ok B):ag Ph aF 187 [.agg [.pv (.str x.name), .pv (.lst (x.items.map XItem.e)), .pv (.int .i64 x.auto)]]=some (.agg [.pv (.str x.name),nd 4 (x.items.map XItem.e), .pv (.int .i64 x.auto)]):=by
 obtain⟨h_name,h_items,h_auto⟩:=h
 have e1:∀k(hk:k<x.items.length),_:=fun k hk=>ta hB (h_items.2 _ (List.getElem_mem hk))
 have hl:x.items.length≤1048576:=Nat.le_trans h_items.1 hB
 refine ae (fn:=qe) rfl ?_
 simp[qe]
 refine cy aM Cl.fin x.items.length [.f,.t,.t,.t,.t,.f,.f,.f,.f,.f,.f,.f,.f,.f,.f,.f,.f,.f,.f,.f,.f,.f,.f,.f,.f,.f,.f,.f,.f] (fun k=>[(4,aa .i64 k)]) (iQ (.box [.pv (.str x.name), .pv (.lst (x.items.map XItem.e)), .pv (.int .i64 x.auto)]) (.box [.pv (.str []), .nil, .pv (.int .i64 0)]) (.pv (.str x.name)) (.pv (.int .i64 x.auto)) (x.items.map XItem.e)) rfl ?_ ?_ ?_
 ·exact Kn.q [0,1,2] (by simp[iQ,aQ,aO,aP,dW,bn,aN,bd,aG,dj,bK,bg,bQ,L.ren,aR])
 ·intro k hk
  have ek:=e1 k hk
  have hx:=XItem.e.eq_1 x.items[k]
  have ht:=bV (e:=XItem.e) hk
  rw[hx]at ht
  cases k with
  |zero=>
   simp only[iQ,ht]
   simp[gz,hk,hx,ek,bW]
   exact Kn.q [0,1,2,5]
  |succ k=>
   obtain⟨i1,i2,i3,i4,i5,i6⟩:=nk (n:=x.items.length) (by unfold maxLen;omega) hk
   have b1:min (k+1) x.items.length=k+1:=by omega
   have m1:=eR (m:=k+1+1) (z:=56) (by omega) (by omega)
   simp only[iQ,ht]
   generalize hT:List.take (k+1) _=T
   have hTl:T.length=k+1:=by rw[←hT];simp;omega
   simp[gz,hk,hx,ek,i1,i2,i3,i4,i5,i6,hTl,m1]
   exact Kn.q [0,1,2,6]
 ·cases hq:x.items with
  |nil=>simp[gz,iQ,nd]
  |cons q qs=>
   have hT:(x.items.map XItem.e).take (qs.length+1)=x.items.map XItem.e:=List.take_of_length_le (by rw[hq];simp)
   rw[hq]at hT
   simp only[List.length_cons,iQ,hT]
   simp[gz,nd]
def eP (b0 b1:AObj)(nm:List UInt8)(ver:Int)(U rows:List (List PV)):Nat→List AObj
 |0=>[b0,b1, .box [.pv (.str nm), .pv (.int .i64 ver), .nil, .arr 3], .darr 2 U]
 |k+1=>[b0,b1, .box [.pv (.str nm), .pv (.int .i64 ver), .arr 4, .arr 3], .darr 2 U, .darr 3 (rows.take (k+1))]
theorem sH {B:Nat}(hB:B≤1048576){x:XDatabase}(h:x.Ok B):ag Ph aF 498 [.agg [.pv (.str x.name), .pv (.int .i64 x.version), .pv (.lst (x.stores.map XStore.e)), .pv (.lst (x.unique.map XIndexDef.e))]]=some (.agg [.pv (.str x.name), .pv (.int .i64 x.version),nd 3 (x.stores.map XStore.e), .down 2 (x.unique.map XIndexDef.e)]):=by
 obtain⟨h_name,h_version,h_stores,h_unique⟩:=h
 have F0:Flat 2 (x.unique.map XIndexDef.e):=⟨dF (e:=XIndexDef.e) (fun _=>rfl) _,dz (e:=XIndexDef.e) (z:=2) (fun _=>rfl) _,by rw[List.length_map];have:=h_unique.1;omega⟩
 have hf0:=F0.flat
 have hw0:=F0.wid
 have m0:=eR (m:=(x.unique.map XIndexDef.e).length) (z:=32) (by have:=F0.len;omega) (by omega)
 generalize (x.unique.map XIndexDef.e)=R0 at F0 hf0 hw0 m0⊢
 have e1:∀k(hk:k<x.stores.length),_:=fun k hk=>mh hB (h_stores.2 _ (List.getElem_mem hk))
 have hl:x.stores.length≤1048576:=Nat.le_trans h_stores.1 hB
 refine ae (fn:=j4) rfl ?_
 simp[j4,hf0,hw0,m0]
 refine cy aM Cl.fin x.stores.length [.f,.f,.t,.t,.f,.f,.f,.f,.f,.f,.f,.f,.f,.f,.f,.f,.t,.t,.t,.f,.f,.f,.f,.f,.f,.f,.f,.f,.f,.f,.f] (fun k=>[(18,aa .i64 k)]) (eP (.box [.pv (.str x.name), .pv (.int .i64 x.version), .pv (.lst (x.stores.map XStore.e)), .pv (.lst R0)]) (.box [.pv (.str []), .pv (.int .i64 0), .nil, .nil]) x.name x.version R0 (x.stores.map XStore.e)) rfl ?_ ?_ ?_
 ·exact Kn.q [0,1,2,3] (by simp[eP,aQ,aO,aP,dW,bn,aN,bd,aG,dj,bK,bg,bQ,L.ren,aR])
 ·intro k hk
  have ek:=e1 k hk
  have hx:=XStore.e.eq_1 x.stores[k]
  have ht:=bV (e:=XStore.e) hk
  rw[hx]at ht
  have N0:=fi 4 (x.stores[k].items.map XItem.e)
  generalize nd 4 (x.stores[k].items.map XItem.e)=n0 at N0 ek
  cases k with
  |zero=>
   simp only[eP,ht]
   rcases N0 with⟨q0,rfl⟩|⟨q0,rfl⟩
   ·simp only[q0]at ek
    simp[cI,hk,hx,ek,bW,q0]
    exact Kn.q [0,1,2,3,6]
   ·simp[cI,hk,hx,ek,bW]
    exact Kn.q [0,1,2,3,7]
  |succ k=>
   obtain⟨i1,i2,i3,i4,i5,i6⟩:=nk (n:=x.stores.length) (by unfold maxLen;omega) hk
   have b1:min (k+1) x.stores.length=k+1:=by omega
   have m1:=eR (m:=k+1+1) (z:=48) (by omega) (by omega)
   simp only[eP,ht]
   generalize hT:List.take (k+1) _=T
   have hTl:T.length=k+1:=by rw[←hT];simp;omega
   rcases N0 with⟨q0,rfl⟩|⟨q0,rfl⟩
   ·simp only[q0]at ek
    simp[cI,hk,hx,ek,i1,i2,i3,i4,i5,i6,hTl,m1,q0]
    exact Kn.q [0,1,2,3,7]
   ·simp[cI,hk,hx,ek,i1,i2,i3,i4,i5,i6,hTl,m1]
    exact Kn.q [0,1,2,3,8]
 ·cases hq:x.stores with
  |nil=>simp[cI,eP,nd]
  |cons q qs=>
   have hT:(x.stores.map XStore.e).take (qs.length+1)=x.stores.map XStore.e:=List.take_of_length_le (by rw[hq];simp)
   rw[hq]at hT
   simp only[List.length_cons,eP,hT]
   simp[cI,nd]
def iR (b0 b1:AObj)(nm:List UInt8)(ver:Int)(U rows:List (List PV)):Nat→List AObj
 |0=>[b0,b1, .box [.pv (.str nm), .pv (.int .i64 ver), .nil, .arr 3], .darr 2 U]
 |k+1=>[b0,b1, .box [.pv (.str nm), .pv (.int .i64 ver), .arr 4, .arr 3], .darr 2 U, .darr 3 (rows.take (k+1))]
theorem En {B:Nat}(hB:B≤1048576){x:XDatabase}(h:x.Ok B):ag Ph aF 496 [.agg [.pv (.str x.name), .pv (.int .i64 x.version), .pv (.lst (x.stores.map XStore.e)), .pv (.lst (x.unique.map XIndexDef.e))]]=some (.agg [.pv (.str x.name), .pv (.int .i64 x.version),nd 3 (x.stores.map XStore.e), .down 2 (x.unique.map XIndexDef.e)]):=by
 obtain⟨h_name,h_version,h_stores,h_unique⟩:=h
 have F0:Flat 2 (x.unique.map XIndexDef.e):=⟨dF (e:=XIndexDef.e) (fun _=>rfl) _,dz (e:=XIndexDef.e) (z:=2) (fun _=>rfl) _,by rw[List.length_map];have:=h_unique.1;omega⟩
 have hf0:=F0.flat
 have hw0:=F0.wid
 have m0:=eR (m:=(x.unique.map XIndexDef.e).length) (z:=32) (by have:=F0.len;omega) (by omega)
 generalize (x.unique.map XIndexDef.e)=R0 at F0 hf0 hw0 m0⊢
 have e1:∀k(hk:k<x.stores.length),_:=fun k hk=>pq hB (h_stores.2 _ (List.getElem_mem hk))
 have hl:x.stores.length≤1048576:=Nat.le_trans h_stores.1 hB
 refine ae (fn:=qh) rfl ?_
 simp[qh,hf0,hw0,m0]
 refine cy aM Cl.fin x.stores.length [.f,.t,.t,.t,.t,.f,.f,.f,.f,.f,.f,.f,.f,.f,.f,.f,.f,.f,.f,.f,.f,.f,.f,.f,.f,.f,.f,.f,.f,.f,.f,.f,.f] (fun k=>[(4,aa .i64 k)]) (iR (.box [.pv (.str x.name), .pv (.int .i64 x.version), .pv (.lst (x.stores.map XStore.e)), .pv (.lst R0)]) (.box [.pv (.str []), .pv (.int .i64 0), .nil, .nil]) x.name x.version R0 (x.stores.map XStore.e)) rfl ?_ ?_ ?_
 ·exact Kn.q [0,1,2,3] (by simp[iR,aQ,aO,aP,dW,bn,aN,bd,aG,dj,bK,bg,bQ,L.ren,aR])
 ·intro k hk
  have ek:=e1 k hk
  have hx:=XStore.e.eq_1 x.stores[k]
  have ht:=bV (e:=XStore.e) hk
  rw[hx]at ht
  have N0:=fi 4 (x.stores[k].items.map XItem.e)
  generalize nd 4 (x.stores[k].items.map XItem.e)=n0 at N0 ek
  cases k with
  |zero=>
   simp only[iR,ht]
   rcases N0 with⟨q0,rfl⟩|⟨q0,rfl⟩
   ·simp only[q0]at ek
    simp[eT,hk,hx,ek,bW,q0]
    exact Kn.q [0,1,2,3,5]
   ·simp[eT,hk,hx,ek,bW]
    exact Kn.q [0,1,2,3,6]
  |succ k=>
   obtain⟨i1,i2,i3,i4,i5,i6⟩:=nk (n:=x.stores.length) (by unfold maxLen;omega) hk
   have b1:min (k+1) x.stores.length=k+1:=by omega
   have m1:=eR (m:=k+1+1) (z:=48) (by omega) (by omega)
   simp only[iR,ht]
   generalize hT:List.take (k+1) _=T
   have hTl:T.length=k+1:=by rw[←hT];simp;omega
   rcases N0 with⟨q0,rfl⟩|⟨q0,rfl⟩
   ·simp only[q0]at ek
    simp[eT,hk,hx,ek,i1,i2,i3,i4,i5,i6,hTl,m1,q0]
    exact Kn.q [0,1,2,3,6]
   ·simp[eT,hk,hx,ek,i1,i2,i3,i4,i5,i6,hTl,m1]
    exact Kn.q [0,1,2,3,7]
 ·cases hq:x.stores with
  |nil=>simp[eT,iR,nd]
  |cons q qs=>
   have hT:(x.stores.map XStore.e).take (qs.length+1)=x.stores.map XStore.e:=List.take_of_length_le (by rw[hq];simp)
   rw[hq]at hT
   simp only[List.length_cons,iR,hT]
   simp[eT,nd]
end Gi
namespace Gi
open Go Go.RowKit
set_option maxHeartbeats 8000000
set_option maxRecDepth 4000
attribute [local simp] start sj bf bU dQ fY dP fX f7 f6 uH uQ uI uR uJ uS uK uT uL uU uM uV uN uW uO uX uP uY V.cells plain bm gu isInt isStr isBool bin cQ jJ cR jK fZ un asList L.view ap V.view viewL aV au cU bX bN comp aK bq dw co bz bw bx bI bi cq aW bD aR aX bG cr bF bC bH V.flat L.flat dG dk bt putAt thaw thawL thawT V.ow f5 dU dV cS f4 cT dS freezeVs freezeLs freezeL V.mut L.mut aJ eS iO aN bd aG dj bK bg bQ L.ren aT dH ca dL bO bB wp_seq wp_block bv dY cW bY cX wp_skip wp_exit wp_ret cG cE cP cH dd de db cj aU L.notArr aQ aO aP dX bn storeD a9 fR bo cD be nX L.mov L.closed V.closed PV.bare PV.flat
theorem Qo {call:Nat→List V→Option V}{Q:Ex→St→Prop}{ks:List Fr}(hc:lq call)(hQ:Cl Q){c:ACode}{t:List V}{h:List AObj}{α:Type}(m:List Mk)(U:α→List (Nat×V))(H:α→List AObj)(next:α→Option α)(μ:α→Nat)(I:α→Prop)(a0:α)(i0:I a0)(hz:(c.zOk&&kz ks)=true)(kn:Kn ⟨fw (cY m t) (U a0),H a0⟩ ⟨t,h⟩)
 (st:∀a b,I a→next a=some b→μ b<μ a∧I b∧wp call (fun e τ=>e= .normal∧Kn ⟨fw (cY m t) (U b),H b⟩ τ) [] (aj call av c ⟨fw (cY m t) (U a),H a⟩))
 (en:∀a,I a→next a=none→wp call Q (.sq mr::ks) (aj call av c ⟨fw (cY m t) (U a),H a⟩)):wp call Q ks (aj call av (.loop c) ⟨t,h⟩):=by
 have key:∀n a,μ a≤n→I a→wp call Q ks (aj call av (.loop c) ⟨fw (cY m t) (U a),H a⟩):=by
  intro n
  induction n with
  |zero=>
   intro a hn ia
   cases q:next a with
   |none=>exact qH (en a ia q)
   |some b=>have:=(st a b ia q).1;omega
  |succ n ih=>
   intro a hn ia
   cases q:next a with
   |none=>exact qH (en a ia q)
   |some b=>
    obtain⟨h1,h2,h3⟩:=st a b ia q
    exact zN hc hQ hz h3 (ih b (by omega) h2)
 have hz':kz (.sq (.loop c)::ks)=true:=by simpa only[kz,ACode.zOk]using hz
 exact Iu hc hQ ⟨fw (cY m t) (U a0),H a0⟩ hz' kn (key _ a0 (Nat.le_refl _) i0)
theorem Is {n:Nat}(h:n<256):IntKind.u8.wrap (n:Int)=(n:Int)∧(UInt8.ofNat n).toNat=n:=by
 refine⟨?_,by simp;omega⟩
 simp[IntKind.wrap,IntKind.signed,IntKind.bits]
 omega
theorem RA {n:Nat}(h:n<4611686018427387904):IntKind.i64.wrap ((BitVec.ofInt IntKind.i64.bits (n:Int)&&&BitVec.ofInt IntKind.i64.bits 127).toNat:Int)=((n%128:Nat):Int):=by
 have e1:(BitVec.ofInt IntKind.i64.bits (n:Int)).toNat=n:=by
  show(BitVec.ofInt 64 (n:Int)).toNat=n
  simp[BitVec.toNat_ofInt];omega
 have e2:(BitVec.ofInt IntKind.i64.bits 127).toNat=127:=by decide
 rw[BitVec.toNat_and,e1,e2,show(127:Nat)=2^7-1 from rfl,Nat.and_two_pow_sub_one_eq_mod]
 rw[IntKind.wrap_i64];omega
theorem SO {n:Nat}(h:n<128):IntKind.i64.wrap ((BitVec.ofInt IntKind.i64.bits (n:Int)|||BitVec.ofInt IntKind.i64.bits 128).toNat:Int)=((n+128:Nat):Int):=by
 have e1:(BitVec.ofInt IntKind.i64.bits (n:Int)).toNat=n:=by
  show(BitVec.ofInt 64 (n:Int)).toNat=n
  simp[BitVec.toNat_ofInt];omega
 have e2:(BitVec.ofInt IntKind.i64.bits 128).toNat=128:=by decide
 have e3:=Nat.two_pow_add_eq_or_of_lt (i:=7) (b:=n) (by omega) 1
 rw[BitVec.toNat_or,e1,e2,Nat.or_comm,show(128:Nat)=2^7*1 from rfl,←e3]
 rw[IntKind.wrap_i64];omega
theorem jO (s:List UInt8)(x:UInt8):al (s++[x])=al s++[[.int .u8 x.toNat]]:=by simp[al]
def Aj (a:Nat×Nat×List UInt8):Option (Nat×Nat×List UInt8):=if a.2.1<128 then none else match a.1 with
 |0=>none
 |f+1=>some (f,a.2.1/128,a.2.2++[UInt8.ofNat (a.2.1%128+128)])
def SV (b T:List UInt8)(a:Nat×Nat×List UInt8):Prop:=a.2.1<128^(a.1+1)∧a.2.2++OP (a.1+1) a.2.1=T∧a.2.2.length+a.1≤b.length+5∧a.2.1≤1000000000000
theorem KA {b T:List UInt8}{f m:Nat}{o:List UInt8}{a':Nat×Nat×List UInt8}(ia:SV b T (f,m,o))(h:Aj (f,m,o)=some a'):128≤m∧SV b T a'∧(a':Nat×Nat×List UInt8)=(f-1,m/128,o++[UInt8.ofNat (m%128+128)]):=by
 obtain⟨h1,h2,h3,h4⟩:=ia
 unfold Aj at h
 simp only at h h1 h2 h3 h4
 split at h
 ·cases h
 ·rename_i hm
  cases f with
  |zero=>cases h
  |succ f=>
   cases h
   refine⟨by omega,⟨?_,?_,by simp;omega,by simp only;omega⟩,rfl⟩
   ·show m/128<128^(f+1)
    rw[Nat.div_lt_iff_lt_mul (by decide),←Nat.pow_succ];exact h1
   ·rw[←h2]
    show(o++[UInt8.ofNat (m%128+128)])++OP (f+1) (m/128)=o++OP (f+1+1) m
    rw[show OP (f+1+1) m=UInt8.ofNat (m%128+128)::OP (f+1) (m/128) by rw[OP,if_neg hm]]
    simp
theorem MY {b T:List UInt8}{f m:Nat}{o:List UInt8}(ia:SV b T (f,m,o))(h:Aj (f,m,o)=none):m<128∧o++[UInt8.ofNat m]=T:=by
 obtain⟨h1,h2,_⟩:=ia
 unfold Aj at h
 simp only at h h1 h2
 split at h
 ·rename_i hm
  exact⟨hm,by rw[←h2,OP,if_pos hm]⟩
 ·rename_i hm
  cases f with
  |zero=>simp at h1;omega
  |succ f=>cases h
theorem i9 {b:List UInt8}(hb:b.length≤1048000){n:Nat}(hn:n≤1000000000000):ag Ph aF 247 [bu (al b),aa .i64 (n:Int)]=some (.one (.own 1 (al (b++qV n)))):=by
 have e1:rg (n:Int) 0 1000000000000=true:=Ea.2 ⟨by omega,by omega⟩
 have e2:=a8 (n:Int) 0 1000000000000
 rw[e1]at e2
 have e3:=me (R:=al b) ⟨pb b,iT b,by rw[bp];omega⟩
 refine ae (fn:=jr) rfl ?_
 simp(maxSteps:=9999999) [jr,e2,e3]
 refine Qo aM Cl.fin [.f,.t,.f,.f,.f,.t,.f,.f,.f,.f,.f,.f,.f,.f,.f,.f,.f,.f,.f,.f,.f,.f,.f,.f,.f,.f,.f,.f] (fun a=>[(1,aa .i64 (a.2.1:Nat)),(5, .one (.arr 0))]) (fun a=>[.arr 1 (al a.2.2)]) Aj (fun a=>a.2.1) (SV b (b++qV n)) (5,n,b) ⟨by show n<128^6;omega,rfl,by simp,hn⟩ rfl (by simp) (fun a a' ia ha=> ?_) (fun a ia ha=> ?_)
 ·obtain⟨f,m,o⟩:=a
  obtain⟨hm,hi,rfl⟩:=KA ia ha
  obtain⟨_,_,hl,hmx⟩:=ia
  simp only at hl hmx
  have hlt:dK (m:Int) 128=false:=xD (by omega)
  have hlt2:dK 127 (m:Int)=true:=mG (by omega)
  have q:=Is (n:=m%128+128) (by omega)
  have m1:o.length≤140737488355327∧o.length≤9223372036854775806:=by omega
  have m2:=eR (m:=o.length+1) (z:=1) (by omega) (by omega)
  have r1:(m:Int).tmod 128=(m:Int)%128:=Int.tmod_eq_emod_of_nonneg (by omega)
  have r2:(m:Int).tdiv 128=(m:Int)/128:=Int.tdiv_eq_ediv_of_nonneg (by omega)
  have r3:IntKind.i64.wrap ((m:Int)%128+128)=(m:Int)%128+128:=by rw[IntKind.wrap_i64];omega
  have r4:IntKind.i64.wrap ((m:Int)/128)=(m:Int)/128:=by rw[IntKind.wrap_i64];omega
  have r5:IntKind.u8.wrap ((m:Int)%128+128)=(m:Int)%128+128:=by have:=q.1;simpa using this
  have r6:((m:Int)%128+128)%256=(m:Int)%128+128:=by omega
  refine⟨by show m/128<m;omega,hi,?_⟩
  simp(maxSteps:=9999999) [fU,hlt,hlt2,r1,r2,r3,r4,r5,m1,m2,jO,bp,-eS]
  exact Kn.of [2] (by decide) (by simp[jO,r5,r6]) (by simp[r4])
 ·obtain⟨f,m,o⟩:=a
  obtain⟨hm,hi⟩:=MY ia ha
  obtain⟨_,_,hl,hmx⟩:=ia
  simp only at hl hmx
  have hlt:dK (m:Int) 128=true:=mG (by omega)
  have hlt2:dK 127 (m:Int)=false:=xD (by omega)
  have q:=Is (n:=m) (by omega)
  have m1:o.length≤140737488355327∧o.length≤9223372036854775806:=by omega
  have m2:=eR (m:=o.length+1) (z:=1) (by omega) (by omega)
  rw[←hi]
  simp(maxSteps:=9999999) [fU,hlt,hlt2,q,m1,m2,jO,bp]
theorem Tt (m:Nat):lw .shr .i64 (m:Int) 7=some (aa .i64 ((m:Int)/128)):=by
 have e:(min (Int.toNat 7) IntKind.i64.bits)=7:=by decide
 simp only[lw]
 rw[if_neg (by omega)]
 simp only[e]
 rw[show((2:Int)^7)=128 by decide,Int.fdiv_eq_ediv_of_nonneg _ (by omega)]
theorem jb {b:List UInt8}(hb:b.length≤1048000){n:Nat}(hn:n≤1000000000000):ag Ph aF 244 [bu (al b),aa .i64 (n:Int)]=some (.one (.own 1 (al (b++qV n)))):=by
 have e1:rg (n:Int) 0 1000000000000=true:=Ea.2 ⟨by omega,by omega⟩
 have e2:=br (n:Int) 0 1000000000000
 rw[e1]at e2
 have w1:=iT b
 have m0:b.length≤140737488355328∧b.length≤9223372036854775807:=by omega
 refine ae (fn:=ju) rfl ?_
 simp(maxSteps:=9999999) [ju,e2,w1,m0,bp]
 refine Qo aM Cl.fin [.f,.t,.f,.f,.f,.t,.f,.f,.f,.f,.f,.f,.f,.f,.f,.f,.f,.f,.f,.f,.f,.f,.f,.f,.f,.f,.f,.f,.f] (fun a=>[(1,aa .i64 (a.2.1:Nat)),(5, .one (.arr 0))]) (fun a=>[.arr 1 (al a.2.2)]) Aj (fun a=>a.2.1) (SV b (b++qV n)) (5,n,b) ⟨by show n<128^6;omega,rfl,by simp,hn⟩ rfl (Kn.of [1] (by decide) (by simp) (by simp)) (fun a a' ia ha=> ?_) (fun a ia ha=> ?_)
 ·obtain⟨f,m,o⟩:=a
  obtain⟨hm,hi,rfl⟩:=KA ia ha
  obtain⟨_,_,hl,hmx⟩:=ia
  simp only at hl hmx
  have hlt:dK (m:Int) 128=false:=xD (by omega)
  have hlt2:dK 127 (m:Int)=true:=mG (by omega)
  have q:=Is (n:=m%128+128) (by omega)
  have m1:o.length≤140737488355327∧o.length≤9223372036854775806:=by omega
  have m2:=eR (m:=o.length+1) (z:=1) (by omega) (by omega)
  have r1:=RA (n:=m) (by omega)
  have r2:=Tt m
  have r3:=SO (n:=m%128) (by omega)
  have e:((m%128:Nat):Int)=(m:Int)%128:=by omega
  have e':((m%128+128:Nat):Int)=(m:Int)%128+128:=by omega
  rw[e]at r1 r3
  rw[e']at r3
  have r4:IntKind.i64.wrap ((m:Int)/128)=(m:Int)/128:=by rw[IntKind.wrap_i64];omega
  have r5:IntKind.u8.wrap ((m:Int)%128+128)=(m:Int)%128+128:=by have:=q.1;simpa using this
  have r6:((m:Int)%128+128)%256=(m:Int)%128+128:=by omega
  refine⟨by show m/128<m;omega,hi,?_⟩
  simp(maxSteps:=9999999) [fV,hlt,hlt2, ↓r1,r2, ↓r3,r4,r5,m1,m2,jO,bp,-eS]
  exact Kn.of [2] (by decide) (by simp[jO,r5,r6]) (by simp[r4])
 ·obtain⟨f,m,o⟩:=a
  obtain⟨hm,hi⟩:=MY ia ha
  obtain⟨_,_,hl,hmx⟩:=ia
  simp only at hl hmx
  have hlt:dK (m:Int) 128=true:=mG (by omega)
  have hlt2:dK 127 (m:Int)=false:=xD (by omega)
  have q:=Is (n:=m) (by omega)
  have m1:o.length≤140737488355327∧o.length≤9223372036854775806:=by omega
  have m2:=eR (m:=o.length+1) (z:=1) (by omega) (by omega)
  rw[←hi]
  simp(maxSteps:=9999999) [fV,hlt,hlt2,q,m1,m2,jO,bp]
theorem AC (s u:List UInt8):al (s++u)=al s++al u:=by simp[al]
theorem tW {b s:List UInt8}(hb:b.length≤1048000)(hs:s.length≤1048576):ag Ph aF 248 [bu (al b),bu (al s)]=some (.one (.own 1 (al (b++Iy s)))):=by
 have e1:=i9 hb (n:=s.length) (by omega)
 have w1:=iT s
 have hl:=rU s.length
 have m1:b.length+(qV s.length).length+s.length≤140737488355328∧b.length+(qV s.length).length+s.length≤9223372036854775807:=by omega
 rw[show b++Iy s=(b++qV s.length)++s by simp[Iy]]
 have e:al ((b++qV s.length)++s)=al (b++qV s.length)++al s:=AC _ _
 rw[e]
 refine ae (fn:=kL) rfl ?_
 simp(maxSteps:=9999999) [kL,e1,w1,m1,bp]
theorem uc {b s:List UInt8}(hb:b.length≤1048000)(hs:s.length≤1048576):ag Ph aF 245 [bu (al b),bu (al s)]=some (.one (.own 1 (al (b++Iy s)))):=by
 have e1:=jb hb (n:=s.length) (by omega)
 have w1:=iT s
 have hl:=rU s.length
 have m1:b.length+(qV s.length).length+s.length≤140737488355328∧b.length+(qV s.length).length+s.length≤9223372036854775807:=by omega
 rw[show b++Iy s=(b++qV s.length)++s by simp[Iy]]
 have e:al ((b++qV s.length)++s)=al (b++qV s.length)++al s:=AC _ _
 rw[e]
 refine ae (fn:=kY) rfl ?_
 simp(maxSteps:=9999999) [kY,e1,w1,m1,bp]
def As (r:XRecord):V:=cond (nV r.fs) (bu (al (sa r))) (.one (.own 1 []))
theorem Ed (r:XRecord):dG (As r)=bu (al (sa r)):=by
 unfold As
 cases c:nV r.fs
 ·simp[sa,c,dG,dk,al]
 ·rfl
theorem sC {r:XRecord}(h:r.Ok maxLen):ag Ph aF 226 [r.v]=some (As r):=by
 have e1:=qB h
 unfold As
 refine ae (fn:=gX) rfl ?_
 cases c1:nV r.fs<;>rw[c1]at e1
 ·simp(maxSteps:=9999999) [gX,e1]
 obtain⟨hf,ho⟩:=zS (r:=r) c1
 have e2:=i9 (b:=[]) (by simp) (n:=r.fs.length) (by omega)
 rw[List.nil_append,show al []=[]from rfl]at e2
 simp(maxSteps:=9999999) [gX,e1,e2]
 refine aA aM Cl.fin [.f,.f,.f,.t,.f,.f,.f,.f,.f,.f,.f,.f,.f,.f,.f,.t,.t,.t,.f,.f,.f,.f,.f,.f,.f,.f,.f,.f,.f,.f,.f] (fun k=>[(3,bu (al (qV r.fs.length++iv (r.fs.take k)))),(17,aa .i64 k)]) r.fs.length (fun _=>false) rfl (by simp[iv]) (fun k hk _=> ?_) (fun _ _=> ?_)
 ·have hx:=XField.e.eq_1 r.fs[k]
  have hq:=ho _ (List.getElem_mem hk)
  have l1:=rU r.fs.length
  have l2:=tC (r.fs.take k) (fun f hf=>ho f (List.mem_of_mem_take hf))
  have l3:(r.fs.take k).length≤6:=by rw[List.length_take];omega
  have l4:=rU r.fs[k].name.length
  have e3:=tW (b:=qV r.fs.length++iv (r.fs.take k)) (s:=r.fs[k].name) (by rw[List.length_append];omega) (by have:=hq.1;omega)
  have e4:=i9 (b:=qV r.fs.length++iv (r.fs.take k)++Iy r.fs[k].name) (by simp only[List.length_append,Iy];have:=hq.1;omega) (n:=r.fs[k].n.toNat) (by have:=hq.2.2;omega)
  rw[show((r.fs[k].n.toNat:Nat):Int)=r.fs[k].n by have:=hq.2.1;omega]at e4
  have ht:iv (r.fs.take (k+1))=iv (r.fs.take k)++(Iy r.fs[k].name++qV r.fs[k].n.toNat):=by
   unfold iv;rw[List.take_succ_eq_append_getElem hk,List.flatMap_append];simp[QI]
  have ha:qV r.fs.length++iv (r.fs.take (k+1))=qV r.fs.length++iv (r.fs.take k)++Iy r.fs[k].name++qV r.fs[k].n.toNat:=by rw[ht];simp
  rw[ha]
  generalize qV r.fs.length++iv (r.fs.take k)=W at e3 e4⊢
  generalize W++Iy r.fs[k].name=W2 at e3 e4⊢
  generalize W2++qV r.fs[k].n.toNat=W3 at e4⊢
  simp(maxSteps:=9999999) [gm,hk,hx,e3,e4,aD h.1 hk,aS hk]
 ·have he:sa r=qV r.fs.length++iv r.fs:=by simp[sa,c1]
  rw[he]
  simp(maxSteps:=9999999) [gm]
theorem sX {r:XRecord}(h:r.Ok maxLen):ag Ph aF 222 [r.v]=some (As r):=by
 have e1:=qM h
 unfold As
 refine ae (fn:=gY) rfl ?_
 cases c1:nV r.fs<;>rw[c1]at e1
 ·simp(maxSteps:=9999999) [gY,e1]
 obtain⟨hf,ho⟩:=zS (r:=r) c1
 have e2:=jb (b:=[]) (by simp) (n:=r.fs.length) (by omega)
 rw[List.nil_append,show al []=[]from rfl]at e2
 simp(maxSteps:=9999999) [gY,e1,e2]
 refine aA aM Cl.fin [.f,.t,.f,.t,.t,.f,.f,.f,.f,.f,.f,.f,.f,.f,.f,.f,.f,.f,.f,.f,.f,.f,.f,.f,.f,.f,.f,.f,.f,.f,.f,.f,.f,.f,.f,.f,.f,.f] (fun k=>[(3,bu (al (qV r.fs.length++iv (r.fs.take k)))),(4,aa .i64 k)]) r.fs.length (fun _=>false) rfl (by simp[iv]) (fun k hk _=> ?_) (fun _ _=> ?_)
 ·have hx:=XField.e.eq_1 r.fs[k]
  have hq:=ho _ (List.getElem_mem hk)
  have l1:=rU r.fs.length
  have l2:=tC (r.fs.take k) (fun f hf=>ho f (List.mem_of_mem_take hf))
  have l3:(r.fs.take k).length≤6:=by rw[List.length_take];omega
  have l4:=rU r.fs[k].name.length
  have e3:=uc (b:=qV r.fs.length++iv (r.fs.take k)) (s:=r.fs[k].name) (by rw[List.length_append];omega) (by have:=hq.1;omega)
  have e4:=jb (b:=qV r.fs.length++iv (r.fs.take k)++Iy r.fs[k].name) (by simp only[List.length_append,Iy];have:=hq.1;omega) (n:=r.fs[k].n.toNat) (by have:=hq.2.2;omega)
  rw[show((r.fs[k].n.toNat:Nat):Int)=r.fs[k].n by have:=hq.2.1;omega]at e4
  have ht:iv (r.fs.take (k+1))=iv (r.fs.take k)++(Iy r.fs[k].name++qV r.fs[k].n.toNat):=by
   unfold iv;rw[List.take_succ_eq_append_getElem hk,List.flatMap_append];simp[QI]
  have ha:qV r.fs.length++iv (r.fs.take (k+1))=qV r.fs.length++iv (r.fs.take k)++Iy r.fs[k].name++qV r.fs[k].n.toNat:=by rw[ht];simp
  rw[ha]
  generalize qV r.fs.length++iv (r.fs.take k)=W at e3 e4⊢
  generalize W++Iy r.fs[k].name=W2 at e3 e4⊢
  generalize W2++qV r.fs[k].n.toNat=W3 at e4⊢
  simp(maxSteps:=9999999) [gq,hk,hx,e3,e4,aD h.1 hk,aS hk]
 ·have he:sa r=qV r.fs.length++iv r.fs:=by simp[sa,c1]
  rw[he]
  simp(maxSteps:=9999999) [gq]
end Gi
