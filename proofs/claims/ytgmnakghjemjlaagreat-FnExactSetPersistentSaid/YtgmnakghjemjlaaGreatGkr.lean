/- Of this proof. -/
import Derived.Test.YtgmnakghjemjlaaGreatGkd
import Derived.Test.YtgmnakghjemjlaaGreatGka
set_option linter.unusedSimpArgs false
set_option linter.unusedVariables false
namespace Gi
open Go Go.RowKit
set_option maxHeartbeats 4000000
def MG :Nat→Nat→List UInt8
 |0,_=>[]
 |f+1,n=>if n<128 then [UInt8.ofNat n]else UInt8.ofNat (n%128+128)::MG f (n/128)
def qd (n:Nat):List UInt8:=MG 6 n
theorem KW :∀(f n:Nat),(MG f n).length≤f
 |0,n=>by simp[MG]
 |f+1,n=>by
  have:=KW f (n/128)
  unfold MG
  split<;>simp<;>omega
theorem qE (n:Nat):(qd n).length≤6:=KW 6 n
theorem E6 {n:Nat}(h:n<128):(qd n).length=1:=by simp[qd,MG,h]
def GT (s:List UInt8):List UInt8:=qd s.length++s
def PO (x:Nat):List UInt8:=[UInt8.ofNat (x/1099511627776),UInt8.ofNat (x/4294967296),UInt8.ofNat (x/16777216),UInt8.ofNat (x/65536),UInt8.ofNat (x/256),UInt8.ofNat x]
def kS (k:XKey):List UInt8:=if pT k=true then UInt8.ofNat k.kind.toNat::((if k.kind=2 then []else PO (k.n+1000000000000).toNat)++k.text)else []
theorem CP {n a b:Int}:rg n a b=true↔a≤n∧n≤b:=by simp[rg,dK]
theorem yt {k:XKey}(h:pT k=true):1≤k.kind∧k.kind≤3∧-1000000000000≤k.n∧k.n≤1000000000000∧(k.kind=2→k.n=0)∧k.text.length≤12:=by
 unfold pT rB at h
 simp only[Bool.and_eq_true,CP,Bool.or_eq_true,Bool.not_eq_true',beq_eq_false_iff_ne,beq_iff_eq]at h
 obtain⟨⟨⟨⟨⟨h1,h2⟩,h3,h4⟩,h5⟩,_,h6⟩,_⟩:=h
 have:=of_decide_eq_false h6
 exact⟨h1,h2,h3,h4,fun q=>h5.resolve_left (fun z=>z q),by omega⟩
theorem Bq (k:XKey):(kS k).length≤19:=by
 unfold kS
 split
 ·rename_i h
  have:=(yt h).2.2.2.2.2
  split<;>simp[PO]<;>omega
 ·simp
def Oo (f:XField):List UInt8:=GT f.name++qd f.n.toNat
def hY (l:List XField):List UInt8:=l.flatMap Oo
def qL (r:XRecord):List UInt8:=if ng r.fs=true then qd r.fs.length++hY r.fs else []
def Q1 (f:XField):Prop:=f.name.length≤8∧0≤f.n∧f.n≤1000000000000
theorem Jp {s:List UInt8}(h:cy s=true):1≤s.length∧s.length≤8:=by
 simp only[cy,pD,Bool.and_eq_true,CP]at h
 omega
theorem yB {r:XRecord}(h:ng r.fs=true):r.fs.length≤6∧∀f∈r.fs,Q1 f:=by
 simp only[ng,Bool.and_eq_true,Bool.not_eq_true']at h
 have hl:=of_decide_eq_false h.2
 refine⟨by omega,fun f m=> ?_⟩
 obtain⟨j,hj,rfl⟩:=List.mem_iff_getElem.1 m
 have:=MU h.1 hj
 simp only[La,hj,show j-1<r.fs.length by omega,List.getElem?_eq_getElem,Bool.or_eq_false_iff,Bool.not_eq_false',CP]at this
 have q:=Jp this.1
 exact⟨q.2,this.2.1.1,by omega⟩
theorem sB :∀(l:List XField),(∀f∈l,Q1 f)→(hY l).length≤15*l.length
 |[],h=>by simp[hY]
 |f::l,h=>by
  have ih:=sB l (fun g m=>h g (by simp[m]))
  have h1:=(h f (by simp)).1
  have h2:=E6 (n:=f.name.length) (by omega)
  have h3:=qE f.n.toNat
  simp only[hY,List.flatMap_cons,Oo,GT,List.length_append,List.length_cons]at ih⊢
  omega
theorem Br (r:XRecord):(qL r).length≤91:=by
 unfold qL
 split
 ·rename_i h
  obtain⟨h1,h2⟩:=yB h
  have:=sB r.fs h2
  have:=E6 (n:=r.fs.length) (by omega)
  simp only[List.length_append]
  omega
 ·simp
structure Raw where
 kind:Nat
 a:List UInt8
 b:List UInt8
 c:List UInt8
 d:List UInt8
structure XOp where
 kind:Int
 store:List UInt8
 key:XKey
 rcd:XRecord
 field:List UInt8
def XOp.e (x:XOp):List PV:=[.int .i64 x.kind, .str x.store, .int .i64 x.key.kind, .int .i64 x.key.n, .str x.key.text, .lst (x.rcd.fs.map XField.e), .str x.field]
abbrev XOp.v (x:XOp):V:= .agg [.pv (.int .i64 x.kind), .pv (.str x.store), .pv (.int .i64 x.key.kind), .pv (.int .i64 x.key.n), .pv (.str x.key.text), .pv (.lst (x.rcd.fs.map XField.e)), .pv (.str x.field)]
def XOp.Ok (B:Nat)(x:XOp):Prop:=oV x.kind∧x.store.length≤B∧x.key.Ok B∧x.rcd.Ok B∧x.field.length≤B
end Gi
namespace Gi
open Go Go.RowKit
set_option maxHeartbeats 8000000
set_option maxRecDepth 4000
attribute [local simp] bu ah az aI bg bX Opd.ev put V.cells plain bn f9 isInt isStr isBool bin bD nI nH un asList L.view ap V.view viewL aS av bx bP comp aK bt dz ct bI bG bH bO bj cz aX bK aQ aY bM cB bL bJ bN V.flat L.flat dL du bA putAt thaw thawL thawT freezeVs freezeLs freezeL V.mut L.mut aJ aU dM cj dQ bT bC wp_seq wp_block nD wp_cond wp_skip wp_exit wp_ret cN cM cS cO dj dk di cq aW L.notArr aP aN aO dR bo storeD bc fR br cE bf nE L.mov L.closed V.closed PV.bare PV.flat
theorem bp {s:List UInt8}:(al s).length=s.length:=by simp[al]
structure Flat (z:Nat) (R:List (List PV)):Prop where
 flat:lu R=true
 wid:(R.all fun r=>r.length==z)=true
 len:R.length≤1048576
theorem ly {R:List (List PV)}(h:Flat 1 R):ag Ph aG 261 [bv R]=some (.one (.down 1 R)):=by
 have hf:=h.flat
 have hw:=h.wid
 have m:=eR (m:=R.length) (z:=1) (by have:=h.len;omega) (by omega)
 rw[Nat.mul_one]at m
 refine ae (fn:=lX) rfl ?_
 simp[lX,hf,hw,m]
theorem wL {R:List (List PV)}(h:Flat 4 R):ag Ph aG 489 [bv R]=some (.one (.down 4 R)):=by
 have hf:=h.flat
 have hw:=h.wid
 have m:=eR (m:=R.length) (z:=40) (by have:=h.len;omega) (by omega)
 refine ae (fn:=mn) rfl ?_
 simp[mn,hf,hw,m]
theorem ut {B:Nat}(hB:B≤1048576){x:XRecord}(h:x.Ok B):ag Ph aG 242 [.agg [.pv (.lst (x.fs.map XField.e))]]=some (.agg [.down 2 (x.fs.map XField.e)]):=by
 have h_fs:=h
 have F0:Flat 2 (x.fs.map XField.e):=⟨dG (e:=XField.e) (fun _=>rfl) _,dy (e:=XField.e) (z:=2) (fun _=>rfl) _,by rw[List.length_map];have:=h_fs.1;omega⟩
 have hf0:=F0.flat
 have hw0:=F0.wid
 have m0:=eR (m:=(x.fs.map XField.e).length) (z:=24) (by have:=F0.len;omega) (by omega)
 generalize (x.fs.map XField.e)=R0 at F0 hf0 hw0 m0⊢
 refine ae (fn:=k8) rfl ?_
 simp[k8,hf0,hw0,m0]
theorem C3 {B:Nat}(hB:B≤1048576){x:XRecord}(h:x.Ok B):ag Ph aG 239 [.agg [.pv (.lst (x.fs.map XField.e))]]=some (.agg [.down 2 (x.fs.map XField.e)]):=by
 have h_fs:=h
 have F0:Flat 2 (x.fs.map XField.e):=⟨dG (e:=XField.e) (fun _=>rfl) _,dy (e:=XField.e) (z:=2) (fun _=>rfl) _,by rw[List.length_map];have:=h_fs.1;omega⟩
 have hf0:=F0.flat
 have hw0:=F0.wid
 have m0:=eR (m:=(x.fs.map XField.e).length) (z:=24) (by have:=F0.len;omega) (by omega)
 generalize (x.fs.map XField.e)=R0 at F0 hf0 hw0 m0⊢
 refine ae (fn:=px) rfl ?_
 simp[px,hf0,hw0,m0]
theorem pR {B:Nat}(hB:B≤1048576){x:XItem}(h:x.Ok B):ag Ph aG 218 [.agg [.pv (.int .i64 x.key.kind), .pv (.int .i64 x.key.n), .pv (.str x.key.text), .pv (.lst (x.rcd.fs.map XField.e))]]=some (.agg [.pv (.int .i64 x.key.kind), .pv (.int .i64 x.key.n), .pv (.str x.key.text), .down 2 (x.rcd.fs.map XField.e)]):=by
 obtain⟨h_key,h_rcd⟩:=h
 have c0:=ut hB h_rcd
 refine ae (fn:=mS) rfl ?_
 simp[mS,c0]
theorem r9 {B:Nat}(hB:B≤1048576){x:XItem}(h:x.Ok B):ag Ph aG 214 [.agg [.pv (.int .i64 x.key.kind), .pv (.int .i64 x.key.n), .pv (.str x.key.text), .pv (.lst (x.rcd.fs.map XField.e))]]=some (.agg [.pv (.int .i64 x.key.kind), .pv (.int .i64 x.key.n), .pv (.str x.key.text), .down 2 (x.rcd.fs.map XField.e)]):=by
 obtain⟨h_key,h_rcd⟩:=h
 have c0:=C3 hB h_rcd
 refine ae (fn:=pz) rfl ?_
 simp[pz,c0]
theorem ta {B:Nat}(hB:B≤1048576){x:XMachine}(h:x.Ok B):ag Ph aG 493 [.agg [.pv (.lst (x.script.map XInstr.e)), .pv (.int .i64 x.pc), .pv (.lst (x.regs.map sU)), .pv (.int .i64 x.steps), .pv (.bool x.done), .pv (.bool x.wait)]]=some (.agg [.down 4 (x.script.map XInstr.e), .pv (.int .i64 x.pc), .down 1 (x.regs.map sU), .pv (.int .i64 x.steps), .pv (.bool x.done), .pv (.bool x.wait)]):=by
 obtain⟨h_script,h_pc,h_regs,h_steps⟩:=h
 have F0:Flat 4 (x.script.map XInstr.e):=⟨dG (e:=XInstr.e) (fun _=>rfl) _,dy (e:=XInstr.e) (z:=4) (fun _=>rfl) _,by rw[List.length_map];have:=h_script.1;omega⟩
 have hf0:=F0.flat
 have hw0:=F0.wid
 have m0:=eR (m:=(x.script.map XInstr.e).length) (z:=40) (by have:=F0.len;omega) (by omega)
 generalize (x.script.map XInstr.e)=R0 at F0 hf0 hw0 m0⊢
 have F1:Flat 1 (x.regs.map sU):=⟨dG (e:=sU) (fun _=>rfl) _,dy (e:=sU) (z:=1) (fun _=>rfl) _,by rw[List.length_map];have:=h_regs.1;omega⟩
 have hf1:=F1.flat
 have hw1:=F1.wid
 have m1:=eR (m:=(x.regs.map sU).length) (z:=8) (by have:=F1.len;omega) (by omega)
 generalize (x.regs.map sU)=R1 at F1 hf1 hw1 m1⊢
 refine ae (fn:=ko) rfl ?_
 simp[ko,hf0,hw0,m0,hf1,hw1,m1]
theorem AE {B:Nat}(hB:B≤1048576){x:XMachine}(h:x.Ok B):ag Ph aG 477 [.agg [.pv (.lst (x.script.map XInstr.e)), .pv (.int .i64 x.pc), .pv (.lst (x.regs.map sU)), .pv (.int .i64 x.steps), .pv (.bool x.done), .pv (.bool x.wait)]]=some (.agg [.down 4 (x.script.map XInstr.e), .pv (.int .i64 x.pc), .down 1 (x.regs.map sU), .pv (.int .i64 x.steps), .pv (.bool x.done), .pv (.bool x.wait)]):=by
 obtain⟨h_script,h_pc,h_regs,h_steps⟩:=h
 have c0:=wL (R:=(x.script.map XInstr.e)) ⟨dG (fun _=>rfl) _,dy (z:=4) (fun _=>rfl) _,by rw[List.length_map];have:=h_script.1;omega⟩
 have F0:Flat 1 (x.regs.map sU):=⟨dG (e:=sU) (fun _=>rfl) _,dy (e:=sU) (z:=1) (fun _=>rfl) _,by rw[List.length_map];have:=h_regs.1;omega⟩
 have hf0:=F0.flat
 have hw0:=F0.wid
 have m0:=eR (m:=(x.regs.map sU).length) (z:=8) (by have:=F0.len;omega) (by omega)
 generalize (x.regs.map sU)=R0 at F0 hf0 hw0 m0⊢
 refine ae (fn:=nT) rfl ?_
 simp[nT,c0,hf0,hw0,m0]
theorem yp {B:Nat}(hB:B≤1048576){x:XPage}(h:x.Ok B):ag Ph aG 479 [.agg [.pv (.int .i64 x.id), .pv (.str x.site), .pv (.str x.top), .pv (.int .i64 x.version), .pv (.lst (x.loaded.map XLoaded.e)), .pv (.lst (x.machine.script.map XInstr.e)), .pv (.int .i64 x.machine.pc), .pv (.lst (x.machine.regs.map sU)), .pv (.int .i64 x.machine.steps), .pv (.bool x.machine.done), .pv (.bool x.machine.wait)]]=some (.agg [.pv (.int .i64 x.id), .pv (.str x.site), .pv (.str x.top), .pv (.int .i64 x.version), .down 2 (x.loaded.map XLoaded.e), .down 4 (x.machine.script.map XInstr.e), .pv (.int .i64 x.machine.pc), .down 1 (x.machine.regs.map sU), .pv (.int .i64 x.machine.steps), .pv (.bool x.machine.done), .pv (.bool x.machine.wait)]):=by
 obtain⟨h_id,h_site,h_top,h_version,h_loaded,h_machine⟩:=h
 have c0:=ta hB h_machine
 have F0:Flat 2 (x.loaded.map XLoaded.e):=⟨dG (e:=XLoaded.e) (fun _=>rfl) _,dy (e:=XLoaded.e) (z:=2) (fun _=>rfl) _,by rw[List.length_map];have:=h_loaded.1;omega⟩
 have hf0:=F0.flat
 have hw0:=F0.wid
 have m0:=eR (m:=(x.loaded.map XLoaded.e).length) (z:=24) (by have:=F0.len;omega) (by omega)
 generalize (x.loaded.map XLoaded.e)=R0 at F0 hf0 hw0 m0⊢
 refine ae (fn:=mU) rfl ?_
 simp[mU,c0,hf0,hw0,m0]
theorem AI {B:Nat}(hB:B≤1048576){x:XPage}(h:x.Ok B):ag Ph aG 451 [.agg [.pv (.int .i64 x.id), .pv (.str x.site), .pv (.str x.top), .pv (.int .i64 x.version), .pv (.lst (x.loaded.map XLoaded.e)), .pv (.lst (x.machine.script.map XInstr.e)), .pv (.int .i64 x.machine.pc), .pv (.lst (x.machine.regs.map sU)), .pv (.int .i64 x.machine.steps), .pv (.bool x.machine.done), .pv (.bool x.machine.wait)]]=some (.agg [.pv (.int .i64 x.id), .pv (.str x.site), .pv (.str x.top), .pv (.int .i64 x.version), .down 2 (x.loaded.map XLoaded.e), .down 4 (x.machine.script.map XInstr.e), .pv (.int .i64 x.machine.pc), .down 1 (x.machine.regs.map sU), .pv (.int .i64 x.machine.steps), .pv (.bool x.machine.done), .pv (.bool x.machine.wait)]):=by
 obtain⟨h_id,h_site,h_top,h_version,h_loaded,h_machine⟩:=h
 have c0:=AE hB h_machine
 have F0:Flat 2 (x.loaded.map XLoaded.e):=⟨dG (e:=XLoaded.e) (fun _=>rfl) _,dy (e:=XLoaded.e) (z:=2) (fun _=>rfl) _,by rw[List.length_map];have:=h_loaded.1;omega⟩
 have hf0:=F0.flat
 have hw0:=F0.wid
 have m0:=eR (m:=(x.loaded.map XLoaded.e).length) (z:=24) (by have:=F0.len;omega) (by omega)
 generalize (x.loaded.map XLoaded.e)=R0 at F0 hf0 hw0 m0⊢
 refine ae (fn:=nX) rfl ?_
 simp[nX,c0,hf0,hw0,m0]
def fQ (b0 b1:AObj)(y0:L)(y2:L)(rows:List (List PV)):Nat→List AObj
 |0=>[b0,b1, .box [y0, .nil,y2]]
 |k+1=>[b0,b1, .box [y0, .arr 3,y2], .darr 4 (rows.take (k+1))]
theorem lA {B:Nat}(hB:B≤1048576){x:XStore}(h:x.Ok B):ag Ph aG 191 [.agg [.pv (.str x.name), .pv (.lst (x.items.map XItem.e)), .pv (.int .i64 x.auto)]]=some (.agg [.pv (.str x.name),nd 4 (x.items.map XItem.e), .pv (.int .i64 x.auto)]):=by
 obtain⟨h_name,h_items,h_auto⟩:=h
 have e1:∀k(hk:k<x.items.length),_:=fun k hk=>pR hB (h_items.2 _ (List.getElem_mem hk))
 have hl:x.items.length≤1048576:=Nat.le_trans h_items.1 hB
 refine ae (fn:=ma) rfl ?_
 simp[ma]
 refine cL aR Cl.fin x.items.length [.f,.f,.t,.t,.f,.f,.f,.f,.f,.f,.f,.f,.t,.t,.t,.f,.f,.f,.f,.f,.f,.f,.f,.f,.f,.f,.f] (fun k=>[(14,aa .i64 k)]) (fQ (.box [.pv (.str x.name), .pv (.lst (x.items.map XItem.e)), .pv (.int .i64 x.auto)]) (.box [.pv (.str []), .nil, .pv (.int .i64 0)]) (.pv (.str x.name)) (.pv (.int .i64 x.auto)) (x.items.map XItem.e)) rfl ?_ ?_ ?_
 ·exact Kn.q [0,1,2] (by simp[fQ,aP,aN,aO,dR,bo,aM,be,aE,dq,bE,bi,bS,L.ren,aQ])
 ·intro k hk
  have ek:=e1 k hk
  have hx:=XItem.e.eq_1 x.items[k]
  have ht:=bU (e:=XItem.e) hk
  rw[hx]at ht
  cases k with
  |zero=>
   simp only[fQ,ht]
   simp[fa,hk,hx,ek,bV]
   exact Kn.q [0,1,2,6]
  |succ k=>
   obtain⟨i1,i2,i3,i4,i5,i6⟩:=mE (n:=x.items.length) (by unfold maxLen;omega) hk
   have b1:min (k+1) x.items.length=k+1:=by omega
   have m1:=eR (m:=k+1+1) (z:=56) (by omega) (by omega)
   simp only[fQ,ht]
   generalize hT:List.take (k+1) _=T
   have hTl:T.length=k+1:=by rw[←hT];simp;omega
   simp[fa,hk,hx,ek,i1,i2,i3,i4,i5,i6,hTl,m1]
   exact Kn.q [0,1,2,7]
 ·cases hq:x.items with
  |nil=>simp[fa,fQ,nd]
  |cons q qs=>
   have hT:(x.items.map XItem.e).take (qs.length+1)=x.items.map XItem.e:=List.take_of_length_le (by rw[hq];simp)
   rw[hq]at hT
   simp only[List.length_cons,fQ,hT]
   simp[fa,nd]
def iA (b0 b1:AObj)(y0:L)(y2:L)(rows:List (List PV)):Nat→List AObj
 |0=>[b0,b1, .box [y0, .nil,y2]]
 |k+1=>[b0,b1, .box [y0, .arr 3,y2], .darr 4 (rows.take (k+1))]
theorem oH {B:Nat}(hB:B≤1048576){x:XStore}(h:x.Ok B):ag Ph aG 187 [.agg [.pv (.str x.name), .pv (.lst (x.items.map XItem.e)), .pv (.int .i64 x.auto)]]=some (.agg [.pv (.str x.name),nd 4 (x.items.map XItem.e), .pv (.int .i64 x.auto)]):=by
 obtain⟨h_name,h_items,h_auto⟩:=h
 have e1:∀k(hk:k<x.items.length),_:=fun k hk=>r9 hB (h_items.2 _ (List.getElem_mem hk))
 have hl:x.items.length≤1048576:=Nat.le_trans h_items.1 hB
 refine ae (fn:=py) rfl ?_
 simp[py]
 refine cL aR Cl.fin x.items.length [.f,.t,.t,.t,.t,.f,.f,.f,.f,.f,.f,.f,.f,.f,.f,.f,.f,.f,.f,.f,.f,.f,.f,.f,.f,.f,.f,.f,.f] (fun k=>[(4,aa .i64 k)]) (iA (.box [.pv (.str x.name), .pv (.lst (x.items.map XItem.e)), .pv (.int .i64 x.auto)]) (.box [.pv (.str []), .nil, .pv (.int .i64 0)]) (.pv (.str x.name)) (.pv (.int .i64 x.auto)) (x.items.map XItem.e)) rfl ?_ ?_ ?_
 ·exact Kn.q [0,1,2] (by simp[iA,aP,aN,aO,dR,bo,aM,be,aE,dq,bE,bi,bS,L.ren,aQ])
 ·intro k hk
  have ek:=e1 k hk
  have hx:=XItem.e.eq_1 x.items[k]
  have ht:=bU (e:=XItem.e) hk
  rw[hx]at ht
  cases k with
  |zero=>
   simp only[iA,ht]
   simp[gh,hk,hx,ek,bV]
   exact Kn.q [0,1,2,5]
  |succ k=>
   obtain⟨i1,i2,i3,i4,i5,i6⟩:=mE (n:=x.items.length) (by unfold maxLen;omega) hk
   have b1:min (k+1) x.items.length=k+1:=by omega
   have m1:=eR (m:=k+1+1) (z:=56) (by omega) (by omega)
   simp only[iA,ht]
   generalize hT:List.take (k+1) _=T
   have hTl:T.length=k+1:=by rw[←hT];simp;omega
   simp[gh,hk,hx,ek,i1,i2,i3,i4,i5,i6,hTl,m1]
   exact Kn.q [0,1,2,6]
 ·cases hq:x.items with
  |nil=>simp[gh,iA,nd]
  |cons q qs=>
   have hT:(x.items.map XItem.e).take (qs.length+1)=x.items.map XItem.e:=List.take_of_length_le (by rw[hq];simp)
   rw[hq]at hT
   simp only[List.length_cons,iA,hT]
   simp[gh,nd]
def eN (b0 b1:AObj)(nm:List UInt8)(ver:Int)(U rows:List (List PV)):Nat→List AObj
 |0=>[b0,b1, .box [.pv (.str nm), .pv (.int .i64 ver), .nil, .arr 3], .darr 2 U]
 |k+1=>[b0,b1, .box [.pv (.str nm), .pv (.int .i64 ver), .arr 4, .arr 3], .darr 2 U, .darr 3 (rows.take (k+1))]
theorem rt {B:Nat}(hB:B≤1048576){x:XDatabase}(h:x.Ok B):ag Ph aG 498 [.agg [.pv (.str x.name), .pv (.int .i64 x.version), .pv (.lst (x.stores.map XStore.e)), .pv (.lst (x.unique.map XIndexDef.e))]]=some (.agg [.pv (.str x.name), .pv (.int .i64 x.version),nd 3 (x.stores.map XStore.e), .down 2 (x.unique.map XIndexDef.e)]):=by
 obtain⟨h_name,h_version,h_stores,h_unique⟩:=h
 have F0:Flat 2 (x.unique.map XIndexDef.e):=⟨dG (e:=XIndexDef.e) (fun _=>rfl) _,dy (e:=XIndexDef.e) (z:=2) (fun _=>rfl) _,by rw[List.length_map];have:=h_unique.1;omega⟩
 have hf0:=F0.flat
 have hw0:=F0.wid
 have m0:=eR (m:=(x.unique.map XIndexDef.e).length) (z:=32) (by have:=F0.len;omega) (by omega)
 generalize (x.unique.map XIndexDef.e)=R0 at F0 hf0 hw0 m0⊢
 have e1:∀k(hk:k<x.stores.length),_:=fun k hk=>lA hB (h_stores.2 _ (List.getElem_mem hk))
 have hl:x.stores.length≤1048576:=Nat.le_trans h_stores.1 hB
 refine ae (fn:=jG) rfl ?_
 simp[jG,hf0,hw0,m0]
 refine cL aR Cl.fin x.stores.length [.f,.f,.t,.t,.f,.f,.f,.f,.f,.f,.f,.f,.f,.f,.f,.f,.t,.t,.t,.f,.f,.f,.f,.f,.f,.f,.f,.f,.f,.f,.f] (fun k=>[(18,aa .i64 k)]) (eN (.box [.pv (.str x.name), .pv (.int .i64 x.version), .pv (.lst (x.stores.map XStore.e)), .pv (.lst R0)]) (.box [.pv (.str []), .pv (.int .i64 0), .nil, .nil]) x.name x.version R0 (x.stores.map XStore.e)) rfl ?_ ?_ ?_
 ·exact Kn.q [0,1,2,3] (by simp[eN,aP,aN,aO,dR,bo,aM,be,aE,dq,bE,bi,bS,L.ren,aQ])
 ·intro k hk
  have ek:=e1 k hk
  have hx:=XStore.e.eq_1 x.stores[k]
  have ht:=bU (e:=XStore.e) hk
  rw[hx]at ht
  have N0:=eI 4 (x.stores[k].items.map XItem.e)
  generalize nd 4 (x.stores[k].items.map XItem.e)=n0 at N0 ek
  cases k with
  |zero=>
   simp only[eN,ht]
   rcases N0 with⟨q0,rfl⟩|⟨q0,rfl⟩
   ·simp only[q0]at ek
    simp[cF,hk,hx,ek,bV,q0]
    exact Kn.q [0,1,2,3,6]
   ·simp[cF,hk,hx,ek,bV]
    exact Kn.q [0,1,2,3,7]
  |succ k=>
   obtain⟨i1,i2,i3,i4,i5,i6⟩:=mE (n:=x.stores.length) (by unfold maxLen;omega) hk
   have b1:min (k+1) x.stores.length=k+1:=by omega
   have m1:=eR (m:=k+1+1) (z:=48) (by omega) (by omega)
   simp only[eN,ht]
   generalize hT:List.take (k+1) _=T
   have hTl:T.length=k+1:=by rw[←hT];simp;omega
   rcases N0 with⟨q0,rfl⟩|⟨q0,rfl⟩
   ·simp only[q0]at ek
    simp[cF,hk,hx,ek,i1,i2,i3,i4,i5,i6,hTl,m1,q0]
    exact Kn.q [0,1,2,3,7]
   ·simp[cF,hk,hx,ek,i1,i2,i3,i4,i5,i6,hTl,m1]
    exact Kn.q [0,1,2,3,8]
 ·cases hq:x.stores with
  |nil=>simp[cF,eN,nd]
  |cons q qs=>
   have hT:(x.stores.map XStore.e).take (qs.length+1)=x.stores.map XStore.e:=List.take_of_length_le (by rw[hq];simp)
   rw[hq]at hT
   simp only[List.length_cons,eN,hT]
   simp[cF,nd]
def iB (b0 b1:AObj)(nm:List UInt8)(ver:Int)(U rows:List (List PV)):Nat→List AObj
 |0=>[b0,b1, .box [.pv (.str nm), .pv (.int .i64 ver), .nil, .arr 3], .darr 2 U]
 |k+1=>[b0,b1, .box [.pv (.str nm), .pv (.int .i64 ver), .arr 4, .arr 3], .darr 2 U, .darr 3 (rows.take (k+1))]
theorem C4 {B:Nat}(hB:B≤1048576){x:XDatabase}(h:x.Ok B):ag Ph aG 496 [.agg [.pv (.str x.name), .pv (.int .i64 x.version), .pv (.lst (x.stores.map XStore.e)), .pv (.lst (x.unique.map XIndexDef.e))]]=some (.agg [.pv (.str x.name), .pv (.int .i64 x.version),nd 3 (x.stores.map XStore.e), .down 2 (x.unique.map XIndexDef.e)]):=by
 obtain⟨h_name,h_version,h_stores,h_unique⟩:=h
 have F0:Flat 2 (x.unique.map XIndexDef.e):=⟨dG (e:=XIndexDef.e) (fun _=>rfl) _,dy (e:=XIndexDef.e) (z:=2) (fun _=>rfl) _,by rw[List.length_map];have:=h_unique.1;omega⟩
 have hf0:=F0.flat
 have hw0:=F0.wid
 have m0:=eR (m:=(x.unique.map XIndexDef.e).length) (z:=32) (by have:=F0.len;omega) (by omega)
 generalize (x.unique.map XIndexDef.e)=R0 at F0 hf0 hw0 m0⊢
 have e1:∀k(hk:k<x.stores.length),_:=fun k hk=>oH hB (h_stores.2 _ (List.getElem_mem hk))
 have hl:x.stores.length≤1048576:=Nat.le_trans h_stores.1 hB
 refine ae (fn:=pB) rfl ?_
 simp[pB,hf0,hw0,m0]
 refine cL aR Cl.fin x.stores.length [.f,.t,.t,.t,.t,.f,.f,.f,.f,.f,.f,.f,.f,.f,.f,.f,.f,.f,.f,.f,.f,.f,.f,.f,.f,.f,.f,.f,.f,.f,.f,.f,.f] (fun k=>[(4,aa .i64 k)]) (iB (.box [.pv (.str x.name), .pv (.int .i64 x.version), .pv (.lst (x.stores.map XStore.e)), .pv (.lst R0)]) (.box [.pv (.str []), .pv (.int .i64 0), .nil, .nil]) x.name x.version R0 (x.stores.map XStore.e)) rfl ?_ ?_ ?_
 ·exact Kn.q [0,1,2,3] (by simp[iB,aP,aN,aO,dR,bo,aM,be,aE,dq,bE,bi,bS,L.ren,aQ])
 ·intro k hk
  have ek:=e1 k hk
  have hx:=XStore.e.eq_1 x.stores[k]
  have ht:=bU (e:=XStore.e) hk
  rw[hx]at ht
  have N0:=eI 4 (x.stores[k].items.map XItem.e)
  generalize nd 4 (x.stores[k].items.map XItem.e)=n0 at N0 ek
  cases k with
  |zero=>
   simp only[iB,ht]
   rcases N0 with⟨q0,rfl⟩|⟨q0,rfl⟩
   ·simp only[q0]at ek
    simp[eP,hk,hx,ek,bV,q0]
    exact Kn.q [0,1,2,3,5]
   ·simp[eP,hk,hx,ek,bV]
    exact Kn.q [0,1,2,3,6]
  |succ k=>
   obtain⟨i1,i2,i3,i4,i5,i6⟩:=mE (n:=x.stores.length) (by unfold maxLen;omega) hk
   have b1:min (k+1) x.stores.length=k+1:=by omega
   have m1:=eR (m:=k+1+1) (z:=48) (by omega) (by omega)
   simp only[iB,ht]
   generalize hT:List.take (k+1) _=T
   have hTl:T.length=k+1:=by rw[←hT];simp;omega
   rcases N0 with⟨q0,rfl⟩|⟨q0,rfl⟩
   ·simp only[q0]at ek
    simp[eP,hk,hx,ek,i1,i2,i3,i4,i5,i6,hTl,m1,q0]
    exact Kn.q [0,1,2,3,6]
   ·simp[eP,hk,hx,ek,i1,i2,i3,i4,i5,i6,hTl,m1]
    exact Kn.q [0,1,2,3,7]
 ·cases hq:x.stores with
  |nil=>simp[eP,iB,nd]
  |cons q qs=>
   have hT:(x.stores.map XStore.e).take (qs.length+1)=x.stores.map XStore.e:=List.take_of_length_le (by rw[hq];simp)
   rw[hq]at hT
   simp only[List.length_cons,iB,hT]
   simp[eP,nd]
end Gi
namespace Gi
open Go Go.RowKit
set_option maxHeartbeats 8000000
set_option maxRecDepth 4000
attribute [local simp] bu sQ bg bX ep fZ ej fY f8 f7 uP uY uQ uZ uR u0 uS vd uT ve uU vf uV vg uW vh uX vi V.cells plain bn f9 isInt isStr isBool bin cW jN cX jO f4 un asList L.view ap V.view viewL aS av da cf bP comp aK bt dz ct bI bG bH bO bj cz aX bK aQ aY bM cB bL bJ bN V.flat L.flat dL du bA putAt thaw thawL thawT V.ow f6 ew ez cY f5 cZ eu freezeVs freezeLs freezeL V.mut L.mut aJ fq i7 aM be aE dq bE bi bS L.ren aU dM cj dQ bT bC wp_seq wp_block bF eB db cg dd wp_skip wp_exit wp_ret cN cM cS cO dj dk di cq aW L.notArr aP aN aO eA bo storeD bc fR br cE bf nE L.mov L.closed V.closed PV.bare PV.flat
theorem N9 {call:Nat→List V→Option V}{Q:Ex→St→Prop}{ks:List Fr}(hc:kL call)(hQ:Cl Q){c:ACode}{t:List V}{h:List AObj}{α:Type}(m:List Mk)(U:α→List (Nat×V))(H:α→List AObj)(next:α→Option α)(μ:α→Nat)(I:α→Prop)(a0:α)(i0:I a0)(hz:(c.zOk&&kz ks)=true)(kn:Kn ⟨fp (cP m t) (U a0),H a0⟩ ⟨t,h⟩)
 (st:∀a b,I a→next a=some b→μ b<μ a∧I b∧wp call (fun e τ=>e= .normal∧Kn ⟨fp (cP m t) (U b),H b⟩ τ) [] (aj call ar c ⟨fp (cP m t) (U a),H a⟩))
 (en:∀a,I a→next a=none→wp call Q (.sq lF::ks) (aj call ar c ⟨fp (cP m t) (U a),H a⟩)):wp call Q ks (aj call ar (.loop c) ⟨t,h⟩):=by
 have key:∀n a,μ a≤n→I a→wp call Q ks (aj call ar (.loop c) ⟨fp (cP m t) (U a),H a⟩):=by
  intro n
  induction n with
  |zero=>
   intro a hn ia
   cases q:next a with
   |none=>exact pV (en a ia q)
   |some b=>have:=(st a b ia q).1;omega
  |succ n ih=>
   intro a hn ia
   cases q:next a with
   |none=>exact pV (en a ia q)
   |some b=>
    obtain⟨h1,h2,h3⟩:=st a b ia q
    exact yw hc hQ hz h3 (ih b (by omega) h2)
 have hz':kz (.sq (.loop c)::ks)=true:=by simpa only[kz,ACode.zOk]using hz
 exact GP hc hQ ⟨fp (cP m t) (U a0),H a0⟩ hz' kn (key _ a0 (Nat.le_refl _) i0)
theorem GN {n:Nat}(h:n<256):IntKind.u8.wrap (n:Int)=(n:Int)∧(UInt8.ofNat n).toNat=n:=by
 refine⟨?_,by simp;omega⟩
 simp[IntKind.wrap,IntKind.signed,IntKind.bits]
 omega
theorem Pm {n:Nat}(h:n<4611686018427387904):IntKind.i64.wrap ((BitVec.ofInt IntKind.i64.bits (n:Int)&&&BitVec.ofInt IntKind.i64.bits 127).toNat:Int)=((n%128:Nat):Int):=by
 have e1:(BitVec.ofInt IntKind.i64.bits (n:Int)).toNat=n:=by
  show(BitVec.ofInt 64 (n:Int)).toNat=n
  simp[BitVec.toNat_ofInt];omega
 have e2:(BitVec.ofInt IntKind.i64.bits 127).toNat=127:=by decide
 rw[BitVec.toNat_and,e1,e2,show(127:Nat)=2^7-1 from rfl,Nat.and_two_pow_sub_one_eq_mod]
 rw[IntKind.wrap_i64];omega
theorem Ql {n:Nat}(h:n<128):IntKind.i64.wrap ((BitVec.ofInt IntKind.i64.bits (n:Int)|||BitVec.ofInt IntKind.i64.bits 128).toNat:Int)=((n+128:Nat):Int):=by
 have e1:(BitVec.ofInt IntKind.i64.bits (n:Int)).toNat=n:=by
  show(BitVec.ofInt 64 (n:Int)).toNat=n
  simp[BitVec.toNat_ofInt];omega
 have e2:(BitVec.ofInt IntKind.i64.bits 128).toNat=128:=by decide
 have e3:=Nat.two_pow_add_eq_or_of_lt (i:=7) (b:=n) (by omega) 1
 rw[BitVec.toNat_or,e1,e2,Nat.or_comm,show(128:Nat)=2^7*1 from rfl,←e3]
 rw[IntKind.wrap_i64];omega
theorem js (s:List UInt8)(x:UInt8):al (s++[x])=al s++[[.int .u8 x.toNat]]:=by simp[al]
def yP (a:Nat×Nat×List UInt8):Option (Nat×Nat×List UInt8):=if a.2.1<128 then none else match a.1 with
 |0=>none
 |f+1=>some (f,a.2.1/128,a.2.2++[UInt8.ofNat (a.2.1%128+128)])
def Qr (b T:List UInt8)(a:Nat×Nat×List UInt8):Prop:=a.2.1<128^(a.1+1)∧a.2.2++MG (a.1+1) a.2.1=T∧a.2.2.length+a.1≤b.length+5∧a.2.1≤1000000000000
theorem IN {b T:List UInt8}{f m:Nat}{o:List UInt8}{a':Nat×Nat×List UInt8}(ia:Qr b T (f,m,o))(h:yP (f,m,o)=some a'):128≤m∧Qr b T a'∧(a':Nat×Nat×List UInt8)=(f-1,m/128,o++[UInt8.ofNat (m%128+128)]):=by
 obtain⟨h1,h2,h3,h4⟩:=ia
 unfold yP at h
 simp only at h h1 h2 h3 h4
 split at h
 ·cases h
 ·rename_i hm
  cases f with
  |zero=>cases h
  |succ f=>
   cases h
   refine⟨by omega,⟨?_,?_,by simp;omega,by simp only;omega⟩,rfl⟩
   ·show m/128<128^(f+1)
    rw[Nat.div_lt_iff_lt_mul (by decide),←Nat.pow_succ];exact h1
   ·rw[←h2]
    show(o++[UInt8.ofNat (m%128+128)])++MG (f+1) (m/128)=o++MG (f+1+1) m
    rw[show MG (f+1+1) m=UInt8.ofNat (m%128+128)::MG (f+1) (m/128) by rw[MG,if_neg hm]]
    simp
theorem KX {b T:List UInt8}{f m:Nat}{o:List UInt8}(ia:Qr b T (f,m,o))(h:yP (f,m,o)=none):m<128∧o++[UInt8.ofNat m]=T:=by
 obtain⟨h1,h2,_⟩:=ia
 unfold yP at h
 simp only at h h1 h2
 split at h
 ·rename_i hm
  exact⟨hm,by rw[←h2,MG,if_pos hm]⟩
 ·rename_i hm
  cases f with
  |zero=>simp at h1;omega
  |succ f=>cases h
theorem iK {b:List UInt8}(hb:b.length≤1048000){n:Nat}(hn:n≤1000000000000):ag Ph aG 247 [bv (al b),aa .i64 (n:Int)]=some (.one (.own 1 (al (b++qd n)))):=by
 have e1:rg (n:Int) 0 1000000000000=true:=CP.2 ⟨by omega,by omega⟩
 have e2:=aZ (n:Int) 0 1000000000000
 rw[e1]at e2
 have e3:=ly (R:=al b) ⟨ol b,iD b,by rw[bp];omega⟩
 refine ae (fn:=jb) rfl ?_
 simp(maxSteps:=9999999) [jb,e2,e3]
 refine N9 aR Cl.fin [.f,.t,.f,.f,.f,.t,.f,.f,.f,.f,.f,.f,.f,.f,.f,.f,.f,.f,.f,.f,.f,.f,.f,.f,.f,.f,.f,.f] (fun a=>[(1,aa .i64 (a.2.1:Nat)),(5, .one (.arr 0))]) (fun a=>[.arr 1 (al a.2.2)]) yP (fun a=>a.2.1) (Qr b (b++qd n)) (5,n,b) ⟨by show n<128^6;omega,rfl,by simp,hn⟩ rfl (by simp) (fun a a' ia ha=> ?_) (fun a ia ha=> ?_)
 ·obtain⟨f,m,o⟩:=a
  obtain⟨hm,hi,rfl⟩:=IN ia ha
  obtain⟨_,_,hl,hmx⟩:=ia
  simp only at hl hmx
  have hlt:dK (m:Int) 128=false:=wv (by omega)
  have hlt2:dK 127 (m:Int)=true:=lL (by omega)
  have q:=GN (n:=m%128+128) (by omega)
  have m1:o.length≤140737488355327∧o.length≤9223372036854775806:=by omega
  have m2:=eR (m:=o.length+1) (z:=1) (by omega) (by omega)
  have r1:(m:Int).tmod 128=(m:Int)%128:=Int.tmod_eq_emod_of_nonneg (by omega)
  have r2:(m:Int).tdiv 128=(m:Int)/128:=Int.tdiv_eq_ediv_of_nonneg (by omega)
  have r3:IntKind.i64.wrap ((m:Int)%128+128)=(m:Int)%128+128:=by rw[IntKind.wrap_i64];omega
  have r4:IntKind.i64.wrap ((m:Int)/128)=(m:Int)/128:=by rw[IntKind.wrap_i64];omega
  have r5:IntKind.u8.wrap ((m:Int)%128+128)=(m:Int)%128+128:=by have:=q.1;simpa using this
  have r6:((m:Int)%128+128)%256=(m:Int)%128+128:=by omega
  refine⟨by show m/128<m;omega,hi,?_⟩
  simp(maxSteps:=9999999) [fI,hlt,hlt2,r1,r2,r3,r4,r5,m1,m2,js,bp,-fq]
  exact Kn.of [2] (by decide) (by simp[js,r5,r6]) (by simp[r4])
 ·obtain⟨f,m,o⟩:=a
  obtain⟨hm,hi⟩:=KX ia ha
  obtain⟨_,_,hl,hmx⟩:=ia
  simp only at hl hmx
  have hlt:dK (m:Int) 128=true:=lL (by omega)
  have hlt2:dK 127 (m:Int)=false:=wv (by omega)
  have q:=GN (n:=m) (by omega)
  have m1:o.length≤140737488355327∧o.length≤9223372036854775806:=by omega
  have m2:=eR (m:=o.length+1) (z:=1) (by omega) (by omega)
  rw[←hi]
  simp(maxSteps:=9999999) [fI,hlt,hlt2,q,m1,m2,js,bp]
end Gi
