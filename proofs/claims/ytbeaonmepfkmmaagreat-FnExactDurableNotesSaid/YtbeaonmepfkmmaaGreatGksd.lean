/- Of this proof. -/
import Derived.Test.YtbeaonmepfkmmaaGreatGnAd
import Derived.Test.YtbeaonmepfkmmaaGreatGlCd
set_option linter.unusedSimpArgs false
set_option linter.unusedVariables false
namespace Gi
open Go Go.RowKit
set_option maxHeartbeats 8000000
set_option maxRecDepth 4000
attribute [local simp] start ai aE aO a9 b6 Opd.ev put V.cells plain bf fO isInt isStr isBool bin ca Ki Kh un asList L.view av V.view viewL aR aw cq bE comp aK bv cL bK bj bh bi aB aq aH am az aW ap aY bH aI bm bo V.flat L.flat cX cN br putAt thaw thawL thawT freezeVs freezeLs freezeL V.mut L.mut aJ aM dd bP dq bF bB wp_seq wp_block Fo wp_cond wp_skip wp_exit wp_ret ce b9 ct cf cF cG cE bJ aL L.notArr bA bw bz sV b8 storeD aT eS bc bZ aU mf L.mov L.closed V.closed PV.bare PV.flat
theorem aj {s:List UInt8}:(ag s).length=s.length:=by simp[ag]
structure Flat (z:Nat) (R:List (List PV)):Prop where
 flat:lG R=true
 wid:(R.all fun r=>r.length==z)=true
 len:R.length≤1048576
theorem px {R:List (List PV)}(h:Flat 1 R):ah Ph aN 261 [aQ R]=some (.one (.down 1 R)):=by
 have hf:=h.flat
 have hw:=h.wid
 have m:=iz (m:=R.length) (z:=1) (by have:=h.len;omega) (by omega)
 rw[Nat.mul_one]at m
 refine ae (fn:=mB) rfl ?_
 simp[mB,hf,hw,m]
theorem kW {B:Nat}(hB:B≤1048576){x:XRecord}(h:x.Ok B):ah Ph aN 242 [.agg [.pv (.lst (x.fs.map XField.e))]]=some (.agg [.down 2 (x.fs.map XField.e)]):=by
 have h_fs:=h
 have F0:Flat 2 (x.fs.map XField.e):=⟨sF (e:=XField.e) (fun _=>rfl) _,gS (e:=XField.e) (z:=2) (fun _=>rfl) _,by rw[List.length_map];have:=h_fs.1;omega⟩
 have hf0:=F0.flat
 have hw0:=F0.wid
 have m0:=iz (m:=(x.fs.map XField.e).length) (z:=24) (by have:=F0.len;omega) (by omega)
 generalize (x.fs.map XField.e)=R0 at F0 hf0 hw0 m0⊢
 refine ae (fn:=lB) rfl ?_
 simp[lB,hf0,hw0,m0]
theorem oU {B:Nat}(hB:B≤1048576){x:XRecord}(h:x.Ok B):ah Ph aN 239 [.agg [.pv (.lst (x.fs.map XField.e))]]=some (.agg [.down 2 (x.fs.map XField.e)]):=by
 have h_fs:=h
 have F0:Flat 2 (x.fs.map XField.e):=⟨sF (e:=XField.e) (fun _=>rfl) _,gS (e:=XField.e) (z:=2) (fun _=>rfl) _,by rw[List.length_map];have:=h_fs.1;omega⟩
 have hf0:=F0.flat
 have hw0:=F0.wid
 have m0:=iz (m:=(x.fs.map XField.e).length) (z:=24) (by have:=F0.len;omega) (by omega)
 generalize (x.fs.map XField.e)=R0 at F0 hf0 hw0 m0⊢
 refine ae (fn:=pJ) rfl ?_
 simp[pJ,hf0,hw0,m0]
theorem qx {B:Nat}(hB:B≤1048576){x:XItem}(h:x.Ok B):ah Ph aN 218 [.agg [.pv (.int .i64 x.key.kind), .pv (.int .i64 x.key.n), .pv (.str x.key.text), .pv (.lst (x.rcd.fs.map XField.e))]]=some (.agg [.pv (.int .i64 x.key.kind), .pv (.int .i64 x.key.n), .pv (.str x.key.text), .down 2 (x.rcd.fs.map XField.e)]):=by
 obtain⟨h_key,h_rcd⟩:=h
 have c0:=kW hB h_rcd
 refine ae (fn:=ny) rfl ?_
 simp[ny,c0]
theorem oV {B:Nat}(hB:B≤1048576){x:XItem}(h:x.Ok B):ah Ph aN 214 [.agg [.pv (.int .i64 x.key.kind), .pv (.int .i64 x.key.n), .pv (.str x.key.text), .pv (.lst (x.rcd.fs.map XField.e))]]=some (.agg [.pv (.int .i64 x.key.kind), .pv (.int .i64 x.key.n), .pv (.str x.key.text), .down 2 (x.rcd.fs.map XField.e)]):=by
 obtain⟨h_key,h_rcd⟩:=h
 have c0:=oU hB h_rcd
 refine ae (fn:=pL) rfl ?_
 simp[pL,c0]
def fZ (b0 b1:AObj)(y0:L)(y2:L)(rows:List (List PV)):Nat→List AObj
 |0=>[b0,b1, .box [y0, .nil,y2]]
 |k+1=>[b0,b1, .box [y0, .arr 3,y2], .darr 4 (rows.take (k+1))]
theorem gL {B:Nat}(hB:B≤1048576){x:XStore}(h:x.Ok B):ah Ph aN 191 [.agg [.pv (.str x.name), .pv (.lst (x.items.map XItem.e)), .pv (.int .i64 x.auto)]]=some (.agg [.pv (.str x.name),nd 4 (x.items.map XItem.e), .pv (.int .i64 x.auto)]):=by
 obtain⟨h_name,h_items,h_auto⟩:=h
 have e1:∀k(hk:k<x.items.length),_:=fun k hk=>qx hB (h_items.2 _ (List.getElem_mem hk))
 have hl:x.items.length≤1048576:=Nat.le_trans h_items.1 hB
 refine ae (fn:=mC) rfl ?_
 simp[mC]
 refine kj cC Cl.fin x.items.length [.f,.f,.t,.t,.f,.f,.f,.f,.f,.f,.f,.f,.t,.t,.t,.f,.f,.f,.f,.f,.f,.f,.f,.f,.f,.f,.f] (fun k=>[(14,aa .i64 k)]) (fZ (.box [.pv (.str x.name), .pv (.lst (x.items.map XItem.e)), .pv (.int .i64 x.auto)]) (.box [.pv (.str []), .nil, .pv (.int .i64 0)]) (.pv (.str x.name)) (.pv (.int .i64 x.auto)) (x.items.map XItem.e)) rfl ?_ ?_ ?_
 ·exact Kn.q [0,1,2] (by simp[fZ,bA,bw,bz,sV,b8,aX,bu,aP,dN,co,bG,cJ,L.ren,aW])
 ·intro k hk
  have ek:=e1 k hk
  have hx:=XItem.e.eq_1 x.items[k]
  have ht:=rW (e:=XItem.e) hk
  rw[hx]at ht
  cases k with
  |zero=>
   simp only[fZ,ht]
   simp[fe,hk,hx,ek,ma]
   exact Kn.q [0,1,2,6]
  |succ k=>
   obtain⟨i1,i2,i3,i4,i5,i6⟩:=Ob (n:=x.items.length) (by unfold maxLen;omega) hk
   have b1:min (k+1) x.items.length=k+1:=by omega
   have m1:=iz (m:=k+1+1) (z:=56) (by omega) (by omega)
   simp only[fZ,ht]
   generalize hT:List.take (k+1) _=T
   have hTl:T.length=k+1:=by rw[←hT];simp;omega
   simp[fe,hk,hx,ek,i1,i2,i3,i4,i5,i6,hTl,m1]
   exact Kn.q [0,1,2,7]
 ·cases hq:x.items with
  |nil=>simp[fe,fZ,nd]
  |cons q qs=>
   have hT:(x.items.map XItem.e).take (qs.length+1)=x.items.map XItem.e:=List.take_of_length_le (by rw[hq];simp)
   rw[hq]at hT
   simp only[List.length_cons,fZ,hT]
   simp[fe,nd]
def iW (b0 b1:AObj)(y0:L)(y2:L)(rows:List (List PV)):Nat→List AObj
 |0=>[b0,b1, .box [y0, .nil,y2]]
 |k+1=>[b0,b1, .box [y0, .arr 3,y2], .darr 4 (rows.take (k+1))]
theorem iv {B:Nat}(hB:B≤1048576){x:XStore}(h:x.Ok B):ah Ph aN 187 [.agg [.pv (.str x.name), .pv (.lst (x.items.map XItem.e)), .pv (.int .i64 x.auto)]]=some (.agg [.pv (.str x.name),nd 4 (x.items.map XItem.e), .pv (.int .i64 x.auto)]):=by
 obtain⟨h_name,h_items,h_auto⟩:=h
 have e1:∀k(hk:k<x.items.length),_:=fun k hk=>oV hB (h_items.2 _ (List.getElem_mem hk))
 have hl:x.items.length≤1048576:=Nat.le_trans h_items.1 hB
 refine ae (fn:=pK) rfl ?_
 simp[pK]
 refine kj cC Cl.fin x.items.length [.f,.t,.t,.t,.t,.f,.f,.f,.f,.f,.f,.f,.f,.f,.f,.f,.f,.f,.f,.f,.f,.f,.f,.f,.f,.f,.f,.f,.f] (fun k=>[(4,aa .i64 k)]) (iW (.box [.pv (.str x.name), .pv (.lst (x.items.map XItem.e)), .pv (.int .i64 x.auto)]) (.box [.pv (.str []), .nil, .pv (.int .i64 0)]) (.pv (.str x.name)) (.pv (.int .i64 x.auto)) (x.items.map XItem.e)) rfl ?_ ?_ ?_
 ·exact Kn.q [0,1,2] (by simp[iW,bA,bw,bz,sV,b8,aX,bu,aP,dN,co,bG,cJ,L.ren,aW])
 ·intro k hk
  have ek:=e1 k hk
  have hx:=XItem.e.eq_1 x.items[k]
  have ht:=rW (e:=XItem.e) hk
  rw[hx]at ht
  cases k with
  |zero=>
   simp only[iW,ht]
   simp[gC,hk,hx,ek,ma]
   exact Kn.q [0,1,2,5]
  |succ k=>
   obtain⟨i1,i2,i3,i4,i5,i6⟩:=Ob (n:=x.items.length) (by unfold maxLen;omega) hk
   have b1:min (k+1) x.items.length=k+1:=by omega
   have m1:=iz (m:=k+1+1) (z:=56) (by omega) (by omega)
   simp only[iW,ht]
   generalize hT:List.take (k+1) _=T
   have hTl:T.length=k+1:=by rw[←hT];simp;omega
   simp[gC,hk,hx,ek,i1,i2,i3,i4,i5,i6,hTl,m1]
   exact Kn.q [0,1,2,6]
 ·cases hq:x.items with
  |nil=>simp[gC,iW,nd]
  |cons q qs=>
   have hT:(x.items.map XItem.e).take (qs.length+1)=x.items.map XItem.e:=List.take_of_length_le (by rw[hq];simp)
   rw[hq]at hT
   simp only[List.length_cons,iW,hT]
   simp[gC,nd]
def eL (b0 b1:AObj)(nm:List UInt8)(ver:Int)(U rows:List (List PV)):Nat→List AObj
 |0=>[b0,b1, .box [.pv (.str nm), .pv (.int .i64 ver), .nil, .arr 3], .darr 2 U]
 |k+1=>[b0,b1, .box [.pv (.str nm), .pv (.int .i64 ver), .arr 4, .arr 3], .darr 2 U, .darr 3 (rows.take (k+1))]
theorem jy {B:Nat}(hB:B≤1048576){x:XDatabase}(h:x.Ok B):ah Ph aN 498 [.agg [.pv (.str x.name), .pv (.int .i64 x.version), .pv (.lst (x.stores.map XStore.e)), .pv (.lst (x.unique.map XIndexDef.e))]]=some (.agg [.pv (.str x.name), .pv (.int .i64 x.version),nd 3 (x.stores.map XStore.e), .down 2 (x.unique.map XIndexDef.e)]):=by
 obtain⟨h_name,h_version,h_stores,h_unique⟩:=h
 have F0:Flat 2 (x.unique.map XIndexDef.e):=⟨sF (e:=XIndexDef.e) (fun _=>rfl) _,gS (e:=XIndexDef.e) (z:=2) (fun _=>rfl) _,by rw[List.length_map];have:=h_unique.1;omega⟩
 have hf0:=F0.flat
 have hw0:=F0.wid
 have m0:=iz (m:=(x.unique.map XIndexDef.e).length) (z:=32) (by have:=F0.len;omega) (by omega)
 generalize (x.unique.map XIndexDef.e)=R0 at F0 hf0 hw0 m0⊢
 have e1:∀k(hk:k<x.stores.length),_:=fun k hk=>gL hB (h_stores.2 _ (List.getElem_mem hk))
 have hl:x.stores.length≤1048576:=Nat.le_trans h_stores.1 hB
 refine ae (fn:=j5) rfl ?_
 simp[j5,hf0,hw0,m0]
 refine kj cC Cl.fin x.stores.length [.f,.f,.t,.t,.f,.f,.f,.f,.f,.f,.f,.f,.f,.f,.f,.f,.t,.t,.t,.f,.f,.f,.f,.f,.f,.f,.f,.f,.f,.f,.f] (fun k=>[(18,aa .i64 k)]) (eL (.box [.pv (.str x.name), .pv (.int .i64 x.version), .pv (.lst (x.stores.map XStore.e)), .pv (.lst R0)]) (.box [.pv (.str []), .pv (.int .i64 0), .nil, .nil]) x.name x.version R0 (x.stores.map XStore.e)) rfl ?_ ?_ ?_
 ·exact Kn.q [0,1,2,3] (by simp[eL,bA,bw,bz,sV,b8,aX,bu,aP,dN,co,bG,cJ,L.ren,aW])
 ·intro k hk
  have ek:=e1 k hk
  have hx:=XStore.e.eq_1 x.stores[k]
  have ht:=rW (e:=XStore.e) hk
  rw[hx]at ht
  have N0:=zx 4 (x.stores[k].items.map XItem.e)
  generalize nd 4 (x.stores[k].items.map XItem.e)=n0 at N0 ek
  cases k with
  |zero=>
   simp only[eL,ht]
   rcases N0 with⟨q0,rfl⟩|⟨q0,rfl⟩
   ·simp only[q0]at ek
    simp[cZ,hk,hx,ek,ma,q0]
    exact Kn.q [0,1,2,3,6]
   ·simp[cZ,hk,hx,ek,ma]
    exact Kn.q [0,1,2,3,7]
  |succ k=>
   obtain⟨i1,i2,i3,i4,i5,i6⟩:=Ob (n:=x.stores.length) (by unfold maxLen;omega) hk
   have b1:min (k+1) x.stores.length=k+1:=by omega
   have m1:=iz (m:=k+1+1) (z:=48) (by omega) (by omega)
   simp only[eL,ht]
   generalize hT:List.take (k+1) _=T
   have hTl:T.length=k+1:=by rw[←hT];simp;omega
   rcases N0 with⟨q0,rfl⟩|⟨q0,rfl⟩
   ·simp only[q0]at ek
    simp[cZ,hk,hx,ek,i1,i2,i3,i4,i5,i6,hTl,m1,q0]
    exact Kn.q [0,1,2,3,7]
   ·simp[cZ,hk,hx,ek,i1,i2,i3,i4,i5,i6,hTl,m1]
    exact Kn.q [0,1,2,3,8]
 ·cases hq:x.stores with
  |nil=>simp[cZ,eL,nd]
  |cons q qs=>
   have hT:(x.stores.map XStore.e).take (qs.length+1)=x.stores.map XStore.e:=List.take_of_length_le (by rw[hq];simp)
   rw[hq]at hT
   simp only[List.length_cons,eL,hT]
   simp[cZ,nd]
def iX (b0 b1:AObj)(nm:List UInt8)(ver:Int)(U rows:List (List PV)):Nat→List AObj
 |0=>[b0,b1, .box [.pv (.str nm), .pv (.int .i64 ver), .nil, .arr 3], .darr 2 U]
 |k+1=>[b0,b1, .box [.pv (.str nm), .pv (.int .i64 ver), .arr 4, .arr 3], .darr 2 U, .darr 3 (rows.take (k+1))]
theorem oW {B:Nat}(hB:B≤1048576){x:XDatabase}(h:x.Ok B):ah Ph aN 496 [.agg [.pv (.str x.name), .pv (.int .i64 x.version), .pv (.lst (x.stores.map XStore.e)), .pv (.lst (x.unique.map XIndexDef.e))]]=some (.agg [.pv (.str x.name), .pv (.int .i64 x.version),nd 3 (x.stores.map XStore.e), .down 2 (x.unique.map XIndexDef.e)]):=by
 obtain⟨h_name,h_version,h_stores,h_unique⟩:=h
 have F0:Flat 2 (x.unique.map XIndexDef.e):=⟨sF (e:=XIndexDef.e) (fun _=>rfl) _,gS (e:=XIndexDef.e) (z:=2) (fun _=>rfl) _,by rw[List.length_map];have:=h_unique.1;omega⟩
 have hf0:=F0.flat
 have hw0:=F0.wid
 have m0:=iz (m:=(x.unique.map XIndexDef.e).length) (z:=32) (by have:=F0.len;omega) (by omega)
 generalize (x.unique.map XIndexDef.e)=R0 at F0 hf0 hw0 m0⊢
 have e1:∀k(hk:k<x.stores.length),_:=fun k hk=>iv hB (h_stores.2 _ (List.getElem_mem hk))
 have hl:x.stores.length≤1048576:=Nat.le_trans h_stores.1 hB
 refine ae (fn:=pO) rfl ?_
 simp[pO,hf0,hw0,m0]
 refine kj cC Cl.fin x.stores.length [.f,.t,.t,.t,.t,.f,.f,.f,.f,.f,.f,.f,.f,.f,.f,.f,.f,.f,.f,.f,.f,.f,.f,.f,.f,.f,.f,.f,.f,.f,.f,.f,.f] (fun k=>[(4,aa .i64 k)]) (iX (.box [.pv (.str x.name), .pv (.int .i64 x.version), .pv (.lst (x.stores.map XStore.e)), .pv (.lst R0)]) (.box [.pv (.str []), .pv (.int .i64 0), .nil, .nil]) x.name x.version R0 (x.stores.map XStore.e)) rfl ?_ ?_ ?_
 ·exact Kn.q [0,1,2,3] (by simp[iX,bA,bw,bz,sV,b8,aX,bu,aP,dN,co,bG,cJ,L.ren,aW])
 ·intro k hk
  have ek:=e1 k hk
  have hx:=XStore.e.eq_1 x.stores[k]
  have ht:=rW (e:=XStore.e) hk
  rw[hx]at ht
  have N0:=zx 4 (x.stores[k].items.map XItem.e)
  generalize nd 4 (x.stores[k].items.map XItem.e)=n0 at N0 ek
  cases k with
  |zero=>
   simp only[iX,ht]
   rcases N0 with⟨q0,rfl⟩|⟨q0,rfl⟩
   ·simp only[q0]at ek
    simp[eQ,hk,hx,ek,ma,q0]
    exact Kn.q [0,1,2,3,5]
   ·simp[eQ,hk,hx,ek,ma]
    exact Kn.q [0,1,2,3,6]
  |succ k=>
   obtain⟨i1,i2,i3,i4,i5,i6⟩:=Ob (n:=x.stores.length) (by unfold maxLen;omega) hk
   have b1:min (k+1) x.stores.length=k+1:=by omega
   have m1:=iz (m:=k+1+1) (z:=48) (by omega) (by omega)
   simp only[iX,ht]
   generalize hT:List.take (k+1) _=T
   have hTl:T.length=k+1:=by rw[←hT];simp;omega
   rcases N0 with⟨q0,rfl⟩|⟨q0,rfl⟩
   ·simp only[q0]at ek
    simp[eQ,hk,hx,ek,i1,i2,i3,i4,i5,i6,hTl,m1,q0]
    exact Kn.q [0,1,2,3,6]
   ·simp[eQ,hk,hx,ek,i1,i2,i3,i4,i5,i6,hTl,m1]
    exact Kn.q [0,1,2,3,7]
 ·cases hq:x.stores with
  |nil=>simp[eQ,iX,nd]
  |cons q qs=>
   have hT:(x.stores.map XStore.e).take (qs.length+1)=x.stores.map XStore.e:=List.take_of_length_le (by rw[hq];simp)
   rw[hq]at hT
   simp only[List.length_cons,iX,hT]
   simp[eQ,nd]
end Gi
namespace Gi
open Go Go.RowKit
set_option maxHeartbeats 8000000
set_option maxRecDepth 4000
attribute [local simp] start pa a9 b6 cP dS cO dR d5 dZ pR p5 pS p6 pT p7 pU p8 pV p9 pW qa pX qb pY qc pZ qd V.cells plain bf fO isInt isStr isBool bin bN gA bO gB dV un asList L.view av V.view viewL aR aw bS bq bE comp aK bv cL bK bj bh bi aB aq aH am az aW ap aY bH aI bm bo V.flat L.flat cX cN br putAt thaw thawL thawT V.ow dY cR cS bQ dX bR cQ freezeVs freezeLs freezeL V.mut L.mut aJ cy fQ aX bu aP dN co bG cJ L.ren aM dd bP dq bF bB wp_seq wp_block aV cV bT bt bU wp_skip wp_exit wp_ret ce b9 ct cf cF cG cE bJ aL L.notArr bA bw bz cT b8 storeD aT eS bc bZ aU mf L.mov L.closed V.closed PV.bare PV.flat
def zc (s:List UInt8):List Int:=(s.length:Int)::s.map fun b=>(b.toNat:Int)
def Nq (s:List UInt8)(k:Nat):List (List PV):=[.int .i64 (s.length:Nat)]::((s.take k).map fun b=>[PV.int .i64 b.toNat])
theorem HW {s:List UInt8}{k:Nat}(h:k<s.length):Nq s (k+1)=Nq s k++[[.int .i64 s[k].toNat]]:=by
 unfold Nq
 rw[List.take_succ_eq_append_getElem h,List.map_append]
 rfl
theorem LU (s:List UInt8):Nq s s.length=(zc s).map sj:=by simp[Nq,zc,sj]
theorem LV {s:List UInt8}{k:Nat}(h:k≤s.length):(Nq s k).length=k+1:=by simp[Nq];omega
theorem tg (b:UInt8):IntKind.i64.wrap (b.toNat:Int)=(b.toNat:Int):=by
 have:=b.toNat_lt
 rw[IntKind.wrap_i64];omega
theorem mN {s:List UInt8}{k:Nat}(h:k<s.length):(ag s)[k]? =some [.int .u8 s[k].toNat]:=by simp[ag,h]
theorem sN {s:List UInt8}{k:Nat}(h:k<(ag s).length):(ag s)[k]=[.int .u8 (s[k]'(by simpa[ag]using h)).toNat]:=by simp[ag]
theorem tR {s:List UInt8}(hl:s.length≤1048576):ah Ph aN 349 [aQ (ag s)]=some (.one (.own 1 ((zc s).map sj))):=by
 refine ae (fn:=kK) rfl ?_
 simp +contextual (maxSteps:=9999999) [kK,aj]
 refine kj cC Cl.fin s.length [.f,.f,.f,.t,.f,.f,.f,.f,.f,.t,.t,.t,.f,.f,.f,.f,.f,.f,.f,.f,.f,.f] (fun k=>[(3, .one (.arr 0)),(11,aa .i64 k)]) (fun k=>[.arr 1 (Nq s k)]) rfl (by simp[Nq]) (fun k hk=> ?_) ?_
 ·have ha:=mN hk
  have hu:=tg s[k]
  have hb:=LV (Nat.le_of_lt hk)
  have m1:=iz (m:=k+1+1) (z:=8) (by omega) (by omega)
  have hn:=HW hk
  try dsimp only
  rw[hn]
  generalize Nq s k=W at hb⊢
  simp(maxSteps:=9999999) [gF,hk,ha,sN,hu,hb,m1,aj,bW (n:=s.length) (by unfold maxLen;omega) hk,cB hk,-cy]
  exact Kn.of [2] (by decide) (by simp) (by simp)
 ·try dsimp only
  rw[LU]
  simp(maxSteps:=9999999) [gF,aj]
theorem qw {s:List UInt8}(hl:s.length≤1048576)(n:Int):ah Ph aN 580 [aa .i64 n,aQ (ag s)]=some (aa .i64 (jY (101::n::zc s))):=by
 have e1:=tR hl
 have hb:(zc s).length=s.length+1:=by simp[zc]
 have e2:=Gj (ns:=101::n::zc s) (by simp only[List.length_cons,hb];unfold maxLen;omega)
 have w1:((zc s).map sj).all (fun e=>e.length==1)=true:=gS (e:=sj) (z:=1) (fun _=>rfl) _
 have hm:((101:Int)::n::zc s).map sj=[.int .i64 101]::[.int .i64 n]::(zc s).map sj:=rfl
 rw[hm]at e2
 have m1:=iz (m:=2+(s.length+1)) (z:=8) (by omega) (by omega)
 have m2:=iz (m:=s.length+1+1+1) (z:=8) (by omega) (by omega)
 generalize hW:(zc s).map sj=W at e1 e2 w1
 have hb2:W.length=s.length+1:=by rw[←hW];simpa using hb
 refine ae (fn:=nq) rfl ?_
 simp +contextual (maxSteps:=9999999) [nq,e1,e2,w1,m1,m2,hb2]
theorem tX {s:List UInt8}(hl:s.length≤1048576):ah Ph aN 345 [aQ (ag s)]=some (.one (.own 1 ((zc s).map sj))):=by
 refine ae (fn:=kR) rfl ?_
 simp +contextual (maxSteps:=9999999) [kR,aj]
 refine kj cC Cl.fin s.length [.t,.f,.f,.t,.t,.f,.f,.f,.f,.f,.f,.f,.f,.f,.f,.f,.f,.f,.f,.f,.f,.f,.f] (fun k=>[(3, .one (.arr 0)),(4,aa .i64 k)]) (fun k=>[.arr 1 (Nq s k)]) rfl (by simp[Nq]) (fun k hk=> ?_) ?_
 ·have ha:=mN hk
  have hu:=tg s[k]
  have hb:=LV (Nat.le_of_lt hk)
  have m1:=iz (m:=k+1+1) (z:=8) (by omega) (by omega)
  have hn:=HW hk
  try dsimp only
  rw[hn]
  generalize Nq s k=W at hb⊢
  simp(maxSteps:=9999999) [gH,hk,ha,sN,hu,hb,m1,aj,bW (n:=s.length) (by unfold maxLen;omega) hk,cB hk,-cy]
  exact Kn.of [2] (by decide) (by simp) (by simp)
 ·try dsimp only
  rw[LU]
  simp(maxSteps:=9999999) [gH,aj]
theorem qI {s:List UInt8}(hl:s.length≤1048576)(n:Int):ah Ph aN 574 [aa .i64 n,aQ (ag s)]=some (aa .i64 (jY (101::n::zc s))):=by
 have e1:=tX hl
 have hb:(zc s).length=s.length+1:=by simp[zc]
 have e2:=GW (ns:=101::n::zc s) (by simp only[List.length_cons,hb];unfold maxLen;omega)
 have w1:((zc s).map sj).all (fun e=>e.length==1)=true:=gS (e:=sj) (z:=1) (fun _=>rfl) _
 have hm:((101:Int)::n::zc s).map sj=[.int .i64 101]::[.int .i64 n]::(zc s).map sj:=rfl
 rw[hm]at e2
 have m1:=iz (m:=2+(s.length+1)) (z:=8) (by omega) (by omega)
 have m2:=iz (m:=s.length+1+1+1) (z:=8) (by omega) (by omega)
 generalize hW:(zc s).map sj=W at e1 e2 w1
 have hb2:W.length=s.length+1:=by rw[←hW];simpa using hb
 refine ae (fn:=nA) rfl ?_
 simp +contextual (maxSteps:=9999999) [nA,e1,e2,w1,m1,m2,hb2]
theorem nK {call:Nat→List V→Option V}{Q:Ex→St→Prop}{ks:List Fr}(hc:pf call)(hQ:Cl Q){c:ACode}{t:List V}{h:List AObj}{α:Type}(m:List Mk)(U:α→List (Nat×V))(H:α→List AObj)(next:α→Option α)(μ:α→Nat)(I:α→Prop)(a0:α)(i0:I a0)(hz:(c.zOk&&kz ks)=true)(kn:Kn ⟨me (gM m t) (U a0),H a0⟩ ⟨t,h⟩)
 (st:∀a b,I a→next a=some b→μ b<μ a∧I b∧wp call (fun e τ=>e= .normal∧Kn ⟨me (gM m t) (U b),H b⟩ τ) [] (au call aC c ⟨me (gM m t) (U a),H a⟩))
 (en:∀a,I a→next a=none→wp call Q (.sq r9::ks) (au call aC c ⟨me (gM m t) (U a),H a⟩)):wp call Q ks (au call aC (.loop c) ⟨t,h⟩):=by
 have key:∀n a,μ a≤n→I a→wp call Q ks (au call aC (.loop c) ⟨me (gM m t) (U a),H a⟩):=by
  intro n
  induction n with
  |zero=>
   intro a hn ia
   cases q:next a with
   |none=>exact qB (en a ia q)
   |some b=>have:=(st a b ia q).1;omega
  |succ n ih=>
   intro a hn ia
   cases q:next a with
   |none=>exact qB (en a ia q)
   |some b=>
    obtain⟨h1,h2,h3⟩:=st a b ia q
    exact yD hc hQ hz h3 (ih b (by omega) h2)
 have hz':kz (.sq (.loop c)::ks)=true:=by simpa only[kz,ACode.zOk]using hz
 exact Hx hc hQ ⟨me (gM m t) (U a0),H a0⟩ hz' kn (key _ a0 (Nat.le_refl _) i0)
theorem Hv {n:Nat}(h:n<256):IntKind.u8.wrap (n:Int)=(n:Int)∧(UInt8.ofNat n).toNat=n:=by
 refine⟨?_,by simp;omega⟩
 simp[IntKind.wrap,IntKind.signed,IntKind.bits]
 omega
theorem Pp {n:Nat}(h:n<4611686018427387904):IntKind.i64.wrap ((BitVec.ofInt IntKind.i64.bits (n:Int)&&&BitVec.ofInt IntKind.i64.bits 127).toNat:Int)=((n%128:Nat):Int):=by
 have e1:(BitVec.ofInt IntKind.i64.bits (n:Int)).toNat=n:=by
  show(BitVec.ofInt 64 (n:Int)).toNat=n
  simp[BitVec.toNat_ofInt];omega
 have e2:(BitVec.ofInt IntKind.i64.bits 127).toNat=127:=by decide
 rw[BitVec.toNat_and,e1,e2,show(127:Nat)=2^7-1 from rfl,Nat.and_two_pow_sub_one_eq_mod]
 rw[IntKind.wrap_i64];omega
theorem T5 {n:Nat}(h:n<128):IntKind.i64.wrap ((BitVec.ofInt IntKind.i64.bits (n:Int)|||BitVec.ofInt IntKind.i64.bits 128).toNat:Int)=((n+128:Nat):Int):=by
 have e1:(BitVec.ofInt IntKind.i64.bits (n:Int)).toNat=n:=by
  show(BitVec.ofInt 64 (n:Int)).toNat=n
  simp[BitVec.toNat_ofInt];omega
 have e2:(BitVec.ofInt IntKind.i64.bits 128).toNat=128:=by decide
 have e3:=Nat.two_pow_add_eq_or_of_lt (i:=7) (b:=n) (by omega) 1
 rw[BitVec.toNat_or,e1,e2,Nat.or_comm,show(128:Nat)=2^7*1 from rfl,←e3]
 rw[IntKind.wrap_i64];omega
theorem jO (s:List UInt8)(x:UInt8):ag (s++[x])=ag s++[[.int .u8 x.toNat]]:=by simp[ag]
def yX (a:Nat×Nat×List UInt8):Option (Nat×Nat×List UInt8):=if a.2.1<128 then none else match a.1 with
 |0=>none
 |f+1=>some (f,a.2.1/128,a.2.2++[UInt8.ofNat (a.2.1%128+128)])
def Uc (b T:List UInt8)(a:Nat×Nat×List UInt8):Prop:=a.2.1<128^(a.1+1)∧a.2.2++Dz (a.1+1) a.2.1=T∧a.2.2.length+a.1≤b.length+5∧a.2.1≤1000000000000
theorem J5 {b T:List UInt8}{f m:Nat}{o:List UInt8}{a':Nat×Nat×List UInt8}(ia:Uc b T (f,m,o))(h:yX (f,m,o)=some a'):128≤m∧Uc b T a'∧(a':Nat×Nat×List UInt8)=(f-1,m/128,o++[UInt8.ofNat (m%128+128)]):=by
 obtain⟨h1,h2,h3,h4⟩:=ia
 unfold yX at h
 simp only at h h1 h2 h3 h4
 split at h
 ·cases h
 ·rename_i hm
  cases f with
  |zero=>cases h
  |succ f=>
   cases h
   refine⟨by omega,⟨?_,?_,by simp;omega,by simp only;omega⟩,rfl⟩
   ·show m/128<128^(f+1)
    rw[Nat.div_lt_iff_lt_mul (by decide),←Nat.pow_succ];exact h1
   ·rw[←h2]
    show(o++[UInt8.ofNat (m%128+128)])++Dz (f+1) (m/128)=o++Dz (f+1+1) m
    rw[show Dz (f+1+1) m=UInt8.ofNat (m%128+128)::Dz (f+1) (m/128) by rw[Dz,if_neg hm]]
    simp
theorem Na {b T:List UInt8}{f m:Nat}{o:List UInt8}(ia:Uc b T (f,m,o))(h:yX (f,m,o)=none):m<128∧o++[UInt8.ofNat m]=T:=by
 obtain⟨h1,h2,_⟩:=ia
 unfold yX at h
 simp only at h h1 h2
 split at h
 ·rename_i hm
  exact⟨hm,by rw[←h2,Dz,if_pos hm]⟩
 ·rename_i hm
  cases f with
  |zero=>simp at h1;omega
  |succ f=>cases h
theorem eY {b:List UInt8}(hb:b.length≤1048000){n:Nat}(hn:n≤1000000000000):ah Ph aN 247 [aQ (ag b),aa .i64 (n:Int)]=some (.one (.own 1 (ag (b++jo n)))):=by
 have e1:rg (n:Int) 0 1000000000000=true:=rH.2 ⟨by omega,by omega⟩
 have e2:=eR (n:Int) 0 1000000000000
 rw[e1]at e2
 have e3:=px (R:=ag b) ⟨uS b,ej b,by rw[aj];omega⟩
 refine ae (fn:=js) rfl ?_
 simp(maxSteps:=9999999) [js,e2,e3]
 refine nK cC Cl.fin [.f,.t,.f,.f,.f,.t,.f,.f,.f,.f,.f,.f,.f,.f,.f,.f,.f,.f,.f,.f,.f,.f,.f,.f,.f,.f,.f,.f] (fun a=>[(1,aa .i64 (a.2.1:Nat)),(5, .one (.arr 0))]) (fun a=>[.arr 1 (ag a.2.2)]) yX (fun a=>a.2.1) (Uc b (b++jo n)) (5,n,b) ⟨by show n<128^6;omega,rfl,by simp,hn⟩ rfl (by simp) (fun a a' ia ha=> ?_) (fun a ia ha=> ?_)
 ·obtain⟨f,m,o⟩:=a
  obtain⟨hm,hi,rfl⟩:=J5 ia ha
  obtain⟨_,_,hl,hmx⟩:=ia
  simp only at hl hmx
  have hlt:bX (m:Int) 128=false:=fK (by omega)
  have hlt2:bX 127 (m:Int)=true:=dW (by omega)
  have q:=Hv (n:=m%128+128) (by omega)
  have m1:o.length≤140737488355327∧o.length≤9223372036854775806:=by omega
  have m2:=iz (m:=o.length+1) (z:=1) (by omega) (by omega)
  have r1:(m:Int).tmod 128=(m:Int)%128:=Int.tmod_eq_emod_of_nonneg (by omega)
  have r2:(m:Int).tdiv 128=(m:Int)/128:=Int.tdiv_eq_ediv_of_nonneg (by omega)
  have r3:IntKind.i64.wrap ((m:Int)%128+128)=(m:Int)%128+128:=by rw[IntKind.wrap_i64];omega
  have r4:IntKind.i64.wrap ((m:Int)/128)=(m:Int)/128:=by rw[IntKind.wrap_i64];omega
  have r5:IntKind.u8.wrap ((m:Int)%128+128)=(m:Int)%128+128:=by have:=q.1;simpa using this
  have r6:((m:Int)%128+128)%256=(m:Int)%128+128:=by omega
  refine⟨by show m/128<m;omega,hi,?_⟩
  simp(maxSteps:=9999999) [fL,hlt,hlt2,r1,r2,r3,r4,r5,m1,m2,jO,aj,-cy]
  exact Kn.of [2] (by decide) (by simp[jO,r5,r6]) (by simp[r4])
 ·obtain⟨f,m,o⟩:=a
  obtain⟨hm,hi⟩:=Na ia ha
  obtain⟨_,_,hl,hmx⟩:=ia
  simp only at hl hmx
  have hlt:bX (m:Int) 128=true:=dW (by omega)
  have hlt2:bX 127 (m:Int)=false:=fK (by omega)
  have q:=Hv (n:=m) (by omega)
  have m1:o.length≤140737488355327∧o.length≤9223372036854775806:=by omega
  have m2:=iz (m:=o.length+1) (z:=1) (by omega) (by omega)
  rw[←hi]
  simp(maxSteps:=9999999) [fL,hlt,hlt2,q,m1,m2,jO,aj]
theorem UH (m:Nat):ii .shr .i64 (m:Int) 7=some (aa .i64 ((m:Int)/128)):=by
 have e:(min (Int.toNat 7) IntKind.i64.bits)=7:=by decide
 simp only[ii]
 rw[if_neg (by omega)]
 simp only[e]
 rw[show((2:Int)^7)=128 by decide,Int.fdiv_eq_ediv_of_nonneg _ (by omega)]
theorem fa {b:List UInt8}(hb:b.length≤1048000){n:Nat}(hn:n≤1000000000000):ah Ph aN 244 [aQ (ag b),aa .i64 (n:Int)]=some (.one (.own 1 (ag (b++jo n)))):=by
 have e1:rg (n:Int) 0 1000000000000=true:=rH.2 ⟨by omega,by omega⟩
 have e2:=fP (n:Int) 0 1000000000000
 rw[e1]at e2
 have w1:=ej b
 have m0:b.length≤140737488355328∧b.length≤9223372036854775807:=by omega
 refine ae (fn:=jx) rfl ?_
 simp(maxSteps:=9999999) [jx,e2,w1,m0,aj]
 refine nK cC Cl.fin [.f,.t,.f,.f,.f,.t,.f,.f,.f,.f,.f,.f,.f,.f,.f,.f,.f,.f,.f,.f,.f,.f,.f,.f,.f,.f,.f,.f,.f] (fun a=>[(1,aa .i64 (a.2.1:Nat)),(5, .one (.arr 0))]) (fun a=>[.arr 1 (ag a.2.2)]) yX (fun a=>a.2.1) (Uc b (b++jo n)) (5,n,b) ⟨by show n<128^6;omega,rfl,by simp,hn⟩ rfl (Kn.of [1] (by decide) (by simp) (by simp)) (fun a a' ia ha=> ?_) (fun a ia ha=> ?_)
 ·obtain⟨f,m,o⟩:=a
  obtain⟨hm,hi,rfl⟩:=J5 ia ha
  obtain⟨_,_,hl,hmx⟩:=ia
  simp only at hl hmx
  have hlt:bX (m:Int) 128=false:=fK (by omega)
  have hlt2:bX 127 (m:Int)=true:=dW (by omega)
  have q:=Hv (n:=m%128+128) (by omega)
  have m1:o.length≤140737488355327∧o.length≤9223372036854775806:=by omega
  have m2:=iz (m:=o.length+1) (z:=1) (by omega) (by omega)
  have r1:=Pp (n:=m) (by omega)
  have r2:=UH m
  have r3:=T5 (n:=m%128) (by omega)
  have e:((m%128:Nat):Int)=(m:Int)%128:=by omega
  have e':((m%128+128:Nat):Int)=(m:Int)%128+128:=by omega
  rw[e]at r1 r3
  rw[e']at r3
  have r4:IntKind.i64.wrap ((m:Int)/128)=(m:Int)/128:=by rw[IntKind.wrap_i64];omega
  have r5:IntKind.u8.wrap ((m:Int)%128+128)=(m:Int)%128+128:=by have:=q.1;simpa using this
  have r6:((m:Int)%128+128)%256=(m:Int)%128+128:=by omega
  refine⟨by show m/128<m;omega,hi,?_⟩
  simp(maxSteps:=9999999) [fM,hlt,hlt2, ↓r1,r2, ↓r3,r4,r5,m1,m2,jO,aj,-cy]
  exact Kn.of [2] (by decide) (by simp[jO,r5,r6]) (by simp[r4])
 ·obtain⟨f,m,o⟩:=a
  obtain⟨hm,hi⟩:=Na ia ha
  obtain⟨_,_,hl,hmx⟩:=ia
  simp only at hl hmx
  have hlt:bX (m:Int) 128=true:=dW (by omega)
  have hlt2:bX 127 (m:Int)=false:=fK (by omega)
  have q:=Hv (n:=m) (by omega)
  have m1:o.length≤140737488355327∧o.length≤9223372036854775806:=by omega
  have m2:=iz (m:=o.length+1) (z:=1) (by omega) (by omega)
  rw[←hi]
  simp(maxSteps:=9999999) [fM,hlt,hlt2,q,m1,m2,jO,aj]
theorem zy (s u:List UInt8):ag (s++u)=ag s++ag u:=by simp[ag]
theorem nM {b s:List UInt8}(hb:b.length≤1048000)(hs:s.length≤1048576):ah Ph aN 248 [aQ (ag b),aQ (ag s)]=some (.one (.own 1 (ag (b++mc s)))):=by
 have e1:=eY hb (n:=s.length) (by omega)
 have w1:=ej s
 have hl:=jn s.length
 have m1:b.length+(jo s.length).length+s.length≤140737488355328∧b.length+(jo s.length).length+s.length≤9223372036854775807:=by omega
 rw[show b++mc s=(b++jo s.length)++s by simp[mc]]
 have e:ag ((b++jo s.length)++s)=ag (b++jo s.length)++ag s:=zy _ _
 rw[e]
 refine ae (fn:=kJ) rfl ?_
 simp(maxSteps:=9999999) [kJ,e1,w1,m1,aj]
theorem nP {b s:List UInt8}(hb:b.length≤1048000)(hs:s.length≤1048576):ah Ph aN 245 [aQ (ag b),aQ (ag s)]=some (.one (.own 1 (ag (b++mc s)))):=by
 have e1:=fa hb (n:=s.length) (by omega)
 have w1:=ej s
 have hl:=jn s.length
 have m1:b.length+(jo s.length).length+s.length≤140737488355328∧b.length+(jo s.length).length+s.length≤9223372036854775807:=by omega
 rw[show b++mc s=(b++jo s.length)++s by simp[mc]]
 have e:ag ((b++jo s.length)++s)=ag (b++jo s.length)++ag s:=zy _ _
 rw[e]
 refine ae (fn:=kQ) rfl ?_
 simp(maxSteps:=9999999) [kQ,e1,w1,m1,aj]
end Gi
