/- Of this proof. -/
import Derived.Test.YtgmnakghjemjlaaGreatProg
import Derived.Test.YtgmnakghjemjlaaGreatGild
import Derived.Shelf.Spec.SlicesInsertGrow
import Derived.WalkKit
import Derived.Test.YtgmnakghjemjlaaGreatGka
import Derived.Test.YtgmnakghjemjlaaGreatRows
import Derived.KernelRfl
import Derived.Lib.Bytealg
import Derived.Lib.Walk
import Derived.Shelf.Abstract
set_option linter.unusedSimpArgs false
set_option linter.unusedVariables false
namespace Go.Proofs.YtgmnakghjemjlaaGreat
open Go Go.Shelf Go.RowKit Go.Lib Gi
theorem qA {P:Program}(w:World)(dT sT ty elem:TypeId)(z:Nat)(b o dLen dCap:Nat)(a:Addr)(sLen sCap:Nat)(cs:List Value)
 (hu:P.underlying dT=some (.slice elem)) (hs:(P.info? elem).map (·.size)=some z) (hn:cs.length=Nat.min sLen dLen*z)
 (hsrc:∀j v,cs[j]? =some v→w.cell? (a.add j)=some v) (hc:∀j,j<cs.length→(w.cell? ⟨b,o+j,none⟩).isSome=true) (hf:∀j,j<cs.length→w.frozen? ⟨b,o+j,none⟩=false) (h1:∀v∈cs,v.oneCell'=true):
 (Builtin.copy_ #[dT,sT] ty #[.slice (some ⟨b,o,none⟩) dLen dCap, .slice (some a) sLen sCap]).run P w= .ok (goInt (Nat.min sLen dLen)) (w.setCells b o cs):=by
 have hl:=run_loadCells_list (P:=P) w a cs hsrc
 have hst:=run_storeCells_cells (P:=P) b o cs 0 w (by simpa using hc) (by simpa using hf) h1
 cases hq:P.info? elem with
 |none=>simp[hq]at hs
 |some i=>
  have hi:i.size=z:=by simpa[hq]using hs
  simp[Builtin.copy_,run_underlying hu,Builtin.lenOf,Builtin.firstCells,sizeOf,typeInfo,hq,hi,←hn,hl,hst]
section
variable (b n c i vb m vc:Nat)(cs vs:List Value)(cur vcur:Array Value)(w:World)
theorem KR :Tryz.prog.underlying 78=some (.slice 256):=by kernel_rfl
theorem Pc :(Tryz.prog.info? 256).map (·.size)=some 4:=by kernel_rfl
set_option maxHeartbeats 4000000 in
set_option maxRecDepth 100000 in
theorem Mi (hi:i<n)(hm:0<m)(hroom:n+m≤c)(hc63:c≤9223372036854775807)(hvb:vb≠b)
 (hcl:cs.length=n*4) (hvl:vs.length=m*4) (hrow:gC w b cur) (hsize:cur.size=c*4) (hcs:∀(j:Nat)v,cs[j]? =some v→cur[j]? =some v)
 (hvrow:gC w vb vcur) (hvs:∀(j:Nat)v,vs[j]? =some v→vcur[j]? =some v) (h1c:∀v∈cs,v.oneCell'=true) (h1v:∀v∈vs,v.oneCell'=true):
 Calls Tryz.prog 325 #[.slice (some ⟨b,0,none⟩) n c, .int .i64 i, .slice (some ⟨vb,0,none⟩) m vc] w fun e w'=>
  e= .returned (.slice (some ⟨b,0,none⟩) (n+m) c)∧w'=(w.drew.setCells b ((i+m)*4) (cs.drop (i*4))).setCells b (i*4) vs:=by
 have hz1:¬((m:Int)=0):=by omega
 have hz2:¬((i:Int)=(n:Int)):=by omega
 have tS:=KR
 have hsz:=Pc
 have hsp:∀j,j<(n+m)*4→(w.cell? ⟨b,j,none⟩).isSome=true:=fun j hj=>by
  rw[hrow.cell,Array.getElem?_eq_getElem (by omega)];rfl
 have hov:∀lb cb,(callFunc 337 #[.slice (some ⟨vb,0,none⟩) m vc, .slice (some ⟨b,(i+m)*4,none⟩) lb cb]).run Tryz.prog w= .ok (.value (.bool false)) w:=fun lb cb=>by
  obtain⟨TA,hA⟩:=hvrow
  obtain⟨TB,hB⟩:=hrow
  rw[run_callFunc_extern Tryz.func337 (by kernel_rfl) (by kernel_rfl) (by kernel_rfl) (e:=Extern.SlicesOverlaps.overlaps #[78,78] #[4]) (by kernel_rfl),
   Lib.run_overlaps_apart w 78 4 256 tS 4 (fun w=>by rfl) ⟨vb,0,none⟩ ⟨b,(i+m)*4,none⟩ m vc lb cb hvb TA TB vcur.size cur.size (by simp[World.shape?,hA]) (by simp[World.shape?,hB]) (by omega) (by simp[World.frozen?,hA]) (by simp[World.frozen?,hA])]
  rfl
 have hw1:IntKind.i64.wrap ((i:Int)+(m:Int))=(i:Int)+(m:Int):=by rw[IntKind.wrap_i64];omega
 have hb1:(0:Int)≤(i:Int)+(m:Int):=by omega
 have hin:i≤n:=by omega
 have htn:((i:Int)+(m:Int)).toNat=i+m:=by omega
 have hb2:¬(c=i+m):=by omega
 have hb3:(i:Int)≤(n:Int)+(m:Int):=by omega
 have hb4:¬(c=i):=by omega
 have hdl:(cs.drop (i*4)).length=n*4-i*4:=by rw[List.length_drop,hcl]
 have hcp1:∀ty dc sc,(Builtin.copy_ #[78,78] ty #[.slice (some ⟨b,(i+m)*4,none⟩) (n+m-(i+m)) dc, .slice (some ⟨b,i*4,none⟩) (n+m-i) sc]).run Tryz.prog w.drew= .ok (goInt (Nat.min (n+m-i) (n+m-(i+m)))) (w.drew.setCells b ((i+m)*4) (cs.drop (i*4))):=fun ty dc sc=>
  qA w.drew _ _ ty 256 4 b ((i+m)*4) (n+m-(i+m)) dc ⟨b,i*4,none⟩ (n+m-i) sc (cs.drop (i*4)) tS hsz (by rw[hdl];simp only[Nat.min_def];split<;>omega)
   (fun j v hj=>by
    rw[Addr.add_lit]
    exact(hrow.cell _).trans (hcs (i*4+j) v (by rwa[List.getElem?_drop]at hj)))
   (fun j hj=>hsp _ (by omega)) (fun j hj=>hrow.free _) (fun v hv=>h1c v (List.mem_of_mem_drop hv))
 obtain⟨W1,hW1⟩:∃W1,W1=w.drew.setCells b ((i+m)*4) (cs.drop (i*4)):=⟨_,rfl⟩
 have hsp1:∀k,k<(n+m)*4→(W1.cell? ⟨b,k,none⟩).isSome=true:=fun k hk=>by
  rw[hW1]
  exact isSome_setCells b (cs.drop (i*4)) ((i+m)*4) w.drew (fun j hj=>hsp ((i+m)*4+j) (by rw[hdl]at hj;omega)) k (hsp k hk)
 have hcp2:∀(W:World),(∀x,W.cell? x=W1.cell? x)→(∀x,W.frozen? x=W1.frozen? x)→∀ty dc,(Builtin.copy_ #[78,78] ty #[.slice (some ⟨b,i*4,none⟩) (n+m-i) dc, .slice (some ⟨vb,0,none⟩) m vc]).run Tryz.prog W= .ok (goInt (Nat.min m (n+m-i))) (W.setCells b (i*4) vs):=fun W hWc hWf ty dc=>
  qA W _ _ ty 256 4 b (i*4) (n+m-i) dc ⟨vb,0,none⟩ m vc vs tS hsz (by rw[hvl];simp only[Nat.min_def];split<;>omega)
   (fun j v hj=>by
    rw[Addr.add_lit,hWc,hW1,World.cell?_setCells_out b _ _ _ _ (fun h _=>absurd h hvb)]
    exact(hvrow.cell _).trans (by simpa using hvs j v hj))
   (fun j hj=>by rw[hWc];exact hsp1 _ (by omega)) (fun j hj=>by rw[hWf,hW1,World.frozen?_setCells];exact hrow.free _) h1v
 rw[←hW1]at hcp1
 have mixed:Tryz.prog.follows .mixedOrders=true:=by kernel_rfl
 go_enter Tryz.func325,Tryz.ntmps325
 go_wp2_with (simp only[hov])
 go_region_law_o (refine step_copy_runI rfl _ _ 78 78 rfl _ _ (by simp[Act.eval,Act.put]) (by simp[Act.eval,Act.put]) (hcp1 _ _ _) ?_)
 go_wp2_with (at_builtin;refine wpList_copy_runI _ rfl _ _ 78 78 rfl _ _ rfl rfl (hcp2 _ (fun _=>rfl) (fun _=>rfl) _ _) ?_)
 go_ret
 first|exact⟨rfl,rfl⟩|exact⟨rfl,by rw[hW1]⟩
theorem Ku (bs:Option Addr)(n c:Nat):∀w,(Builtin.lenOf (.slice bs n c)).run Tryz.prog w= .ok n w:=fun w=>rfl
theorem sE (vb m vc:Nat)(vs:List Value)(vcur:Array Value)(hvrow:gC w vb vcur)(hvl:vs.length=m*4)(hvs:∀(j:Nat)v,vs[j]? =some v→vcur[j]? =some v):(Builtin.firstCells 4 m (.slice (some ⟨vb,0,none⟩) m vc)).run Tryz.prog w= .ok vs.toArray w:=by
 have:=run_loadCells_list (P:=Tryz.prog) w ⟨vb,0,none⟩ vs (fun j v hj=>by
  rw[Addr.add_lit]
  exact(hvrow.cell _).trans (by simpa using hvs j v hj))
 rw[hvl]at this
 simpa[Builtin.firstCells]using this
set_option maxHeartbeats 4000000 in
set_option maxRecDepth 100000 in
theorem NO (hm:0<m)(hroom:n+m≤c)(hc63:c≤9223372036854775807)
 (hvl:vs.length=m*4) (hrow:gC w b cur) (hsize:cur.size=c*4)
 (hvrow:gC w vb vcur) (hvs:∀(j:Nat)v,vs[j]? =some v→vcur[j]? =some v) (h1v:∀v∈vs,v.oneCell'=true):
 Calls Tryz.prog 325 #[.slice (some ⟨b,0,none⟩) n c, .int .i64 n, .slice (some ⟨vb,0,none⟩) m vc] w fun e w'=>
  e= .returned (.slice (some ⟨b,0,none⟩) (n+m) c)∧w'=w.setCells b (n*4) vs:=by
 have hz1:¬((m:Int)=0):=by omega
 have tS:=KR
 obtain⟨i0,hi0,hi1⟩:∃i0,Tryz.prog.info? 256=some i0∧i0.size=4:=⟨_,rfl,rfl⟩
 have hrun:∀ty,(Builtin.append_ #[78,78] ty #[.slice (some ⟨b,0,none⟩) n c, .slice (some ⟨vb,0,none⟩) m vc]).run Tryz.prog w= .ok (.slice (some ⟨b,0,none⟩) (n+m) c) (w.setCells b (n*4) vs):=fun ty=>by
  have:=G0 (P:=Tryz.prog) (ty:=ty) (w:=w) tS (.inr ⟨_,tS⟩) hi0 (g:=b) (n:=n) (cap:=c) (m:=m) hrow (u:= .slice (some ⟨vb,0,none⟩) m vc) (Ku _ _ _) (news:=vs) (by rw[hi1];exact hvl) (by rw[hi1];exact sE w vb m vc vs vcur hvrow hvl hvs) h1v hroom (by rw[hi1];omega)
  rw[hi1]at this
  exact this
 go_enter Tryz.func325,Tryz.ntmps325
 go_wp2_with (at_builtin;refine Lib.wpList_append_run _ rfl _ _ _ _ rfl _ _ rfl rfl _ _ (hrun _) ?_)
 go_ret
 exact⟨rfl,rfl⟩
set_option maxHeartbeats 4000000 in
set_option maxRecDepth 100000 in
theorem Hn (bs:Option Addr)(hm:0<m)(hnc:n≤c)(hroom:c<n+m)(hbig:(n+m)*56≤140737488355328)(h63:n+m≤9223372036854775807)
 (hold:(Builtin.firstCells 4 n (.slice bs n c)).run Tryz.prog w.drew= .ok cs.toArray w.drew) (hnil:bs=none→n=0)
 (hvl:vs.length=m*4) (hvrow:gC w vb vcur) (hvs:∀(j:Nat)v,vs[j]? =some v→vcur[j]? =some v):
 Calls Tryz.prog 325 #[.slice bs n c, .int .i64 n, .slice (some ⟨vb,0,none⟩) m vc] w fun e w'=>
  ∃(z:Value),z.cells.size=4∧e= .returned (.slice (some ⟨w.heap.size,0,none⟩) (n+m) (grownCap w (n+m) c 256))∧w'=w.drew.alloc (.cells (cs.toArray++vs.toArray++Builtin.zeroCells z.cells (grownCap w (n+m) c 256-(n+m))) 256):=by
 have hz1:¬((m:Int)=0):=by omega
 have tS:=KR
 obtain⟨i0,z0,hi0,hi1,hi2,hi3,hi4⟩:∃i0 z0,Tryz.prog.info? 256=some i0∧i0.size=4∧i0.bytes=56∧i0.zero=some z0∧z0.cells.size=4:=⟨_,_,rfl,rfl,rfl,rfl,rfl⟩
 have hrun0:=fun ty=>A6 (P:=Tryz.prog) (ty:=ty) (w:=w) tS (.inr ⟨_,tS⟩) hi0 hi3 (s:= .slice bs n c) rfl (Ku (some ⟨vb,0,none⟩) m vc) (by rw[hi1];exact hold) (by rw[hi1];exact sE w.drew vb m vc vs vcur hvrow hvl hvs) hroom h63 (by rw[hi2];exact hbig)
 obtain⟨G,hG⟩:∃G,G=grownCap w (n+m) c 256:=⟨_,rfl⟩
 obtain⟨ROW,hROW⟩:∃ROW:Array Value,ROW=cs.toArray++vs.toArray++Builtin.zeroCells z0.cells (G-(n+m)):=⟨_,rfl⟩
 have hrun:∀ty,(Builtin.append_ #[78,78] ty #[.slice bs n c, .slice (some ⟨vb,0,none⟩) m vc]).run Tryz.prog w= .ok (.slice (some ⟨w.heap.size,0,none⟩) (n+m) G) (w.drew.alloc (.cells ROW 256)):=fun ty=>by rw[hROW,hG];exact hrun0 ty
 rw[←hG]
 have main:Calls Tryz.prog 325 #[.slice bs n c, .int .i64 n, .slice (some ⟨vb,0,none⟩) m vc] w fun e w'=>
  e= .returned (.slice (some ⟨w.heap.size,0,none⟩) (n+m) G)∧w'=w.drew.alloc (.cells ROW 256):=by
  clear hrun0 hG hROW
  go_enter Tryz.func325,Tryz.ntmps325
  cases bs with
  |none=>
   have h0:=hnil rfl
   subst h0
   go_wp2_with (at_builtin;refine Lib.wpList_append_run _ rfl _ _ _ _ rfl _ _ rfl rfl _ _ (hrun _) ?_)
   go_ret
   exact⟨rfl,rfl⟩
  |some a=>
   obtain⟨ab,ao,asp⟩:=a
   go_wp2_with (at_builtin;refine Lib.wpList_append_run _ rfl _ _ _ _ rfl _ _ rfl rfl _ _ (hrun _) ?_)
   all_goals (go_ret;exact⟨rfl,rfl⟩)
 exact main.mono fun e w' h=>⟨z0,hi4,h.1,by rw[←hROW];exact h.2⟩
set_option maxHeartbeats 4000000 in
set_option maxRecDepth 100000 in
theorem Nn (hi:i<n)(hm:0<m)(hnc:n≤c)(hroom:c<n+m)(hbig:(n+m)*56≤140737488355328)
 (hcl:cs.length=n*4) (hvl:vs.length=m*4) (hrow:gC w b cur) (hcs:∀(j:Nat)v,cs[j]? =some v→cur[j]? =some v)
 (hvrow:gC w vb vcur) (hvs:∀(j:Nat)v,vs[j]? =some v→vcur[j]? =some v) (h1c:∀v∈cs,v.oneCell'=true) (h1v:∀v∈vs,v.oneCell'=true):
 Calls Tryz.prog 325 #[.slice (some ⟨b,0,none⟩) n c, .int .i64 i, .slice (some ⟨vb,0,none⟩) m vc] w fun e w'=>
  ∃(z:Value),z.cells.size=4∧e= .returned (.slice (some ⟨w.heap.size,0,none⟩) (n+m) (grownCap w (n+m) c 256))∧
  w'=(((w.alloc (.cells ((cs.take (i*4)).toArray++Builtin.zeroCells z.cells (n+m-i)++Builtin.zeroCells z.cells (grownCap w (n+m) c 256-(n+m))) 256)).drew.setCells w.heap.size (i*4) vs).drew).setCells w.heap.size ((i+m)*4) (cs.drop (i*4)):=by
 have tS:=KR
 have hsz:=Pc
 have tI:Tryz.prog.underlying 3=some (.int .i64):=by kernel_rfl
 have mixed:Tryz.prog.follows .mixedOrders=true:=by kernel_rfl
 obtain⟨i0,z0,hi0,hi1,hi2,hi3,hi4⟩:∃i0 z0,Tryz.prog.info? 256=some i0∧i0.size=4∧i0.bytes=56∧i0.zero=some z0∧z0.cells.size=4:=⟨_,_,rfl,rfl,rfl,rfl,rfl⟩
 have hz1:¬((m:Int)=0):=by omega
 have hz2:¬((i:Int)=(n:Int)):=by omega
 have hz3:(c:Int)<(n:Int)+(m:Int):=by omega
 have hbw:b<w.heap.size:=hrow.lt
 have hvw:vb<w.heap.size:=hvrow.lt
 have hkk:(n:Int)+(m:Int)-(i:Int)=((n+m-i:Nat):Int):=by omega
 have hik:i+(n+m-i)=n+m:=by omega
 have hold:(Builtin.firstCells i0.size i (.slice (some ⟨b,0,none⟩) i c)).run Tryz.prog w.drew= .ok (cs.take (i*4)).toArray w.drew:=by
  rw[hi1]
  exact sE w.drew b i c (cs.take (i*4)) cur hrow (by rw[List.length_take,hcl];omega) (fun j v hj=>by
   rw[List.getElem?_take]at hj
   split at hj
   ·exact hcs j v hj
   ·cases hj)
 have hrz:∀ty,(Builtin.append_ #[78,3] ty #[.slice (some ⟨b,0,none⟩) i c, .int .i64 ((n:Int)+(m:Int)-(i:Int))]).run Tryz.prog w=
  .ok (.slice (some ⟨w.heap.size,0,none⟩) (n+m) (grownCap w (n+m) c 256)) (w.drew.alloc (.cells ((cs.take (i*4)).toArray++Builtin.zeroCells z0.cells (n+m-i)++Builtin.zeroCells z0.cells (grownCap w (n+m) c 256-(n+m))) 256)):=fun ty=>by
  have h:=Lib.run_append_grow_zeros w 78 3 ty 256 i0 z0 .i64 .i64 tS tI hi0 hi3 (some ⟨b,0,none⟩) i c (cs.take (i*4)) hold (n+m-i) (by omega) (by omega) (by omega) (by omega) (by rw[hi2];omega) (by rw[hi2,hik];exact growslice_fits hroom hbig)
  rw[hik]at h
  rw[hkk]
  exact h
 obtain⟨G,hG⟩:∃G,G=grownCap w (n+m) c 256:=⟨_,rfl⟩
 obtain⟨ROW,hROW⟩:∃ROW:Array Value,ROW=(cs.take (i*4)).toArray++Builtin.zeroCells z0.cells (n+m-i)++Builtin.zeroCells z0.cells (G-(n+m)):=⟨_,rfl⟩
 rw[←hG]at hrz⊢
 rw[←hROW]at hrz
 have hGn:n+m≤G:=by rw[hG];exact grownCap_ge w _ _ _
 have hRl:(n+m)*4≤ROW.size:=by
  rw[hROW]
  simp only[Array.size_append,List.size_toArray,size_zeroCells,hi4,List.length_take,hcl]
  omega
 obtain⟨W1,hW1⟩:∃W1,W1=w.drew.alloc (.cells ROW 256):=⟨_,rfl⟩
 rw[←hW1]at hrz
 have hN:∀j,j<(n+m)*4→(W1.cell? ⟨w.heap.size,j,none⟩).isSome=true:=fun j hj=>by
  rw[hW1,World.cell?_alloc_at (w:=w.drew) ROW _ w.heap.size j rfl,Array.getElem?_eq_getElem (by omega)];rfl
 have hNf:∀j,W1.frozen? ⟨w.heap.size,j,none⟩=false:=fun j=>by rw[hW1];exact World.frozen?_alloc_at (w:=w.drew) ROW _ w.heap.size j rfl
 have hOb:∀j v,w.cell? ⟨b,j,none⟩=some v→W1.cell? ⟨b,j,none⟩=some v:=fun j v h=>by rw[hW1,World.cell?_alloc_past (w:=w.drew) _ b j hbw];exact h
 have hOv:∀j v,w.cell? ⟨vb,j,none⟩=some v→W1.cell? ⟨vb,j,none⟩=some v:=fun j v h=>by rw[hW1,World.cell?_alloc_past (w:=w.drew) _ vb j hvw];exact h
 have hcpA:∀(W:World),(∀x,W.cell? x=W1.cell? x)→(∀x,W.frozen? x=W1.frozen? x)→∀ty dc,(Builtin.copy_ #[78,78] ty #[.slice (some ⟨w.heap.size,i*4,none⟩) (n+m-i) dc, .slice (some ⟨vb,0,none⟩) m vc]).run Tryz.prog W= .ok (goInt (Nat.min m (n+m-i))) (W.setCells w.heap.size (i*4) vs):=fun W hWc hWf ty dc=>
  qA W _ _ ty 256 4 w.heap.size (i*4) (n+m-i) dc ⟨vb,0,none⟩ m vc vs tS hsz (by rw[hvl];simp only[Nat.min_def];split<;>omega)
   (fun j v hj=>by rw[Addr.add_lit,hWc];exact hOv _ v ((hvrow.cell _).trans (by simpa using hvs j v hj)))
   (fun j hj=>by rw[hWc];exact hN _ (by omega)) (fun j hj=>by rw[hWf];exact hNf _) h1v
 have hG63:G≤9223372036854775807:=by
  have:=grownCap_le_maxLen w (n+m) c 256 (by unfold maxLen;omega)
  rw[←hG]at this
  unfold maxLen at this
  omega
 have hGi:¬(G=i):=by omega
 have hGim:¬(G=i+m):=by omega
 have hci:¬(c=i):=by omega
 have hbN:b≠w.heap.size:=by omega
 have hdl:(cs.drop (i*4)).length=n*4-i*4:=by rw[List.length_drop,hcl]
 have hcpB:∀(W:World),(∀x,W.cell? x=(W1.setCells w.heap.size (i*4) vs).cell? x)→(∀x,W.frozen? x=(W1.setCells w.heap.size (i*4) vs).frozen? x)→∀ty dc sc,(Builtin.copy_ #[78,78] ty #[.slice (some ⟨w.heap.size,(i+m)*4,none⟩) (n+m-(i+m)) dc, .slice (some ⟨b,i*4,none⟩) (n-i) sc]).run Tryz.prog W= .ok (goInt (Nat.min (n-i) (n+m-(i+m)))) (W.setCells w.heap.size ((i+m)*4) (cs.drop (i*4))):=fun W hWc hWf ty dc sc=>
  qA W _ _ ty 256 4 w.heap.size ((i+m)*4) (n+m-(i+m)) dc ⟨b,i*4,none⟩ (n-i) sc (cs.drop (i*4)) tS hsz (by rw[hdl];simp only[Nat.min_def];split<;>omega)
   (fun j v hj=>by
    rw[Addr.add_lit,hWc,World.cell?_setCells_out _ _ _ _ _ (fun h _=>absurd h hbN)]
    exact hOb _ v ((hrow.cell _).trans (hcs (i*4+j) v (by rwa[List.getElem?_drop]at hj))))
   (fun j hj=>by rw[hWc];exact isSome_setCells _ _ _ _ (fun t ht=>hN _ (by omega)) _ (hN _ (by omega)))
   (fun j hj=>by rw[hWf,World.frozen?_setCells];exact hNf _) (fun v hv=>h1c v (List.mem_of_mem_drop hv))
 subst hW1
 have hE1:∀x,((w.alloc (.cells ROW 256)).drew).cell? x=(w.drew.alloc (.cells ROW 256)).cell? x:=fun x=>rfl
 have hE2:∀x,((w.alloc (.cells ROW 256)).drew).frozen? x=(w.drew.alloc (.cells ROW 256)).frozen? x:=fun x=>rfl
 have hF1:∀x,(((w.alloc (.cells ROW 256)).drew.setCells w.heap.size (i*4) vs).drew).cell? x=((w.drew.alloc (.cells ROW 256)).setCells w.heap.size (i*4) vs).cell? x:=fun x=>rfl
 have hF2:∀x,(((w.alloc (.cells ROW 256)).drew.setCells w.heap.size (i*4) vs).drew).frozen? x=((w.drew.alloc (.cells ROW 256)).setCells w.heap.size (i*4) vs).frozen? x:=fun x=>rfl
 have hw1:IntKind.i64.wrap ((i:Int)+(m:Int))=(i:Int)+(m:Int):=by rw[IntKind.wrap_i64];omega
 have hb1:(0:Int)≤(i:Int)+(m:Int):=by omega
 have hin:i≤n:=by omega
 have htn:((i:Int)+(m:Int)).toNat=i+m:=by omega
 have hb3:(i:Int)≤(n:Int):=by omega
 have fin:∀{e:Ending}{w':World},e= .returned (.slice (some ⟨w.heap.size,0,none⟩) (n+m) G)→w'=(((w.alloc (.cells ROW 256)).drew.setCells w.heap.size (i*4) vs).drew).setCells w.heap.size ((i+m)*4) (cs.drop (i*4))→∃(z:Value),z.cells.size=4∧e= .returned (.slice (some ⟨w.heap.size,0,none⟩) (n+m) G)∧
  w'=(((w.alloc (.cells ((cs.take (i*4)).toArray++Builtin.zeroCells z.cells (n+m-i)++Builtin.zeroCells z.cells (G-(n+m))) 256)).drew.setCells w.heap.size (i*4) vs).drew).setCells w.heap.size ((i+m)*4) (cs.drop (i*4)):=fun h1 h2=>⟨z0,hi4,h1,by rw[←hROW];exact h2⟩
 clear hkk hik hold hROW hG hRl
 have main:Calls Tryz.prog 325 #[.slice (some ⟨b,0,none⟩) n c, .int .i64 i, .slice (some ⟨vb,0,none⟩) m vc] w fun e w'=>
  e= .returned (.slice (some ⟨w.heap.size,0,none⟩) (n+m) G)∧w'=(((w.alloc (.cells ROW 256)).drew.setCells w.heap.size (i*4) vs).drew).setCells w.heap.size ((i+m)*4) (cs.drop (i*4)):=by
  clear fin
  go_enter Tryz.func325,Tryz.ntmps325
  go_wp2_with (first
   |(at_builtin;refine Lib.wpList_append_run _ rfl _ _ _ _ rfl _ _ rfl rfl _ _ (hrz _) ?_)
   |(at_builtin;refine wpList_copy_runI _ rfl _ _ 78 78 rfl _ _ rfl rfl (hcpA _ hE1 hE2 _ _) ?_)
   |(at_builtin;refine wpList_copy_runI _ rfl _ _ 78 78 rfl _ _ rfl rfl (hcpB _ (fun _=>rfl) (fun _=>rfl) _ _ _) ?_))
  go_region_law_o (refine step_copy_runI rfl _ _ 78 78 rfl (.slice (some ⟨w.heap.size,(i+m)*4,none⟩) (n+m-(i+m)) (G-(i+m))) (.slice (some ⟨b,i*4,none⟩) (n-i) (c-i)) (by simp[Act.eval,Act.put]) (by simp[Act.eval,Act.put]) (hcpB _ hF1 hF2 3 (G-(i+m)) (c-i)) ?_)
  go_wp2
  go_ret
  exact⟨rfl,rfl⟩
 exact main.mono fun e w' h=>fin h.1 h.2
end
set_option maxHeartbeats 1000000 in
theorem OB :Ey Tryz.prog 325 4 56:=by
 intro w r bs n c i vb m vc cs vs cur vcur hm hi hnc hcm hnm hbig hcl hvl h1c h1v hr hvrow hvs
 have hc63:c≤9223372036854775807:=hcm
 have h63:n+m≤9223372036854775807:=hnm
 have new:∀{e:Ending}{w':World}{z0:Value}{olds:List Value}{G:Nat},z0.cells.size=4→olds.length=n*4+m*4→n+m≤G→G≤maxLen→
  (∀(j:Nat)v,(cs.take (i*4)++vs++cs.drop (i*4))[j]? =some v→olds[j]? =some v)→e= .returned (.slice (some ⟨w.heap.size,0,none⟩) (n+m) G)→w'=w.drew.alloc (.cells (olds.toArray++Builtin.zeroCells z0.cells (G-(n+m))) 256)→
  ∃b' c' cur',e= .returned (.slice (some ⟨b',0,none⟩) (n+m) c')∧gC w' b' cur'∧cur'.size=c'*4∧n+m≤c'∧c'≤maxLen∧
   (∀(j:Nat)v,(cs.take (i*4)++vs++cs.drop (i*4))[j]? =some v→cur'[j]? =some v)∧
   (r=some b'∧cur'.size=cur.size∧w'.heap.size=w.heap.size∨b'=w.heap.size∧w.heap.size<w'.heap.size)∧w'.os=w.os∧w'.tape=w.tape∧w'.output=w.output∧∀k,k<w.heap.size→k≠b'→w'.heap[k]? =w.heap[k]? :=by
  intro e w' z0 olds G hz0 hol hG hG2 hcells he hw
  subst hw
  refine⟨w.heap.size,G,_,he,gC.new w.drew _ 256,?_,hG,hG2,fun j v hv=> ?_, .inr ⟨rfl,by simp⟩,rfl,rfl,rfl,fun k hk _=>dW w.drew _ k hk⟩
  ·simp only[Array.size_append,List.size_toArray,size_zeroCells,hz0,hol]
   omega
  ·have h1:=hcells j v hv
   rw[Array.getElem?_append_left (by simpa using(List.getElem?_eq_some_iff.1 h1).1)]
   simpa using h1
 by_cases hin:i=n
 ·subst hin
  have hdrop:cs.drop (i*4)=[]:=List.drop_eq_nil_of_le (by omega)
  have htake:cs.take (i*4)=cs:=List.take_of_length_le (by omega)
  by_cases hroom:i+m≤c
  ·cases r with
   |none=>obtain⟨rfl,rfl⟩:=hr;omega
   |some b=>
    obtain⟨rfl,hrow,hsize,hvb,hcs⟩:=hr
    refine(NO b i c vb m vc vs cur vcur w hm hroom hc63 hvl hrow hsize hvrow hvs h1v).mono fun e w'⟨he,hw⟩=> ?_
    subst hw
    obtain⟨cur2,hrow2,hsz2,hget2⟩:=dV b vs (i*4) w cur hrow (by omega)
    refine⟨b,c,cur2,he,hrow2,by rw[hsz2];exact hsize,hroom,hcm,fun j v hv=> ?_, .inl ⟨rfl,hsz2,dI b _ _ w⟩,(cA b 0 (Nat.zero_le _) _ _ w w (Below.refl _ _)).os,(cA b 0 (Nat.zero_le _) _ _ w w (Below.refl _ _)).tape,(cA b 0 (Nat.zero_le _) _ _ w w (Below.refl _ _)).output,fun k _ hk=>dH b _ _ w k hk⟩
    rw[hdrop,htake,List.append_nil]at hv
    rw[hget2]
    by_cases hj:j<i*4
    ·rw[if_neg (by omega)]
     rw[List.getElem?_append_left (by omega)]at hv
     exact hcs j v hv
    ·rw[List.getElem?_append_right (by omega),hcl]at hv
     rw[if_pos (by have:=(List.getElem?_eq_some_iff.1 hv).1;omega)]
     exact hv
  ·have hold:(Builtin.firstCells 4 i (.slice bs i c)).run Tryz.prog w.drew= .ok cs.toArray w.drew:=by
    cases r with
    |none=>
     obtain⟨rfl,rfl⟩:=hr
     have hc0:cs=[]:=List.length_eq_zero_iff.1 (by simpa using hcl)
     subst hc0
     cases bs<;>rfl
    |some b=>
     obtain⟨rfl,q1,_,_,q2⟩:=hr
     exact sE w.drew b i c cs cur q1 hcl q2
   refine(Hn i c vb m vc cs vs vcur w bs hm hnc (by omega) hbig h63 hold (fun e=>by cases r with|none=>exact hr.1|some b=>rw[hr.1]at e;cases e) hvl hvrow hvs).mono fun e w'⟨z0,hz0,he,hw⟩=> ?_
   refine new (olds:=cs++vs) hz0 (by rw[List.length_append,hcl,hvl]) (grownCap_ge w _ _ _) (grownCap_le_maxLen w _ _ _ hnm) (fun j v hv=> ?_) he (by rw[hw];simp)
   rw[hdrop,htake,List.append_nil]at hv
   exact hv
 ·have hlt:i<n:=by omega
  cases r with
  |none=>obtain⟨rfl,rfl⟩:=hr;omega
  |some b=>
   obtain⟨rfl,hrow,hsize,hvb,hcs⟩:=hr
   have hdl:(cs.drop (i*4)).length=n*4-i*4:=by rw[List.length_drop,hcl]
   have htl:(cs.take (i*4)).length=i*4:=by rw[List.length_take,hcl];omega
   by_cases hroom:n+m≤c
   ·refine(Mi b n c i vb m vc cs vs cur vcur w hlt hm hroom hc63 hvb hcl hvl hrow hsize hcs hvrow hvs h1c h1v).mono fun e w'⟨he,hw⟩=> ?_
    subst hw
    have hrowd:gC w.drew b cur:=hrow
    obtain⟨cur1,hrow1,hsz1,hget1⟩:=dV b (cs.drop (i*4)) ((i+m)*4) w.drew cur hrowd (by rw[hdl];omega)
    obtain⟨cur2,hrow2,hsz2,hget2⟩:=dV b vs (i*4) _ cur1 hrow1 (by omega)
    have bel:=cA b 0 (Nat.zero_le _) vs (i*4) w _ (cA b 0 (Nat.zero_le _) (cs.drop (i*4)) ((i+m)*4) w w.drew ⟨rfl,rfl,rfl,Nat.le_refl _,fun _ _=>rfl⟩)
    refine⟨b,c,cur2,he,hrow2,by rw[hsz2,hsz1];exact hsize,hroom,hcm,fun j v hv=> ?_, .inl ⟨rfl,by rw[hsz2,hsz1],by rw[dI,dI];rfl⟩,bel.os,bel.tape,bel.output,fun k _ hk=>by rw[dH b _ _ _ k hk,dH b _ _ _ k hk];rfl⟩
    rw[hget2]
    by_cases h1:j<i*4
    ·rw[if_neg (by omega),hget1,if_neg (by omega)]
     rw[List.append_assoc,List.getElem?_append_left (by omega),List.getElem?_take,if_pos h1]at hv
     exact hcs j v hv
    ·by_cases h2:j<i*4+m*4
     ·rw[if_pos (by omega)]
      rw[List.append_assoc,List.getElem?_append_right (by omega),htl,List.getElem?_append_left (by omega)]at hv
      exact hv
     ·rw[if_neg (by omega),hget1]
      rw[List.getElem?_append_right (by rw[List.length_append];omega),List.length_append,htl,hvl]at hv
      have hl:=(List.getElem?_eq_some_iff.1 hv).1
      rw[if_pos (by omega)]
      rw[show j-(i+m)*4=j-(i*4+m*4) by omega]
      exact hv
   ·refine(Nn b n c i vb m vc cs vs cur vcur w hlt hm hnc (by omega) hbig hcl hvl hrow hcs hvrow hvs h1c h1v).mono fun e w'⟨z0,hz0,he,hw⟩=> ?_
    have hG:=grownCap_ge w (n+m) c 256
    have hG2:=grownCap_le_maxLen w (n+m) c 256 hnm
    generalize grownCap w (n+m) c 256=G at he hw hG hG2
    generalize hROW:(cs.take (i*4)).toArray++Builtin.zeroCells z0.cells (n+m-i)++Builtin.zeroCells z0.cells (G-(n+m))=ROW at hw
    have hRs:ROW.size=G*4:=by
     rw[←hROW]
     simp only[Array.size_append,List.size_toArray,size_zeroCells,hz0,htl]
     omega
    have hR0:∀j,j<i*4→ROW[j]? =cs[j]? :=fun j hj=>by
     rw[←hROW,Array.getElem?_append_left (by simp only[Array.size_append,List.size_toArray,htl];omega),Array.getElem?_append_left (by simp only[List.size_toArray,htl];exact hj)]
     simp[hj]
    have hrow0:gC (w.alloc (.cells ROW 256)).drew w.heap.size ROW:=gC.new w ROW 256
    obtain⟨cur1,hrow1,hsz1,hget1⟩:=dV w.heap.size vs (i*4) _ ROW hrow0 (by omega)
    have hrow1d:gC ((w.alloc (.cells ROW 256)).drew.setCells w.heap.size (i*4) vs).drew w.heap.size cur1:=hrow1
    obtain⟨cur2,hrow2,hsz2,hget2⟩:=dV w.heap.size (cs.drop (i*4)) ((i+m)*4) _ cur1 hrow1d (by rw[hdl];omega)
    have bel0:Below w.heap.size w (w.alloc (.cells ROW 256)).drew:=⟨rfl,rfl,rfl,by simp[World.drew],fun k hk=>dW w _ k hk⟩
    have bel1:=cA w.heap.size w.heap.size (Nat.le_refl _) vs (i*4) w _ bel0
    have bel1d:Below w.heap.size w ((w.alloc (.cells ROW 256)).drew.setCells w.heap.size (i*4) vs).drew:=⟨bel1.os,bel1.tape,bel1.output,bel1.size,bel1.block⟩
    have bel2:=cA w.heap.size w.heap.size (Nat.le_refl _) (cs.drop (i*4)) ((i+m)*4) w _ bel1d
    rw[←hw]at bel2 hrow2
    refine⟨w.heap.size,G,cur2,he,hrow2,by rw[hsz2,hsz1,hRs],hG,hG2,fun j v hv=> ?_, .inr ⟨rfl,hrow2.lt⟩,bel2.os,bel2.tape,bel2.output,fun k hk _=>bel2.block k hk⟩
    rw[hget2]
    by_cases h1:j<i*4
    ·rw[if_neg (by omega),hget1,if_neg (by omega),hR0 j h1]
     rw[List.append_assoc,List.getElem?_append_left (by omega),List.getElem?_take,if_pos h1]at hv
     exact hv
    ·by_cases h2:j<i*4+m*4
     ·rw[if_neg (by omega),hget1,if_pos (by omega)]
      rw[List.append_assoc,List.getElem?_append_right (by omega),htl,List.getElem?_append_left (by omega)]at hv
      exact hv
     ·rw[List.getElem?_append_right (by rw[List.length_append];omega),List.length_append,htl,hvl]at hv
      have hl:=(List.getElem?_eq_some_iff.1 hv).1
      rw[if_pos (by omega)]
      rw[show j-(i+m)*4=j-(i*4+m*4) by omega]
      exact hv
end Go.Proofs.YtgmnakghjemjlaaGreat
set_option linter.unusedSimpArgs false
set_option linter.unusedVariables false
namespace Go.Proofs.YtgmnakghjemjlaaGreat
open Go Go.RowKit Gi
set_option maxHeartbeats 8000000
def kp :List (Nat×Nat):=[(328,248),(327,247),(214,355),(307,225),(308,226),(27,175),(79,210),(261,404),(301,411),(304,190),(80,61),(303,413),(143,387),(207,396),(208,397),(212,67),(145,389),(82,380),(146,178),(264,407),(83,151),(148,390),(213,246),(206,395),(209,398),(260,403),(86,382),(84,381),(81,379),(149,354),(28,374),(7,619),(85,154),(265,195),(306,224),(266,196),(267,197),(305,223),(263,406),(210,162),(144,388),(269,362),(140,478),(256,261),(201,490),(75,459),(255,498),(202,491),(205,218),(74,458),(204,493),(297,501),(141,479),(73,457),(258,242),(203,492),(254,334),(77,461),(76,460),(72,456),(142,191),(257,499),(26,434),(259,333),(299,347),(326,217),(340,241),(324,415),(268,90),(211,213),(3,610),(223,82),(157,50),(150,205),(87,171),(273,259),(310,268),(271,257),(216,236),(341,279),(330,275),(32,142),(272,258),(217,237),(342,91),(332,69),(331,276),(312,269),(275,94),(220,77),(221,78),(276,9),(222,55),(277,38),(219,76),(151,44),(153,206),(89,172),(31,141),(152,45),(154,207),(90,173),(313,270),(88,14),(30,140),(314,39),(215,235),(218,238),(346,282),(92,19),(34,144),(91,174),(33,143),(29,139),(156,24),(311,63),(155,208),(274,260),(8,108),(224,83),(158,51),(112,469),(104,462),(167,483),(164,480),(226,494),(44,438),(168,484),(166,482),(106,464),(107,465),(111,468),(105,463),(108,466),(43,437),(109,467),(42,436),(46,440),(45,439),(41,435),(165,481),(110,422),(10,425),(113,470),(102,448),(93,441),(162,474),(159,471),(225,485),(38,429),(163,475),(161,473),(96,443),(97,444),(101,447),(95,442),(98,445),(37,428),(99,446),(36,427),(40,431),(39,430),(35,426),(160,472),(100,421),(94,432),(9,420),(103,449),(120,46),(114,198),(47,163),(229,251),(278,262),(227,249),(170,228),(333,277),(315,271),(14,130),(228,250),(171,229),(334,87),(317,64),(316,272),(280,263),(231,92),(174,71),(175,72),(232,5),(176,52),(233,30),(173,70),(115,40),(117,199),(49,164),(13,129),(116,41),(50,165),(281,264),(48,10),(12,128),(282,31),(169,227),(172,230),(343,280),(52,15),(16,132),(51,166),(15,131),(11,127),(119,20),(279,57),(118,200),(230,252),(4,104),(177,79),(121,47),(199,80),(138,48),(131,201),(66,167),(249,255),(292,265),(247,253),(192,232),(335,278),(321,273),(23,136),(248,254),(193,233),(336,89),(323,66),(322,274),(294,266),(251,93),(196,74),(197,75),(252,7),(198,53),(253,34),(195,73),(132,42),(134,202),(68,168),(22,135),(133,43),(135,203),(69,169),(295,267),(67,12),(21,134),(296,35),(191,231),(194,234),(344,281),(71,17),(25,138),(70,170),(24,137),(20,133),(137,22),(293,60),(136,204),(250,256),(6,106),(200,81),(139,49),(262,405),(78,209),(298,346),(339,240),(300,410),(302,412),(147,182),(325,356),(320,245),(319,244),(185,351),(290,221),(291,222),(18,145),(241,400),(287,186),(286,409),(128,384),(187,392),(188,393),(183,65),(130,386),(65,378),(125,177),(243,402),(62,149),(126,383),(184,243),(186,391),(189,394),(285,408),(61,376),(59,375),(64,377),(127,350),(19,373),(5,618),(244,192),(289,220),(245,193),(246,194),(288,219),(242,401),(190,161),(179,487),(123,477),(181,489),(283,329),(57,454),(234,495),(178,486),(240,399),(54,451),(63,58),(284,500),(58,455),(236,497),(180,488),(55,452),(56,453),(122,476),(53,450),(129,385),(17,433),(60,181),(239,359),(238,88),(237,239),(124,187),(182,214),(318,414),(235,496),(270,363)]
def Re (f:Nat):Option Nat:=kp.lookup f
noncomputable instance kfI:KF:=⟨Re,Tryz.prog⟩
theorem FY :∀{l:List (Nat×Nat)}{f k:Nat},l.lookup f=some k→(f,k)∈l
 |[],_,_,h=>by simp at h
 |(a,b)::l,f,k,h=>by
  rw[List.lookup_cons]at h
  split at h
  ·rename_i he
   cases h
   rw[show f=a by simpa using he]
   exact List.mem_cons_self
  ·exact List.mem_cons_of_mem _ (FY h)
def Gm :Ctx:=⟨fun _=>True,0,fun _ _ _ _=>trivial,fun _ _=>Nat.zero_le _⟩
def IU (p:Nat×Nat):Prop:=(∃fn af,Tryz.prog.funcs[p.1]? =some fn∧P2 Tryz.prog Gi.kf fn=some af∧Ph p.2=some af)∨
 (Ph p.2=none∧(∃fn,Tryz.prog.funcs[p.1]? =some fn∧fn.body.isNone=false∧(fn.name== "runtime.NumGoroutine")=false)∧∀xs r,aG p.2 xs=some r→yS Gm Tryz.prog p.1 xs r)
set_option maxRecDepth 100000 in
theorem I5 (a b:ByteArray)(w:World):Calls Tryz.prog 309 #[.string a, .string b] w fun e w'=>e= .returned (.int .i64 (Lib.compareBytes a.data.toList b.data.toList))∧w'=w:=by
 have mixed:Tryz.prog.follows .mixedOrders=true:=by kernel_rfl
 go_enter Tryz.func309,Tryz.ntmps309
 go_wp2
 rw[run_callFunc_extern Tryz.func329 (by kernel_rfl) (by kernel_rfl) (by kernel_rfl) (e:=Extern.BytealgCompare.compare) (by kernel_rfl),Lib.run_compareString]
 simp only[Result.andThen]
 rw[Oper.upon_value]
 go_wp2
 go_ret
 exact⟨rfl,rfl⟩
set_option maxRecDepth 100000 in
theorem Lp (a b:ByteArray)(w:World):Calls Tryz.prog 270 #[.string a, .string b] w fun e w'=>e= .returned (.int .i64 (Lib.compareBytes a.data.toList b.data.toList))∧w'=w:=by
 have mixed:Tryz.prog.follows .mixedOrders=true:=by kernel_rfl
 have e213:∀args w,(callFunc 309 args).run Tryz.prog w= .ok (.enter 309 args) w:=enters_of Tryz.func309 (by kernel_rfl) rfl
 go_enter Tryz.func270,Tryz.ntmps270
 go_wp2_with (go_at_fn 309;refine(I5 _ _ _).mono ?_;rintro e w' ⟨rfl,rfl⟩)
 go_ret
 exact⟨rfl,rfl⟩
theorem Lq :∀xs r,aG 363 xs=some r→yS Gm Tryz.prog 270 xs r:=by
 intro xs r h
 unfold aG at h
 split at h
 rotate_left
 ·cases h
 ·rename_i heq
  cases heq
  rename_i a b
  cases h
  refine⟨rfl,fun M0 w vals hG hM ha=> ?_⟩
  obtain⟨hl,hv⟩:=ha
  obtain⟨v,v2,hvs⟩:∃v v2,vals.toList=[v,v2]:=by
   match h:vals.toList,hl with
   |[v,v2],_=>exact⟨v,v2,rfl⟩
  have h0:VR M0 w [] [] (dS a) v:=hv 0 _ v rfl (by rw[hvs];rfl)
  have h1:VR M0 w [] [] (dS b) v2:=hv 1 _ v2 rfl (by rw[hvs];rfl)
  have hv0:v= .string ⟨a.toArray⟩:=by simpa[VR,LR,ak]using h0
  have hv1:v2= .string ⟨b.toArray⟩:=by simpa[VR,LR,ak]using h1
  obtain rfl:vals= #[.string ⟨a.toArray⟩, .string ⟨b.toArray⟩]:=by cases vals;simp_all
  refine(Lp ⟨a.toArray⟩ ⟨b.toArray⟩ w).mono fun e w'⟨he,hw'⟩=> ?_
  subst hw'
  refine⟨_,he,Below.refl _ _,[],(show HR M0 w'.heap.size w' [] [] from ⟨⟨rfl,fun b h=>⟨hM b h,fun o ob ho=>by simp at ho⟩,Nat.le_refl _,fun i x r hi=>by simp at hi,fun i i' x x' b h1=>by simp at h1⟩,fun _=>[],⟨fun i x b hi=>by simp at hi,fun i x z2 es2 b hi=>by simp at hi⟩,fun _ _=>rfl,nofun⟩),?_⟩
  simp[thaw,thawL,VR,LR,ak]
theorem Ow :IU (325,356):=Or.inr ⟨rfl,⟨Tryz.f325,Tryz.func325,by kernel_rfl,by kernel_rfl⟩,fun xs r h=>by unfold aG at h;split at h<;>first|(rename_i heq;cases heq;done)|cases h⟩
theorem Ox :IU (270,363):=Or.inr ⟨rfl,⟨Tryz.f270,Tryz.func270,by kernel_rfl,by kernel_rfl⟩,Lq⟩
def Al {α:Type}(P:α→Prop):List α→Prop
 |[]=>True
 |a::l=>P a∧Al P l
theorem MM {α:Type}{P:α→Prop}:∀{l:List α},Al P l→∀a∈l,P a
 |[],_,a,m=>by cases m
 |b::l,h,a,m=>by
  rcases List.mem_cons.1 m with rfl|m
  ·exact h.1
  ·exact MM h.2 a m
theorem fN {i k:Nat}{fn:_}{af:AFn}(h:Tryz.prog.funcs[i]? =some fn)(h3:Ph k=some af:=by exact rfl)(h2:P2 Tryz.prog Gi.kf fn=some af:=by as_aux_lemma=>kernel_rfl):IU (i,k):=Or.inl ⟨fn,af,h,h2,h3⟩
def Gc (c:Nat):Prop:=Al IU ((kp.drop (c*16)).take 16)
end Go.Proofs.YtgmnakghjemjlaaGreat
