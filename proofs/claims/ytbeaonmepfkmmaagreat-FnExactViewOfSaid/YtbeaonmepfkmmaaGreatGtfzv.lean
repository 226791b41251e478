/- Of this proof. -/
import Derived.Test.YtbeaonmepfkmmaaGreatGtfbv
import Derived.Test.YtbeaonmepfkmmaaGreatGtfcv
import Derived.Test.YtbeaonmepfkmmaaGreatGtfdv
import Derived.KernelRfl
set_option linter.unusedSimpArgs false
set_option linter.unusedVariables false
namespace Go.Proofs.YtbeaonmepfkmmaaGreat
open Go Go.RowKit Gi
set_option maxHeartbeats 8000000
theorem T6 :∀{n:Nat}{l:List (Nat×Nat)},(∀c,c<n→Al G4 ((l.drop (c*16)).take 16))→l.length≤n*16→∀p∈l,G4 p:=by
 intro n l h hl p hp
 obtain⟨i,hi,rfl⟩:=List.getElem_of_mem hp
 refine Qx (h (i/16) (by omega)) _ (List.mem_iff_getElem?.2 ⟨i%16,?_⟩)
 rw[List.getElem?_take,if_pos (Nat.mod_lt _ (by decide)),List.getElem?_drop,show i/16*16+i%16=i by omega]
 simp[hi]
set_option maxRecDepth 100000 in
theorem U7 :∀p∈kp,G4 p:=T6 (n:=20) (fun c hc=>match c,hc with
 |0,_=>V1
 |1,_=>V2
 |2,_=>V3
 |3,_=>V4
 |4,_=>V5
 |5,_=>V6
 |6,_=>V7
 |7,_=>V8
 |8,_=>V9
 |9,_=>Wa
 |10,_=>Vw
 |11,_=>Vx
 |12,_=>Vy
 |13,_=>Vz
 |14,_=>VA
 |15,_=>VB
 |16,_=>VC
 |17,_=>VD
 |18,_=>VE
 |19,_=>VF
 |c+20,hc=>by omega) (by decide)
theorem mixed :Tryz.prog.follows .mixedOrders=true:=by kernel_rfl
theorem S7 :kp.all (fun p=>match Tryz.prog.funcs[p.1]? with|some fn=> !(fn.origin== "slices.Insert")||p.1==320||p.1==321|none=>true)=true:=by kernel_rfl
theorem ins :∀f k fn t e z b,Gi.kf f=some k→Tryz.prog.funcs[f]? =some fn→fn.origin= "slices.Insert" →fn.params.toList.head? =some t→iO Tryz.prog t=some e→qt Tryz.prog e=some z→Np Tryz.prog e=some b→Ct Tryz.prog f z b:=by
 intro f k fn t e z b hk hfn horg hpar he hz hb
 have h1:=List.all_eq_true.1 S7 (f,k) (D7 (l:=kp) (f:=f) (k:=k) hk)
 simp only[hfn,horg,beq_self_eq_true,Bool.not_true,Bool.false_or,Bool.or_eq_true,beq_iff_eq]at h1
 rcases h1 with rfl|rfl
 ·rw[Tryz.func320]at hfn
  cases hfn
  obtain rfl:184=t:=by simpa using hpar
  rw[show iO Tryz.prog 184=some 304 by kernel_rfl]at he
  cases he
  rw[show qt Tryz.prog 304=some 2 by kernel_rfl]at hz
  rw[show Np Tryz.prog 304=some 24 by kernel_rfl]at hb
  cases hz
  cases hb
  exact Rl
 ·rw[Tryz.func321]at hfn
  cases hfn
  obtain rfl:55=t:=by simpa using hpar
  rw[show iO Tryz.prog 55=some 188 by kernel_rfl]at he
  cases he
  rw[show qt Tryz.prog 188=some 4 by kernel_rfl]at hz
  rw[show Np Tryz.prog 188=some 56 by kernel_rfl]at hb
  cases hz
  cases hb
  exact S6
set_option maxRecDepth 100000 in
theorem Uy :kp.all (fun p=>Nat.blt p.2 nN&&(Ph (p.2+nN)).isNone)=true:=by kernel_rfl
theorem small :∀f k,Gi.kf f=some k→k<nN∧Ph (k+nN)=none:=by
 intro f k h
 have h1:=List.all_eq_true.1 Uy (f,k) (D7 (l:=kp) (f:=f) (k:=k) h)
 simp only[Bool.and_eq_true,Option.isNone_iff_eq_none]at h1
 exact⟨by simpa using h1.1,h1.2⟩
theorem SK :kp.all (fun p=>match Tryz.prog.funcs[p.1]? with|some fn=> !(fn.origin== "slices.DeleteFunc")||p.1==343|none=>true)=true:=by kernel_rfl
theorem del :∀f k fn t e z,Gi.kf f=some k→Tryz.prog.funcs[f]? =some fn→fn.origin= "slices.DeleteFunc" →fn.params.toList.head? =some t→iO Tryz.prog t=some e→qt Tryz.prog e=some z→Sx Gm Tryz.prog f z:=by
 intro f k fn t e z hk hfn horg hpar he hz
 have h1:=List.all_eq_true.1 SK (f,k) (D7 (l:=kp) (f:=f) (k:=k) hk)
 simp only[hfn,horg,beq_self_eq_true,Bool.not_true,Bool.false_or,Bool.or_eq_true,beq_iff_eq]at h1
 obtain rfl:=h1
 ·rw[Tryz.func343]at hfn
  cases hfn
  obtain rfl:55=t:=by simpa using hpar
  rw[show iO Tryz.prog 55=some 188 by kernel_rfl]at he
  cases he
  rw[show qt Tryz.prog 188=some 4 by kernel_rfl]at hz
  cases hz
  exact SL SJ
theorem VG :Impl Gm Tryz.prog Gi.kf Ph aH:=⟨rfl,mixed,fun f k h=>U7 (f,k) (D7 (l:=kp) (f:=f) (k:=k) h),small,ins,del⟩
end Go.Proofs.YtbeaonmepfkmmaaGreat
