/- Of this proof. -/
import Derived.Test.YtbeaonmepfkmmaaGreatGtfb
import Derived.Test.YtbeaonmepfkmmaaGreatGtfc
import Derived.Test.YtbeaonmepfkmmaaGreatGtfd
import Derived.KernelRfl
set_option linter.unusedSimpArgs false
set_option linter.unusedVariables false
namespace Go.Proofs.YtbeaonmepfkmmaaGreat
open Go Go.RowKit Gi
set_option maxHeartbeats 8000000
theorem S7 :∀{n:Nat}{l:List (Nat×Nat)},(∀c,c<n→Al GZ ((l.drop (c*16)).take 16))→l.length≤n*16→∀p∈l,GZ p:=by
 intro n l h hl p hp
 obtain⟨i,hi,rfl⟩:=List.getElem_of_mem hp
 refine PK (h (i/16) (by omega)) _ (List.mem_iff_getElem?.2 ⟨i%16,?_⟩)
 rw[List.getElem?_take,if_pos (Nat.mod_lt _ (by decide)),List.getElem?_drop,show i/16*16+i%16=i by omega]
 simp[hi]
set_option maxRecDepth 100000 in
theorem T9 :∀p∈kp,GZ p:=S7 (n:=21) (fun c hc=>match c,hc with
 |0,_=>U7
 |1,_=>U8
 |2,_=>U9
 |3,_=>Va
 |4,_=>Vb
 |5,_=>Vc
 |6,_=>Vd
 |7,_=>Ve
 |8,_=>Vf
 |9,_=>Vg
 |10,_=>UB
 |11,_=>UC
 |12,_=>UD
 |13,_=>UE
 |14,_=>UF
 |15,_=>UG
 |16,_=>UH
 |17,_=>UI
 |18,_=>UJ
 |19,_=>UK
 |20,_=>UL
 |c+21,hc=>by omega) (by decide)
theorem mixed :Tryz.prog.follows .mixedOrders=true:=by kernel_rfl
theorem Sa :kp.all (fun p=>match Tryz.prog.funcs[p.1]? with|some fn=> !(fn.origin== "slices.Insert")||p.1==320||p.1==321|none=>true)=true:=by kernel_rfl
theorem ins :∀f k fn t e z b,Gi.kf f=some k→Tryz.prog.funcs[f]? =some fn→fn.origin= "slices.Insert" →fn.params.toList.head? =some t→jc Tryz.prog t=some e→qR Tryz.prog e=some z→MU Tryz.prog e=some b→CO Tryz.prog f z b:=by
 intro f k fn t e z b hk hfn horg hpar he hz hb
 have h1:=List.all_eq_true.1 Sa (f,k) (Eh (l:=kp) (f:=f) (k:=k) hk)
 simp only[hfn,horg,beq_self_eq_true,Bool.not_true,Bool.false_or,Bool.or_eq_true,beq_iff_eq]at h1
 rcases h1 with rfl|rfl
 ·rw[Tryz.func320]at hfn
  cases hfn
  obtain rfl:184=t:=by simpa using hpar
  rw[show jc Tryz.prog 184=some 304 by kernel_rfl]at he
  cases he
  rw[show qR Tryz.prog 304=some 2 by kernel_rfl]at hz
  rw[show MU Tryz.prog 304=some 24 by kernel_rfl]at hb
  cases hz
  cases hb
  exact QB
 ·rw[Tryz.func321]at hfn
  cases hfn
  obtain rfl:55=t:=by simpa using hpar
  rw[show jc Tryz.prog 55=some 188 by kernel_rfl]at he
  cases he
  rw[show qR Tryz.prog 188=some 4 by kernel_rfl]at hz
  rw[show MU Tryz.prog 188=some 56 by kernel_rfl]at hb
  cases hz
  cases hb
  exact R9
set_option maxRecDepth 100000 in
theorem Tx :kp.all (fun p=>Nat.blt p.2 wd&&(Ph (p.2+wd)).isNone)=true:=by kernel_rfl
theorem small :∀f k,Gi.kf f=some k→k<wd∧Ph (k+wd)=none:=by
 intro f k h
 have h1:=List.all_eq_true.1 Tx (f,k) (Eh (l:=kp) (f:=f) (k:=k) h)
 simp only[Bool.and_eq_true,Option.isNone_iff_eq_none]at h1
 exact⟨by simpa using h1.1,h1.2⟩
theorem RR :kp.all (fun p=>match Tryz.prog.funcs[p.1]? with|some fn=> !(fn.origin== "slices.DeleteFunc")||p.1==343|none=>true)=true:=by kernel_rfl
theorem del :∀f k fn t e z,Gi.kf f=some k→Tryz.prog.funcs[f]? =some fn→fn.origin= "slices.DeleteFunc" →fn.params.toList.head? =some t→jc Tryz.prog t=some e→qR Tryz.prog e=some z→RE Gm Tryz.prog f z:=by
 intro f k fn t e z hk hfn horg hpar he hz
 have h1:=List.all_eq_true.1 RR (f,k) (Eh (l:=kp) (f:=f) (k:=k) hk)
 simp only[hfn,horg,beq_self_eq_true,Bool.not_true,Bool.false_or,Bool.or_eq_true,beq_iff_eq]at h1
 obtain rfl:=h1
 ·rw[Tryz.func343]at hfn
  cases hfn
  obtain rfl:55=t:=by simpa using hpar
  rw[show jc Tryz.prog 55=some 188 by kernel_rfl]at he
  cases he
  rw[show qR Tryz.prog 188=some 4 by kernel_rfl]at hz
  cases hz
  exact RS RQ
theorem UM :Impl Gm Tryz.prog Gi.kf Ph aC:=⟨rfl,mixed,fun f k h=>T9 (f,k) (Eh (l:=kp) (f:=f) (k:=k) h),small,ins,del⟩
end Go.Proofs.YtbeaonmepfkmmaaGreat
