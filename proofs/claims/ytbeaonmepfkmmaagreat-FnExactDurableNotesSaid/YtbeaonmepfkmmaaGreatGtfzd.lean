/- Of this proof. -/
import Derived.Test.YtbeaonmepfkmmaaGreatGtfbd
import Derived.Test.YtbeaonmepfkmmaaGreatGtfcd
import Derived.Test.YtbeaonmepfkmmaaGreatGtfdd
import Derived.KernelRfl
set_option linter.unusedSimpArgs false
set_option linter.unusedVariables false
namespace Go.Proofs.YtbeaonmepfkmmaaGreat
open Go Go.RowKit Gi
set_option maxHeartbeats 8000000
theorem SN :∀{n:Nat}{l:List (Nat×Nat)},(∀c,c<n→Al Fq ((l.drop (c*16)).take 16))→l.length≤n*16→∀p∈l,Fq p:=by
 intro n l h hl p hp
 obtain⟨i,hi,rfl⟩:=List.getElem_of_mem hp
 refine Pf (h (i/16) (by omega)) _ (List.mem_iff_getElem?.2 ⟨i%16,?_⟩)
 rw[List.getElem?_take,if_pos (Nat.mod_lt _ (by decide)),List.getElem?_drop,show i/16*16+i%16=i by omega]
 simp[hi]
set_option maxRecDepth 100000 in
theorem TW :∀p∈kp,Fq p:=SN (n:=19) (fun c hc=>match c,hc with
 |0,_=>UR
 |1,_=>US
 |2,_=>UT
 |3,_=>UU
 |4,_=>UV
 |5,_=>UW
 |6,_=>UX
 |7,_=>UY
 |8,_=>UZ
 |9,_=>U0
 |10,_=>Uo
 |11,_=>Up
 |12,_=>Uq
 |13,_=>Ur
 |14,_=>Us
 |15,_=>Ut
 |16,_=>Uu
 |17,_=>Uv
 |18,_=>Uw
 |c+19,hc=>by omega) (by decide)
theorem mixed :Tryz.prog.follows .mixedOrders=true:=by kernel_rfl
theorem RK :kp.all (fun p=>match Tryz.prog.funcs[p.1]? with|some fn=> !(fn.origin== "slices.Insert")||p.1==320||p.1==321|none=>true)=true:=by kernel_rfl
theorem ins :∀f k fn t e z b,Gi.kf f=some k→Tryz.prog.funcs[f]? =some fn→fn.origin= "slices.Insert" →fn.params.toList.head? =some t→iA Tryz.prog t=some e→pe Tryz.prog e=some z→LW Tryz.prog e=some b→A5 Tryz.prog f z b:=by
 intro f k fn t e z b hk hfn horg hpar he hz hb
 have h1:=List.all_eq_true.1 RK (f,k) (Cx (l:=kp) (f:=f) (k:=k) hk)
 simp only[hfn,horg,beq_self_eq_true,Bool.not_true,Bool.false_or,Bool.or_eq_true,beq_iff_eq]at h1
 rcases h1 with rfl|rfl
 ·rw[Tryz.func320]at hfn
  cases hfn
  obtain rfl:184=t:=by simpa using hpar
  rw[show iA Tryz.prog 184=some 304 by kernel_rfl]at he
  cases he
  rw[show pe Tryz.prog 304=some 2 by kernel_rfl]at hz
  rw[show LW Tryz.prog 304=some 24 by kernel_rfl]at hb
  cases hz
  cases hb
  exact P6
 ·rw[Tryz.func321]at hfn
  cases hfn
  obtain rfl:55=t:=by simpa using hpar
  rw[show iA Tryz.prog 55=some 188 by kernel_rfl]at he
  cases he
  rw[show pe Tryz.prog 188=some 4 by kernel_rfl]at hz
  rw[show LW Tryz.prog 188=some 56 by kernel_rfl]at hb
  cases hz
  cases hb
  exact RJ
set_option maxRecDepth 100000 in
theorem Tl :kp.all (fun p=>Nat.blt p.2 mM&&(Ph (p.2+mM)).isNone)=true:=by kernel_rfl
theorem small :∀f k,Gi.kf f=some k→k<mM∧Ph (k+mM)=none:=by
 intro f k h
 have h1:=List.all_eq_true.1 Tl (f,k) (Cx (l:=kp) (f:=f) (k:=k) h)
 simp only[Bool.and_eq_true,Option.isNone_iff_eq_none]at h1
 exact⟨by simpa using h1.1,h1.2⟩
theorem Rn :kp.all (fun p=>match Tryz.prog.funcs[p.1]? with|some fn=> !(fn.origin== "slices.DeleteFunc")||p.1==343|none=>true)=true:=by kernel_rfl
theorem del :∀f k fn t e z,Gi.kf f=some k→Tryz.prog.funcs[f]? =some fn→fn.origin= "slices.DeleteFunc" →fn.params.toList.head? =some t→iA Tryz.prog t=some e→pe Tryz.prog e=some z→Ra Gm Tryz.prog f z:=by
 intro f k fn t e z hk hfn horg hpar he hz
 have h1:=List.all_eq_true.1 Rn (f,k) (Cx (l:=kp) (f:=f) (k:=k) hk)
 simp only[hfn,horg,beq_self_eq_true,Bool.not_true,Bool.false_or,Bool.or_eq_true,beq_iff_eq]at h1
 obtain rfl:=h1
 ·rw[Tryz.func343]at hfn
  cases hfn
  obtain rfl:55=t:=by simpa using hpar
  rw[show iA Tryz.prog 55=some 188 by kernel_rfl]at he
  cases he
  rw[show pe Tryz.prog 188=some 4 by kernel_rfl]at hz
  cases hz
  exact Ro Rm
theorem Ux :Impl Gm Tryz.prog Gi.kf Ph aN:=⟨rfl,mixed,fun f k h=>TW (f,k) (Cx (l:=kp) (f:=f) (k:=k) h),small,ins,del⟩
end Go.Proofs.YtbeaonmepfkmmaaGreat
