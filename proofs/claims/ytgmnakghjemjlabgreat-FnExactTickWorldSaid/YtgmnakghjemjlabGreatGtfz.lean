/- Of this proof. -/
import Derived.Test.YtgmnakghjemjlabGreatGtfb
import Derived.Test.YtgmnakghjemjlabGreatGtfc
import Derived.Test.YtgmnakghjemjlabGreatGtfd
import Derived.KernelRfl
set_option linter.unusedSimpArgs false
set_option linter.unusedVariables false
namespace Go.Proofs.YtgmnakghjemjlabGreat
open Go Go.RowKit Gi
set_option maxHeartbeats 8000000
theorem PY :∀{n:Nat}{l:List (Nat×Nat)},(∀c,c<n→Al Js ((l.drop (c*16)).take 16))→l.length≤n*16→∀p∈l,Js p:=by
 intro n l h hl p hp
 obtain⟨i,hi,rfl⟩:=List.getElem_of_mem hp
 refine Nx (h (i/16) (by omega)) _ (List.mem_iff_getElem?.2 ⟨i%16,?_⟩)
 rw[List.getElem?_take,if_pos (Nat.mod_lt _ (by decide)),List.getElem?_drop,show i/16*16+i%16=i by omega]
 simp[hi]
set_option maxRecDepth 100000 in
theorem QS :∀p∈kp,Js p:=PY (n:=22) (fun c hc=>match c,hc with
 |0,_=>RR
 |1,_=>RS
 |2,_=>RT
 |3,_=>RU
 |4,_=>RV
 |5,_=>RW
 |6,_=>RX
 |7,_=>RY
 |8,_=>RZ
 |9,_=>R2
 |10,_=>Rn
 |11,_=>Ro
 |12,_=>Rp
 |13,_=>Rq
 |14,_=>Rr
 |15,_=>Rs
 |16,_=>Rt
 |17,_=>Ru
 |18,_=>Rv
 |19,_=>Rw
 |20,_=>Rx
 |21,_=>Ry
 |c+22,hc=>by omega) (by decide)
theorem mixed :Tryz.prog.follows .mixedOrders=true:=by kernel_rfl
theorem Pm :kp.all (fun p=>match Tryz.prog.funcs[p.1]? with|some fn=> !(fn.origin== "slices.Insert")||p.1==333|none=>true)=true:=by kernel_rfl
theorem ins :∀f k fn t e z b,Gi.kf f=some k→Tryz.prog.funcs[f]? =some fn→fn.origin= "slices.Insert" →fn.params.toList.head? =some t→jf Tryz.prog t=some e→qx Tryz.prog e=some z→LZ Tryz.prog e=some b→E9 Tryz.prog f z b:=by
 intro f k fn t e z b hk hfn horg hpar he hz hb
 have h1:=List.all_eq_true.1 Pm (f,k) (Dd (l:=kp) (f:=f) (k:=k) hk)
 simp only[hfn,horg,beq_self_eq_true,Bool.not_true,Bool.false_or,Bool.or_eq_true,beq_iff_eq]at h1
 obtain rfl:=h1
 ·rw[Tryz.func333]at hfn
  cases hfn
  obtain rfl:124=t:=by simpa using hpar
  rw[show jf Tryz.prog 124=some 264 by kernel_rfl]at he
  cases he
  rw[show qx Tryz.prog 264=some 4 by kernel_rfl]at hz
  rw[show LZ Tryz.prog 264=some 56 by kernel_rfl]at hb
  cases hz
  cases hb
  exact Pl
set_option maxRecDepth 100000 in
theorem Qk :kp.all (fun p=>Nat.blt p.2 jJ&&(Ph (p.2+jJ)).isNone)=true:=by kernel_rfl
theorem small :∀f k,Gi.kf f=some k→k<jJ∧Ph (k+jJ)=none:=by
 intro f k h
 have h1:=List.all_eq_true.1 Qk (f,k) (Dd (l:=kp) (f:=f) (k:=k) h)
 simp only[Bool.and_eq_true,Option.isNone_iff_eq_none]at h1
 exact⟨by simpa using h1.1,h1.2⟩
theorem Pa :kp.all (fun p=>match Tryz.prog.funcs[p.1]? with|some fn=> !(fn.origin== "slices.DeleteFunc")|none=>true)=true:=by kernel_rfl
theorem del :∀f k fn t e z,Gi.kf f=some k→Tryz.prog.funcs[f]? =some fn→fn.origin= "slices.DeleteFunc" →fn.params.toList.head? =some t→jf Tryz.prog t=some e→qx Tryz.prog e=some z→
 Ph k=none∧∀c cs es es',aE k [bm es, .one (.fn c cs), .one (.own 0 [])]=some (bm es')→KQ Tryz.prog f z c cs es es':=by
 intro f k fn t e z hk hfn horg
 have h1:=List.all_eq_true.1 Pa (f,k) (Dd (l:=kp) (f:=f) (k:=k) hk)
 simp only[hfn,horg,beq_self_eq_true,Bool.not_true]at h1
 cases h1
theorem Rz :Impl Gm Tryz.prog Gi.kf Ph aE:=⟨rfl,mixed,fun f k h=>QS (f,k) (Dd (l:=kp) (f:=f) (k:=k) h),small,ins,del⟩
end Go.Proofs.YtgmnakghjemjlabGreat
