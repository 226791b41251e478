/- Of this proof. -/
import Derived.Test.YtpfadfkomcbecaaGreatGtfb
import Derived.Test.YtpfadfkomcbecaaGreatGtfc
import Derived.Test.YtpfadfkomcbecaaGreatGtfd
import Derived.KernelRfl
set_option linter.unusedSimpArgs false
set_option linter.unusedVariables false
namespace Go.Proofs.YtpfadfkomcbecaaGreat
open Go Go.RowKit Gi
set_option maxHeartbeats 8000000
theorem Ry :∀{n:Nat}{l:List (Nat×Nat)},(∀c,c<n→Al Iz ((l.drop (c*16)).take 16))→l.length≤n*16→∀p∈l,Iz p:=by
 intro n l h hl p hp
 obtain⟨i,hi,rfl⟩:=List.getElem_of_mem hp
 refine OX (h (i/16) (by omega)) _ (List.mem_iff_getElem?.2 ⟨i%16,?_⟩)
 rw[List.getElem?_take,if_pos (Nat.mod_lt _ (by decide)),List.getElem?_drop,show i/16*16+i%16=i by omega]
 simp[hi]
set_option maxRecDepth 100000 in
theorem SC :∀p∈kp,Iz p:=Ry (n:=22) (fun c hc=>match c,hc with
 |0,_=>TF
 |1,_=>TG
 |2,_=>TH
 |3,_=>TI
 |4,_=>TJ
 |5,_=>TK
 |6,_=>TL
 |7,_=>TM
 |8,_=>TN
 |9,_=>TO
 |10,_=>Ta
 |11,_=>Tb
 |12,_=>Tc
 |13,_=>Td
 |14,_=>Te
 |15,_=>Tf
 |16,_=>Tg
 |17,_=>Ti
 |18,_=>Tj
 |19,_=>Tk
 |20,_=>Tl
 |21,_=>Tm
 |c+22,hc=>by omega) (by decide)
theorem mixed :Tryz.prog.follows .mixedOrders=true:=by kernel_rfl
theorem QV :kp.all (fun p=>match Tryz.prog.funcs[p.1]? with|some fn=> !(fn.origin== "slices.Insert")||p.1==339|none=>true)=true:=by kernel_rfl
theorem ins :∀f k fn t e z b,Gi.kf f=some k→Tryz.prog.funcs[f]? =some fn→fn.origin= "slices.Insert" →fn.params.toList.head? =some t→iN Tryz.prog t=some e→qq Tryz.prog e=some z→Nk Tryz.prog e=some b→F5 Tryz.prog f z b:=by
 intro f k fn t e z b hk hfn horg hpar he hz hb
 have h1:=List.all_eq_true.1 QV (f,k) (DU (l:=kp) (f:=f) (k:=k) hk)
 simp only[hfn,horg,beq_self_eq_true,Bool.not_true,Bool.false_or,Bool.or_eq_true,beq_iff_eq]at h1
 obtain rfl:=h1
 ·rw[Tryz.func339]at hfn
  cases hfn
  obtain rfl:119=t:=by simpa using hpar
  rw[show iN Tryz.prog 119=some 263 by kernel_rfl]at he
  cases he
  rw[show qq Tryz.prog 263=some 4 by kernel_rfl]at hz
  rw[show Nk Tryz.prog 263=some 56 by kernel_rfl]at hb
  cases hz
  cases hb
  exact QU
set_option maxRecDepth 100000 in
theorem R2 :kp.all (fun p=>Nat.blt p.2 jN&&(Ph (p.2+jN)).isNone)=true:=by kernel_rfl
theorem small :∀f k,Gi.kf f=some k→k<jN∧Ph (k+jN)=none:=by
 intro f k h
 have h1:=List.all_eq_true.1 R2 (f,k) (DU (l:=kp) (f:=f) (k:=k) h)
 simp only[Bool.and_eq_true,Option.isNone_iff_eq_none]at h1
 exact⟨by simpa using h1.1,h1.2⟩
theorem QF :kp.all (fun p=>match Tryz.prog.funcs[p.1]? with|some fn=> !(fn.origin== "slices.DeleteFunc")||p.1==93|none=>true)=true:=by kernel_rfl
theorem del :∀f k fn t e z,Gi.kf f=some k→Tryz.prog.funcs[f]? =some fn→fn.origin= "slices.DeleteFunc" →fn.params.toList.head? =some t→iN Tryz.prog t=some e→qq Tryz.prog e=some z→Qx Gm Tryz.prog f z:=by
 intro f k fn t e z hk hfn horg hpar he hz
 have h1:=List.all_eq_true.1 QF (f,k) (DU (l:=kp) (f:=f) (k:=k) hk)
 simp only[hfn,horg,beq_self_eq_true,Bool.not_true,Bool.false_or,Bool.or_eq_true,beq_iff_eq]at h1
 obtain rfl:=h1
 ·rw[Tryz.func93]at hfn
  cases hfn
  obtain rfl:41=t:=by simpa using hpar
  rw[show iN Tryz.prog 41=some 136 by kernel_rfl]at he
  cases he
  rw[show qq Tryz.prog 136=some 4 by kernel_rfl]at hz
  cases hz
  exact QG QD
theorem Tn :Impl Gm Tryz.prog Gi.kf Ph aF:=⟨rfl,mixed,fun f k h=>SC (f,k) (DU (l:=kp) (f:=f) (k:=k) h),small,ins,del⟩
end Go.Proofs.YtpfadfkomcbecaaGreat
