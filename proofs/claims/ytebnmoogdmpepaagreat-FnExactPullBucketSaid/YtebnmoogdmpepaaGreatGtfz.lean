/- Of this proof. -/
import Derived.Test.YtebnmoogdmpepaaGreatGtfb
import Derived.Test.YtebnmoogdmpepaaGreatGtfc
import Derived.Test.YtebnmoogdmpepaaGreatGtfd
import Derived.KernelRfl
set_option linter.unusedSimpArgs false
set_option linter.unusedVariables false
namespace Go.Proofs.YtebnmoogdmpepaaGreat
open Go Go.RowKit Gi
set_option maxHeartbeats 8000000
theorem Up :∀{n:Nat}{l:List (Nat×Nat)},(∀c,c<n→Al Iy ((l.drop (c*16)).take 16))→l.length≤n*16→∀p∈l,Iy p:=by
 intro n l h hl p hp
 obtain⟨i,hi,rfl⟩:=List.getElem_of_mem hp
 refine Rj (h (i/16) (by omega)) _ (List.mem_iff_getElem?.2 ⟨i%16,?_⟩)
 rw[List.getElem?_take,if_pos (Nat.mod_lt _ (by decide)),List.getElem?_drop,show i/16*16+i%16=i by omega]
 simp[hi]
set_option maxRecDepth 100000 in
theorem Vf :∀p∈kp,Iy p:=Up (n:=24) (fun c hc=>match c,hc with
 |0,_=>Wa
 |1,_=>Wb
 |2,_=>Wc
 |3,_=>Wd
 |4,_=>We
 |5,_=>Wf
 |6,_=>Wg
 |7,_=>Wh
 |8,_=>Wi
 |9,_=>Wj
 |10,_=>VF
 |11,_=>VG
 |12,_=>VH
 |13,_=>VI
 |14,_=>VJ
 |15,_=>VK
 |16,_=>VL
 |17,_=>VM
 |18,_=>VN
 |19,_=>VO
 |20,_=>VP
 |21,_=>VQ
 |22,_=>VS
 |23,_=>VT
 |c+24,hc=>by omega) (by decide)
theorem mixed :Tryz.prog.follows .mixedOrders=true:=by kernel_rfl
theorem Tx :kp.all (fun p=>match Tryz.prog.funcs[p.1]? with|some fn=> !(fn.origin== "slices.Insert")||p.1==347||p.1==348|none=>true)=true:=by kernel_rfl
theorem ins :∀f k fn t e z b,Gi.kf f=some k→Tryz.prog.funcs[f]? =some fn→fn.origin= "slices.Insert" →fn.params.toList.head? =some t→jm Tryz.prog t=some e→rB Tryz.prog e=some z→Oo Tryz.prog e=some b→DX Tryz.prog f z b:=by
 intro f k fn t e z b hk hfn horg hpar he hz hb
 have h1:=List.all_eq_true.1 Tx (f,k) (FH (l:=kp) (f:=f) (k:=k) hk)
 simp only[hfn,horg,beq_self_eq_true,Bool.not_true,Bool.false_or,Bool.or_eq_true,beq_iff_eq]at h1
 rcases h1 with rfl|rfl
 ·rw[Tryz.func347]at hfn
  cases hfn
  obtain rfl:297=t:=by simpa using hpar
  rw[show jm Tryz.prog 297=some 361 by kernel_rfl]at he
  cases he
  rw[show rB Tryz.prog 361=some 2 by kernel_rfl]at hz
  rw[show Oo Tryz.prog 361=some 24 by kernel_rfl]at hb
  cases hz
  cases hb
  exact Sa
 ·rw[Tryz.func348]at hfn
  cases hfn
  obtain rfl:82=t:=by simpa using hpar
  rw[show jm Tryz.prog 82=some 301 by kernel_rfl]at he
  cases he
  rw[show rB Tryz.prog 301=some 4 by kernel_rfl]at hz
  rw[show Oo Tryz.prog 301=some 56 by kernel_rfl]at hb
  cases hz
  cases hb
  exact Tw
set_option maxRecDepth 100000 in
theorem UL :kp.all (fun p=>Nat.blt p.2 jX&&(Ph (p.2+jX)).isNone&&(Ph (p.2+2*jX)).isNone)=true:=by kernel_rfl
theorem small :∀f k,Gi.kf f=some k→k<jX∧Ph (k+jX)=none∧Ph (k+2*jX)=none:=by
 intro f k h
 have h1:=List.all_eq_true.1 UL (f,k) (FH (l:=kp) (f:=f) (k:=k) h)
 simp only[Bool.and_eq_true,Option.isNone_iff_eq_none]at h1
 exact⟨by simpa using h1.1.1,h1.1.2,h1.2⟩
theorem Tj :kp.all (fun p=>match Tryz.prog.funcs[p.1]? with|some fn=> !(fn.origin== "slices.DeleteFunc")||p.1==231|none=>true)=true:=by kernel_rfl
theorem del :∀f k fn t e z,Gi.kf f=some k→Tryz.prog.funcs[f]? =some fn→fn.origin= "slices.DeleteFunc" →fn.params.toList.head? =some t→jm Tryz.prog t=some e→rB Tryz.prog e=some z→Tb Gm Tryz.prog f z:=by
 intro f k fn t e z hk hfn horg hpar he hz
 have h1:=List.all_eq_true.1 Tj (f,k) (FH (l:=kp) (f:=f) (k:=k) hk)
 simp only[hfn,horg,beq_self_eq_true,Bool.not_true,Bool.false_or,Bool.or_eq_true,beq_iff_eq]at h1
 obtain rfl:=h1
 ·rw[Tryz.func231]at hfn
  cases hfn
  obtain rfl:85=t:=by simpa using hpar
  rw[show jm Tryz.prog 85=some 252 by kernel_rfl]at he
  cases he
  rw[show rB Tryz.prog 252=some 7 by kernel_rfl]at hz
  cases hz
  exact Tk RI
theorem VU :Impl Gm Tryz.prog Gi.kf Ph aM:=⟨rfl,mixed,fun f k h=>Vf (f,k) (FH (l:=kp) (f:=f) (k:=k) h),small,ins,del⟩
end Go.Proofs.YtebnmoogdmpepaaGreat
