/- Of this proof. -/
import Derived.Test.YtebnmoogdmpepaaGreatGtfb
import Derived.Test.YtebnmoogdmpepaaGreatGtfc
import Derived.Test.YtebnmoogdmpepaaGreatGtfd
import Derived.KernelRfl
set_option linter.unusedSimpArgs false
set_option linter.unusedVariables false
namespace Go.Proofs.YtebnmoogdmpepaaGreat
open Go Go.RowKit Gi
set_option maxHeartbeats 8000000
theorem TQ :∀{n:Nat}{l:List (Nat×Nat)},(∀c,c<n→Al JZ ((l.drop (c*16)).take 16))→l.length≤n*16→∀p∈l,JZ p:=by
 intro n l h hl p hp
 obtain⟨i,hi,rfl⟩:=List.getElem_of_mem hp
 refine QG (h (i/16) (by omega)) _ (List.mem_iff_getElem?.2 ⟨i%16,?_⟩)
 rw[List.getElem?_take,if_pos (Nat.mod_lt _ (by decide)),List.getElem?_drop,show i/16*16+i%16=i by omega]
 simp[hi]
set_option maxRecDepth 100000 in
theorem UL :∀p∈kp,JZ p:=TQ (n:=24) (fun c hc=>match c,hc with
 |0,_=>VF
 |1,_=>VG
 |2,_=>VH
 |3,_=>VI
 |4,_=>VJ
 |5,_=>VK
 |6,_=>VL
 |7,_=>VM
 |8,_=>VN
 |9,_=>VO
 |10,_=>U8
 |11,_=>U9
 |12,_=>Va
 |13,_=>Vb
 |14,_=>Vc
 |15,_=>Vd
 |16,_=>Ve
 |17,_=>Vf
 |18,_=>Vg
 |19,_=>Vh
 |20,_=>Vi
 |21,_=>Vj
 |22,_=>Vk
 |23,_=>Vl
 |c+24,hc=>by omega) (by decide)
theorem mixed :Tryz.prog.follows .mixedOrders=true:=by kernel_rfl
theorem SY :kp.all (fun p=>match Tryz.prog.funcs[p.1]? with|some fn=> !(fn.origin== "slices.Insert")||p.1==348|none=>true)=true:=by kernel_rfl
theorem ins :∀f k fn t e z b,Gi.kf f=some k→Tryz.prog.funcs[f]? =some fn→fn.origin= "slices.Insert" →fn.params.toList.head? =some t→gJ Tryz.prog t=some e→o7 Tryz.prog e=some z→NQ Tryz.prog e=some b→Ht Tryz.prog f z b:=by
 intro f k fn t e z b hk hfn horg hpar he hz hb
 have h1:=List.all_eq_true.1 SY (f,k) (Be (l:=kp) (f:=f) (k:=k) hk)
 simp only[hfn,horg,beq_self_eq_true,Bool.not_true,Bool.false_or,Bool.or_eq_true,beq_iff_eq]at h1
 obtain rfl:=h1
 ·rw[Tryz.func348]at hfn
  cases hfn
  obtain rfl:82=t:=by simpa using hpar
  rw[show gJ Tryz.prog 82=some 301 by kernel_rfl]at he
  cases he
  rw[show o7 Tryz.prog 301=some 4 by kernel_rfl]at hz
  rw[show NQ Tryz.prog 301=some 56 by kernel_rfl]at hb
  cases hz
  cases hb
  exact SW
set_option maxRecDepth 100000 in
theorem Ug :kp.all (fun p=>Nat.blt p.2 hZ&&(Ph (p.2+hZ)).isNone&&(Ph (p.2+2*hZ)).isNone)=true:=by kernel_rfl
theorem small :∀f k,Gi.kf f=some k→k<hZ∧Ph (k+hZ)=none∧Ph (k+2*hZ)=none:=by
 intro f k h
 have h1:=List.all_eq_true.1 Ug (f,k) (Be (l:=kp) (f:=f) (k:=k) h)
 simp only[Bool.and_eq_true,Option.isNone_iff_eq_none]at h1
 exact⟨by simpa using h1.1.1,h1.1.2,h1.2⟩
theorem SB :kp.all (fun p=>match Tryz.prog.funcs[p.1]? with|some fn=> !(fn.origin== "slices.DeleteFunc")|none=>true)=true:=by kernel_rfl
theorem del :∀f k fn t e z,Gi.kf f=some k→Tryz.prog.funcs[f]? =some fn→fn.origin= "slices.DeleteFunc" →fn.params.toList.head? =some t→gJ Tryz.prog t=some e→o7 Tryz.prog e=some z→TO Gm Tryz.prog f z:=by
 intro f k fn t e z hk hfn horg hpar he hz
 have h1:=List.all_eq_true.1 SB (f,k) (Be (l:=kp) (f:=f) (k:=k) hk)
 simp only[hfn,horg,beq_self_eq_true,Bool.not_true,Bool.false_or,Bool.or_eq_true,beq_iff_eq]at h1
 cases h1
theorem SD :kp.all (fun p=>match Tryz.prog.funcs[p.1]? with|some fn=> !(fn.origin== "slices.Delete")||p.1==111|none=>true)=true:=by kernel_rfl
theorem dlr :∀f k fn t e z,Gi.kf f=some k→Tryz.prog.funcs[f]? =some fn→fn.origin= "slices.Delete" →fn.params.toList.head? =some t→gJ Tryz.prog t=some e→o7 Tryz.prog e=some z→QI Tryz.prog f z:=by
 intro f k fn t e z hk hfn horg hpar he hz
 have h1:=List.all_eq_true.1 SD (f,k) (Be (l:=kp) (f:=f) (k:=k) hk)
 simp only[hfn,horg,beq_self_eq_true,Bool.not_true,Bool.false_or,Bool.or_eq_true,beq_iff_eq]at h1
 obtain rfl:=h1
 ·rw[Tryz.func111]at hfn
  cases hfn
  obtain rfl:73=t:=by simpa using hpar
  rw[show gJ Tryz.prog 73=some 185 by kernel_rfl]at he
  cases he
  rw[show o7 Tryz.prog 185=some 2 by kernel_rfl]at hz
  cases hz
  exact Ra
theorem Vm :Impl Gm Tryz.prog Gi.kf Ph au:=⟨rfl,mixed,fun f k h=>UL (f,k) (Be (l:=kp) (f:=f) (k:=k) h),small,ins,del,dlr⟩
end Go.Proofs.YtebnmoogdmpepaaGreat
