/- A part. -/
import Derived.Test.YtndiampmpmbfoaaGreatGtfb
import Derived.Test.YtndiampmpmbfoaaGreatGtfc
import Derived.Test.YtndiampmpmbfoaaGreatGtfd
import Derived.KernelRfl
set_option linter.all false
namespace Go.Proofs.YtndiampmpmbfoaaGreat
open Go Go.RowKit Gi
set_option maxHeartbeats 8000000
def V0 :∀{n:Nat}{l:List (Nat×Nat)},(∀c,c<n->Al HL ((l.drop (c*16)).take 16))->l.length<=n*16->∀p∈l,HL p:=by
 intro n l h hl p hp
 obtain⟨i,hi,rfl⟩:=List.getElem_of_mem hp
 refine SK (h (i/16) (by omega)) _ (List.mem_iff_getElem?.2 ⟨i%16,?_⟩)
 rw[List.getElem?_take,if_pos (Nat.mod_lt _ (by decide)),List.getElem?_drop,show i/16*16+i%16=i by omega]
 simp[hi]
set_option maxRecDepth 100000 in
def Xf :∀p∈kp,HL p:=V0 (n:=24) (fun c hc=>match c,hc with
 |0,_=>Yn
 |1,_=>Yo
 |2,_=>Yp
 |3,_=>Yq
 |4,_=>Yr
 |5,_=>Ys
 |6,_=>Yt
 |7,_=>Yu
 |8,_=>Yv
 |9,_=>Yw
 |10,_=>XP
 |11,_=>XQ
 |12,_=>XR
 |13,_=>XS
 |14,_=>XT
 |15,_=>XU
 |16,_=>XV
 |17,_=>XW
 |18,_=>XX
 |19,_=>XY
 |20,_=>XZ
 |21,_=>X0
 |22,_=>X1
 |23,_=>X2
 |c+24,hc=>by omega) (by decide)
def mixed :Tryz.prog.follows .mixedOrders=true:=by kernel_rfl
def UY :kp.all (fun p=>match Tryz.prog.funcs[p.1]? with|some fn=> !(fn.origin== "slices.Insert")||p.1==192||p.1==329||p.1==330|none=>true)=true:=by kernel_rfl
def ins :∀f k fn t e z b,Gi.kf f=some k->Tryz.prog.funcs[f]? =some fn->fn.origin= "slices.Insert" ->fn.params.toList.head? =some t->jh Tryz.prog t=some e->rS Tryz.prog e=some z->Oh Tryz.prog e=some b->zf Tryz.prog f z b:=by
 intro f k fn t e z b hk a1 a5 a2 he hz hb
 have h1:=List.all_eq_true.1 UY (f,k) (GJ (l:=kp) (f:=f) (k:=k) hk)
 simp only[a1,a5,beq_self_eq_true,Bool.not_true,Bool.false_or,Bool.or_eq_true,beq_iff_eq]at h1
 rcases h1 with (rfl|rfl)|rfl
 ·rw[Tryz.func192]at a1
  cases a1
  obtain rfl:78=t:=by simpa using a2
  rw[show jh Tryz.prog 78=some 241 by kernel_rfl]at he
  cases he
  rw[show rS Tryz.prog 241=some 2 by kernel_rfl]at hz
  rw[show Oh Tryz.prog 241=some 16 by kernel_rfl]at hb
  cases hz
  cases hb
  exact OH
 ·rw[Tryz.func329]at a1
  cases a1
  obtain rfl:268=t:=by simpa using a2
  rw[show jh Tryz.prog 268=some 356 by kernel_rfl]at he
  cases he
  rw[show rS Tryz.prog 356=some 2 by kernel_rfl]at hz
  rw[show Oh Tryz.prog 356=some 24 by kernel_rfl]at hb
  cases hz
  cases hb
  exact TG
 ·rw[Tryz.func330]at a1
  cases a1
  obtain rfl:75=t:=by simpa using a2
  rw[show jh Tryz.prog 75=some 272 by kernel_rfl]at he
  cases he
  rw[show rS Tryz.prog 272=some 4 by kernel_rfl]at hz
  rw[show Oh Tryz.prog 272=some 56 by kernel_rfl]at hb
  cases hz
  cases hb
  exact UX
set_option maxRecDepth 100000 in
def Wx :kp.all (fun p=>Nat.blt p.2 fH&&(Ph (p.2+fH)).isNone&&(Ph (p.2+2*fH)).isNone)=true:=by kernel_rfl
def small :∀f k,Gi.kf f=some k->k<fH/\ Ph (k+fH)=none/\ Ph (k+2*fH)=none:=by
 intro f k h
 have h1:=List.all_eq_true.1 Wx (f,k) (GJ (l:=kp) (f:=f) (k:=k) h)
 simp only[Bool.and_eq_true,Option.isNone_iff_eq_none]at h1
 exact⟨by simpa using h1.1.1,h1.1.2,h1.2⟩
def UJ :kp.all (fun p=>match Tryz.prog.funcs[p.1]? with|some fn=> !(fn.origin== "slices.DeleteFunc")||p.1==193|none=>true)=true:=by kernel_rfl
def del :∀f k fn t e z,Gi.kf f=some k->Tryz.prog.funcs[f]? =some fn->fn.origin= "slices.DeleteFunc" ->fn.params.toList.head? =some t->jh Tryz.prog t=some e->rS Tryz.prog e=some z->UC Gm Tryz.prog f z:=by
 intro f k fn t e z hk a1 a5 a2 he hz
 have h1:=List.all_eq_true.1 UJ (f,k) (GJ (l:=kp) (f:=f) (k:=k) hk)
 simp only[a1,a5,beq_self_eq_true,Bool.not_true,Bool.false_or,Bool.or_eq_true,beq_iff_eq]at h1
 obtain rfl:=h1
 ·rw[Tryz.func193]at a1
  cases a1
  obtain rfl:70=t:=by simpa using a2
  rw[show jh Tryz.prog 70=some 168 by kernel_rfl]at he
  cases he
  rw[show rS Tryz.prog 168=some 7 by kernel_rfl]at hz
  cases hz
  exact UK Tf
def X3 :ZE Gm Tryz.prog Gi.kf Ph aC:=⟨rfl,mixed,fun f k h=>Xf (f,k) (GJ (l:=kp) (f:=f) (k:=k) h),small,ins,del⟩
end Go.Proofs.YtndiampmpmbfoaaGreat
