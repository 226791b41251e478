/- Of this proof. -/
import Derived.Test.YtpnolnkjijmfjaaGreatGtfb
import Derived.Test.YtpnolnkjijmfjaaGreatGtfc
import Derived.Test.YtpnolnkjijmfjaaGreatGtfd
import Derived.KernelRfl
set_option linter.all false
namespace Go.Proofs.YtpnolnkjijmfjaaGreat
open Go Go.RowKit Gi
set_option maxHeartbeats 8000000
def adY :∀{n:Nat}{l:List (Nat×Nat)},(∀c,c<n->Al K6 ((l.drop (c*16)).take 16))->l.length<=n*16->∀p∈l,K6 p:=by intro n l h hl p hp;obtain⟨i,hi,rfl⟩:=List.getElem_of_mem hp;refine aax (h (i/16) (by omega)) _ (List.mem_iff_getElem?.2 ⟨i%16,?_⟩);rw[List.getElem?_take,if_pos (Nat.mod_lt _ (by decide)),List.getElem?_drop,show i/16*16+i%16=i by omega];simp[hi]
set_option maxRecDepth 100000 in
def ae8 :∀p∈kp,K6 p:=adY (n:=25) (fun c hc=>match c,hc with
 |0,_=>gc0
 |1,_=>gc1
 |2,_=>gc2
 |3,_=>gc3
 |4,_=>gc4
 |5,_=>gc5
 |6,_=>gc6
 |7,_=>gc7
 |8,_=>gc8
 |9,_=>gc9
 |10,_=>afL
 |11,_=>afM
 |12,_=>afN
 |13,_=>afO
 |14,_=>afP
 |15,_=>afQ
 |16,_=>afR
 |17,_=>afS
 |18,_=>afT
 |19,_=>afU
 |20,_=>afV
 |21,_=>afW
 |22,_=>afX
 |23,_=>afY
 |24,_=>afZ
 |c+25,hc=>by omega) (by decide)
def mixed :Tryz.prog.follows .mixedOrders=true:=by kernel_rfl
def acO :kp.all (fun p=>match Tryz.prog.funcs[p.1]? with|some fn=> !(fn.origin== "slices.Insert")||p.1==291||p.1==345||p.1==346|none=>true)=true:=by kernel_rfl
def ins :∀f k fn t e z b,Gi.kf f=some k->Tryz.prog.funcs[f]? =some fn->fn.origin= "slices.Insert" ->fn.params.toList.head? =some t->lR Tryz.prog t=some e->vX Tryz.prog e=some z->S9 Tryz.prog e=some b->CN Tryz.prog f z b:=by
 intro f k fn t e z b hk a1 a5 a2 he hz hb;have h1:=List.all_eq_true.1 acO (f,k) (JV (l:=kp) (f:=f) (k:=k) hk);simp only[a1,a5,beq_self_eq_true,Bool.not_true,Bool.false_or,Bool.or_eq_true,beq_iff_eq]at h1;rcases h1 with(rfl|rfl)|rfl;rw[Tryz.func291]at a1;cases a1;obtain rfl:137=t:=by simpa using a2
 rw[show lR Tryz.prog 137=some 270 by kernel_rfl]at he;cases he;rw[show vX Tryz.prog 270=some 2 by kernel_rfl]at hz;rw[show S9 Tryz.prog 270=some 16 by kernel_rfl]at hb;cases hz;cases hb;exact Tw;rw[Tryz.func345]at a1;cases a1;obtain rfl:263=t:=by simpa using a2
 rw[show lR Tryz.prog 263=some 333 by kernel_rfl]at he;cases he;rw[show vX Tryz.prog 333=some 2 by kernel_rfl]at hz;rw[show S9 Tryz.prog 333=some 24 by kernel_rfl]at hb;cases hz;cases hb;exact abm;rw[Tryz.func346]at a1;cases a1;obtain rfl:76=t:=by simpa using a2
 rw[show lR Tryz.prog 76=some 267 by kernel_rfl]at he;cases he;rw[show vX Tryz.prog 267=some 4 by kernel_rfl]at hz;rw[show S9 Tryz.prog 267=some 56 by kernel_rfl]at hb;cases hz;cases hb;exact acN
set_option maxRecDepth 100000 in
def aez :kp.all (fun p=>Nat.blt p.2 iT&&(Ph (p.2+iT)).isNone&&(Ph (p.2+2*iT)).isNone)=true:=by kernel_rfl
def small :∀f k,Gi.kf f=some k->k<iT/\ Ph (k+iT)=none/\ Ph (k+2*iT)=none:=by intro f k h;have h1:=List.all_eq_true.1 aez (f,k) (JV (l:=kp) (f:=f) (k:=k) h);simp only[Bool.and_eq_true,Option.isNone_iff_eq_none]at h1;exact⟨by simpa using h1.1.1,h1.1.2,h1.2⟩
def acy :kp.all (fun p=>match Tryz.prog.funcs[p.1]? with|some fn=> !(fn.origin== "slices.DeleteFunc")||p.1==235|none=>true)=true:=by kernel_rfl
def del :∀f k fn t e z,Gi.kf f=some k->Tryz.prog.funcs[f]? =some fn->fn.origin= "slices.DeleteFunc" ->fn.params.toList.head? =some t->lR Tryz.prog t=some e->vX Tryz.prog e=some z->acp Gm Tryz.prog f z:=by
 intro f k fn t e z hk a1 a5 a2 he hz;have h1:=List.all_eq_true.1 acy (f,k) (JV (l:=kp) (f:=f) (k:=k) hk);simp only[a1,a5,beq_self_eq_true,Bool.not_true,Bool.false_or,Bool.or_eq_true,beq_iff_eq]at h1;obtain rfl:=h1;rw[Tryz.func235]at a1;cases a1;obtain rfl:79=t:=by simpa using a2
 rw[show lR Tryz.prog 79=some 272 by kernel_rfl]at he;cases he;rw[show vX Tryz.prog 272=some 7 by kernel_rfl]at hz;cases hz;exact acz aaY
def af0 :QI Gm Tryz.prog Gi.kf Ph cK:=⟨rfl,mixed,fun f k h=>ae8 (f,k) (JV (l:=kp) (f:=f) (k:=k) h),small,ins,del⟩
end Go.Proofs.YtpnolnkjijmfjaaGreat
