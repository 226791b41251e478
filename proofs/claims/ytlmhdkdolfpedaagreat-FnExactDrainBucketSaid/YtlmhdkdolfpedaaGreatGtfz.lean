/- Of this proof. -/
import Derived.Test.YtlmhdkdolfpedaaGreatGtfb
import Derived.Test.YtlmhdkdolfpedaaGreatGtfc
import Derived.Test.YtlmhdkdolfpedaaGreatGtfd
import Derived.KernelRfl
set_option linter.all false
namespace Go.Proofs.YtlmhdkdolfpedaaGreat
open Go Go.RowKit Gi
set_option maxHeartbeats 8000000
def adn :∀{n:Nat}{l:List (Nat×Nat)},(∀c,c<n->Al KC ((l.drop (c*16)).take 16))->l.length<=n*16->∀p∈l,KC p:=by intro n l h hl p hp;obtain⟨i,hi,rfl⟩:=List.getElem_of_mem hp;refine WZ (h (i/16) (by omega)) _ (List.mem_iff_getElem?.2 ⟨i%16,?_⟩);rw[List.getElem?_take,if_pos (Nat.mod_lt _ (by decide)),List.getElem?_drop,show i/16*16+i%16=i by omega];simp[hi]
set_option maxRecDepth 100000 in
def aex :∀p∈kp,KC p:=adn (n:=25) (fun c hc=>match c,hc with
 |0,_=>gc0
 |1,_=>gc1
 |2,_=>gc2
 |3,_=>gc3
 |4,_=>gc4
 |5,_=>gc5
 |6,_=>gc6
 |7,_=>gc7
 |8,_=>gc8
 |9,_=>gc9
 |10,_=>ae9
 |11,_=>afa
 |12,_=>afb
 |13,_=>afc
 |14,_=>afd
 |15,_=>afe
 |16,_=>aff
 |17,_=>afg
 |18,_=>afh
 |19,_=>afi
 |20,_=>afj
 |21,_=>afk
 |22,_=>afl
 |23,_=>afm
 |24,_=>afn
 |c+25,hc=>by omega) (by decide)
def mixed :Tryz.prog.follows .mixedOrders=true:=by kernel_rfl
def acg :kp.all (fun p=>match Tryz.prog.funcs[p.1]? with|some fn=> !(fn.origin== "slices.Insert")||p.1==254||p.1==360||p.1==361|none=>true)=true:=by kernel_rfl
def ins :∀f k fn t e z b,Gi.kf f=some k->Tryz.prog.funcs[f]? =some fn->fn.origin= "slices.Insert" ->fn.params.toList.head? =some t->lJ Tryz.prog t=some e->vJ Tryz.prog e=some z->SH Tryz.prog e=some b->Cq Tryz.prog f z b:=by
 intro f k fn t e z b hk a1 a5 a2 he hz hb;have h1:=List.all_eq_true.1 acg (f,k) (Jz (l:=kp) (f:=f) (k:=k) hk);simp only[a1,a5,beq_self_eq_true,Bool.not_true,Bool.false_or,Bool.or_eq_true,beq_iff_eq]at h1;rcases h1 with(rfl|rfl)|rfl;rw[Tryz.func254]at a1;cases a1;obtain rfl:123=t:=by simpa using a2
 rw[show lJ Tryz.prog 123=some 223 by kernel_rfl]at he;cases he;rw[show vJ Tryz.prog 223=some 2 by kernel_rfl]at hz;rw[show SH Tryz.prog 223=some 16 by kernel_rfl]at hb;cases hz;cases hb;exact S7;rw[Tryz.func360]at a1;cases a1;obtain rfl:280=t:=by simpa using a2
 rw[show lJ Tryz.prog 280=some 344 by kernel_rfl]at he;cases he;rw[show vJ Tryz.prog 344=some 2 by kernel_rfl]at hz;rw[show SH Tryz.prog 344=some 24 by kernel_rfl]at hb;cases hz;cases hb;exact aaS;rw[Tryz.func361]at a1;cases a1;obtain rfl:120=t:=by simpa using a2
 rw[show lJ Tryz.prog 120=some 284 by kernel_rfl]at he;cases he;rw[show vJ Tryz.prog 284=some 4 by kernel_rfl]at hz;rw[show SH Tryz.prog 284=some 56 by kernel_rfl]at hb;cases hz;cases hb;exact acf
set_option maxRecDepth 100000 in
def adW :kp.all (fun p=>Nat.blt p.2 iP&&(Ph (p.2+iP)).isNone&&(Ph (p.2+2*iP)).isNone)=true:=by kernel_rfl
def small :∀f k,Gi.kf f=some k->k<iP/\ Ph (k+iP)=none/\ Ph (k+2*iP)=none:=by intro f k h;have h1:=List.all_eq_true.1 adW (f,k) (Jz (l:=kp) (f:=f) (k:=k) h);simp only[Bool.and_eq_true,Option.isNone_iff_eq_none]at h1;exact⟨by simpa using h1.1.1,h1.1.2,h1.2⟩
def ab0 :kp.all (fun p=>match Tryz.prog.funcs[p.1]? with|some fn=> !(fn.origin== "slices.DeleteFunc")||p.1==255|none=>true)=true:=by kernel_rfl
def del :∀f k fn t e z,Gi.kf f=some k->Tryz.prog.funcs[f]? =some fn->fn.origin= "slices.DeleteFunc" ->fn.params.toList.head? =some t->lJ Tryz.prog t=some e->vJ Tryz.prog e=some z->abU Gm Tryz.prog f z:=by
 intro f k fn t e z hk a1 a5 a2 he hz;have h1:=List.all_eq_true.1 ab0 (f,k) (Jz (l:=kp) (f:=f) (k:=k) hk);simp only[a1,a5,beq_self_eq_true,Bool.not_true,Bool.false_or,Bool.or_eq_true,beq_iff_eq]at h1;obtain rfl:=h1;rw[Tryz.func255]at a1;cases a1;obtain rfl:124=t:=by simpa using a2
 rw[show lJ Tryz.prog 124=some 228 by kernel_rfl]at he;cases he;rw[show vJ Tryz.prog 228=some 7 by kernel_rfl]at hz;cases hz;exact ab1 aau
def afo :QI Gm Tryz.prog Gi.kf Ph cL:=⟨rfl,mixed,fun f k h=>aex (f,k) (Jz (l:=kp) (f:=f) (k:=k) h),small,ins,del⟩
end Go.Proofs.YtlmhdkdolfpedaaGreat
