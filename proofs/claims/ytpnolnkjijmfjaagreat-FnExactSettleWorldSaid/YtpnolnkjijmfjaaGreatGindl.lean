/- Of this proof. -/
import Derived.Test.YtpnolnkjijmfjaaGreatProg
import Derived.Test.YtpnolnkjijmfjaaGreatGkc
import Derived.Shelf.Abstract
import Derived.WalkKit
import Derived.IntWalk
import Derived.Deep.LoopGhost
set_option linter.all false
namespace Go.Proofs.YtpnolnkjijmfjaaGreat
open Go Go.RowKit Gi
def aa6 {cur:Array Value}{j:Nat}(h:j*7+7<=cur.size):cur.extract (j*7) (j*7+7)= #[cur[j*7]!,cur[j*7+1]!,cur[j*7+2]!,cur[j*7+3]!,cur[j*7+4]!,cur[j*7+5]!,cur[j*7+6]!]:=by
 apply Array.ext;simp;omega;intro i h1 h2;have hi:i<7:=by simpa using h2
 rw[Array.getElem_extract];match i,hi with
 |0,_=>simp[getElem!_pos cur (j*7) (by omega)]
 |1,_=>simp[getElem!_pos cur (j*7+1) (by omega)]
 |2,_=>simp[getElem!_pos cur (j*7+2) (by omega)]
 |3,_=>simp[getElem!_pos cur (j*7+3) (by omega)]
 |4,_=>simp[getElem!_pos cur (j*7+4) (by omega)]
 |5,_=>simp[getElem!_pos cur (j*7+5) (by omega)]
 |6,_=>simp[getElem!_pos cur (j*7+6) (by omega)]
set_option maxHeartbeats 4000000 in
set_option maxRecDepth 100000 in
def Rr (fc:FuncId)(cs:Array Value)(p:Nat->Bool)(ent:∀args w,(callFunc fc args).run Tryz.prog w= .ok (.enter fc args) w)(ad:Option Addr)(b n cap:Nat)(had:0<n->ad=some ⟨b,0,none⟩)(h63:n<=9223372036854775807)(w:World)(c:Nat->Nat->Value)
 (hrow:∀j,j<n->w.cell? ⟨b,j*7,none⟩=some (c j 0)/\ w.cell? ⟨b,j*7+1,none⟩=some (c j 1)/\ w.cell? ⟨b,j*7+2,none⟩=some (c j 2)/\ w.cell? ⟨b,j*7+3,none⟩=some (c j 3)/\ w.cell? ⟨b,j*7+4,none⟩=some (c j 4)/\ w.cell? ⟨b,j*7+5,none⟩=some (c j 5)/\ w.cell? ⟨b,j*7+6,none⟩=some (c j 6))
 (hcl:∀j,j<n->∀W,Below w.heap.size w W->Calls Tryz.prog fc (#[.agg #[c j 0,c j 1,c j 2,c j 3,c j 4,c j 5,c j 6]]++cs) W fun e W'=>e= .returned (.bool (p j))/\ Below W.heap.size W W'):
 Calls Tryz.prog 295 #[.slice ad n cap, .func (.func fc) #[] cs] w fun e w'=>Below w.heap.size w w'/\ ((e= .returned (.int .i64 (-1))/\ ∀j,j<n->p j=false) \/∃k:Nat,k<n/\ e= .returned (.int .i64 k)/\ p k=true/\ ∀j,j<k->p j=false):=by
 have HC:Aside _:=hcl;have HR:Aside _:=hrow;have HA:Aside (0<n->ad=some ⟨b,0,none⟩):=had;clear hcl hrow had;have mixed:Tryz.prog.follows .mixedOrders=true:=by kernel_rfl
 go_enter Tryz.func295,Tryz.ntmps295;go_wp2;go_loopg [8] n (fun gg s8 wr=>∃k:Nat,k+gg=n/\ s8= .int .i64 k/\ Aside (Below w.heap.size w wr)/\ Aside (∀j,j<k->p j=false));case atStart=>exact⟨0,by omega,rfl,Below.refl _ _,fun j hj=>absurd hj (Nat.not_lt_zero _)⟩
 case round=>
  obtain⟨k,hkg,rfl,HB,HN⟩:=hrel
  cases gk with
  |zero=>
   have hkz:¬((k:Int)<(n:Int)):=by omega
   go_wp2
   go_ret
   exact⟨HB.out, .inl ⟨rfl,fun j hj=>HN.out j (by omega)⟩⟩
  |succ g=>
   have hkn:k<n:=by omega
   have hkz:(k:Int)<(n:Int):=by omega
   obtain rfl:=HA.out (by omega)
   obtain⟨q0,q1,q2,q3,q4,q5,q6⟩:=HR.out k hkn
   replace q0:=iM q0 HB.out
   replace q1:=iM q1 HB.out
   replace q2:=iM q2 HB.out
   replace q3:=iM q3 HB.out
   replace q4:=iM q4 HB.out
   replace q5:=iM q5 HB.out
   replace q6:=iM q6 HB.out
   have hcall:=HC.out k hkn _ HB.out
   cases hq:p k with
   |true=>
    rw[hq]at hcall
    go_wp2
    refine hcall.mono ?_
    rintro e w' ⟨rfl,hb⟩
    dsimp only
    go_wp2
    go_ret
    exact⟨vZ HB.out hb, .inr ⟨k,hkn,rfl,hq,HN.out⟩⟩
   |false=>
    rw[hq]at hcall
    go_wp2
    refine hcall.mono ?_
    rintro e w' ⟨rfl,hb⟩
    dsimp only
    go_wp2
    go_roundg g
    case measure=>omega
    case rel=>
     refine⟨k+1,by omega,by go_num,vZ HB.out hb,fun j hj=> ?_⟩
     by_cases q:j=k
     ·rw[q];exact hq
     ·exact HN.out j (by omega)
set_option maxHeartbeats 4000000 in
set_option maxRecDepth 100000 in
def aaY :aeS Tryz.prog 235 7:=by
 intro w fc cs p ent;have mixed:Tryz.prog.follows .mixedOrders=true:=by kernel_rfl
 have eI:∀args w,(callFunc 295 args).run Tryz.prog w= .ok (.enter 295 args) w:=Go.Proofs.enters_of Tryz.func295 (by kernel_rfl) rfl;refine⟨fun ad=> ?_,fun b n cap cur hrow hsz hn hcap h1 hcl=> ?_⟩
 ·have hI:=Rr fc cs p ent ad 0 0 0 (fun h=>absurd h (by decide)) (by decide) w (fun _ _=> .bool false) (fun j hj=>absurd hj (Nat.not_lt_zero _)) (fun j hj=>absurd hj (Nat.not_lt_zero _));clear ent;go_enter Tryz.func235,Tryz.ntmps235;go_wp2_with (go_at_fn 295;refine hI.mono ?_;rintro e w' ⟨hb,⟨rfl,_⟩|⟨k,hk,_⟩⟩);all_goals first
   |(go_ret;exact⟨rfl,hb⟩)
   |exact absurd hk (Nat.not_lt_zero _)
 ·have hn63:n<=9223372036854775807:=by unfold maxLen at hcap;omega
  have hat:∀j,j<n->∀q,q<7->cur[j*7+q]? =some (cur[j*7+q]!):=fun j hj q hq=>by rw[Array.getElem?_eq_getElem (by omega),getElem!_pos cur (j*7+q) (by omega)]
  have HC:Aside (∀j,j<n->∀W,QF w W b->Calls Tryz.prog fc (#[.agg #[cur[j*7]!,cur[j*7+1]!,cur[j*7+2]!,cur[j*7+3]!,cur[j*7+4]!,cur[j*7+5]!,cur[j*7+6]!]]++cs) W fun e W'=>e= .returned (.bool (p j))/\ Below W.heap.size W W'):=fun j hj W hW=>by have:=hcl j hj W hW;rwa[aa6 (by omega)]at this
  have hI:=Rr fc cs p ent (some ⟨b,0,none⟩) b n cap (fun _=>rfl) hn63 w (fun j q=>cur[j*7+q]!)
   (fun j hj=>⟨(hrow.cell _).trans (hat j hj 0 (by decide)),(hrow.cell _).trans (hat j hj 1 (by decide)),(hrow.cell _).trans (hat j hj 2 (by decide)),(hrow.cell _).trans (hat j hj 3 (by decide)),(hrow.cell _).trans (hat j hj 4 (by decide)),(hrow.cell _).trans (hat j hj 5 (by decide)),(hrow.cell _).trans (hat j hj 6 (by decide))⟩) (fun j hj W hW=>HC.out j hj W (Below.cg hW))
  have HT:Aside (∀j,j<n->∀q,q<7->cur[j*7+q]? =some (cur[j*7+q]!)):=hat;have HR:Aside (jb w b cur):=hrow;have H1:Aside (∀(u:Nat)v,u<n*7->cur[u]? =some v->v.oneCell'=true):=h1;clear hcl hat hrow h1;go_enter Tryz.func235,Tryz.ntmps235;go_wp2_with (go_at_fn 295;refine hI.mono ?_;rintro e w' ⟨hb,⟨rfl,hall⟩|⟨k0,hk0,rfl,ht,hall⟩⟩);go_ret;refine⟨cur,?_,jb.below HR.out hb,rfl,Below.cg hb,fun t u htu q hq=> ?_⟩;rw[FI hall,List.length_range];rfl;rw[FI hall]at htu;obtain⟨q1,q2⟩:=List.getElem?_eq_some_iff.1 htu;simp at q2;rw[q2]
  ·have hne1:((k0:Int)== -1)=false:=beq_eq_false_iff_ne.2 (by omega);have K0:Aside (QD p 7 w w' b cur cur k0 (k0+1)):=QD.start hb HR.out ht hall;clear hall ht hb hI;go_loopg [5,6] (n-(k0+1)) (fun gg s5 s6 wr=>∃(i j:Nat)(ck:Array Value),s5= .int .i64 i/\ s6= .int .i64 j/\ j+gg=n/\ Aside (QD p 7 w wr b cur ck i j));case atStart=>exact⟨k0,k0+1,cur,rfl,by go_num,by omega,K0.out⟩
   case round=>
    obtain⟨i,j,ck,rfl,rfl,hgg,KI⟩:=hrel
    cases gk with
    |zero=>
     obtain rfl:j=n:=by omega
     have hij:=KI.out.lt
     have hlen:Aside (i=(nJ p j).length):=KI.out.len
     have hltz:¬(j:Int)<(j:Int):=by omega
     have hle:(i:Int)<=(j:Int):=by omega
     have hcs:=KI.out.size
     have hmul:i*7+(j-i)*7=j*7:=by omega
     obtain⟨i0,zv,hi0,hi3,hz2,hz4⟩:∃i0 zv,Tryz.prog.info? 272=some i0/\ i0.zero=some zv/\ zv.cells.size=7/\ (zv.cells.toList.all fun v=>v.oneCell')=true:=⟨_,_,rfl,rfl,rfl,rfl⟩
     have hz1:∀w,(zeroValue 272).run Tryz.prog w= .ok zv w:=fun w=>by simp[zeroValue,typeInfo,hi0,hi3]
     have hz3:∀v∈zv.cells,v.oneCell'=true:=fun v hv=>List.all_eq_true.1 hz4 v (by simpa using hv)
     have hcl:∀ty,(Builtin.clear_ #[79] ty #[.slice (some ⟨b,i*7,none⟩) (j-i) (cap-i)]).run Tryz.prog wr= .ok (.tuple #[]) (wr.setCells b (i*7) (Builtin.zeroCells zv.cells (j-i)).toList):=fun ty=>
      R2 wr _ 272 ty zv 7 (by kernel_rfl) hz1 hz2 (by decide) hz3 b (i*7) (j-i) (cap-i) (by omega)
       (fun t ht=>by rw[KI.out.row.cell,Array.getElem?_eq_getElem (by omega)];rfl) (fun t ht=>KI.out.row.free _)
     obtain⟨ck',g1,g2,g3,g4⟩:=KI.out.done (vs:=(Builtin.zeroCells zv.cells (j-i)).toList) (by rw[Array.length_toList,<-hz2];unfold Builtin.zeroCells;rw[Array.size_map,Array.size_range]) (by omega)
     clear hi0 hi3 hz1 hz2 hz3 hz4
     generalize (Builtin.zeroCells zv.cells (j-i)).toList=zl at hcl g1 g3
     go_wp2
     go_ret
     exact⟨by rw[<-hlen.out];rfl,ck',g1,by rw[g2,hsz],g3,g4⟩
    |succ g=>
     have hjn:j<n:=by omega
     have hjz:(j:Int)<(n:Int):=by omega
     have h0:=(KI.out.row.cell _).trans ((KI.out.high (j*7) (by omega)).trans (HT.out j hjn 0 (by decide)))
     have h1:=(KI.out.row.cell _).trans ((KI.out.high (j*7+1) (by omega)).trans (HT.out j hjn 1 (by decide)))
     have h2:=(KI.out.row.cell _).trans ((KI.out.high (j*7+2) (by omega)).trans (HT.out j hjn 2 (by decide)))
     have h3:=(KI.out.row.cell _).trans ((KI.out.high (j*7+3) (by omega)).trans (HT.out j hjn 3 (by decide)))
     have h4:=(KI.out.row.cell _).trans ((KI.out.high (j*7+4) (by omega)).trans (HT.out j hjn 4 (by decide)))
     have h5:=(KI.out.row.cell _).trans ((KI.out.high (j*7+5) (by omega)).trans (HT.out j hjn 5 (by decide)))
     have h6:=(KI.out.row.cell _).trans ((KI.out.high (j*7+6) (by omega)).trans (HT.out j hjn 6 (by decide)))
     have hcall:=fun W hW=>HC.out j hjn W hW
     have o0:=H1.out _ _ (by omega) (HT.out j hjn 0 (by decide))
     have o1:=H1.out _ _ (by omega) (HT.out j hjn 1 (by decide))
     have o2:=H1.out _ _ (by omega) (HT.out j hjn 2 (by decide))
     have o3:=H1.out _ _ (by omega) (HT.out j hjn 3 (by decide))
     have o4:=H1.out _ _ (by omega) (HT.out j hjn 4 (by decide))
     have o5:=H1.out _ _ (by omega) (HT.out j hjn 5 (by decide))
     have o6:=H1.out _ _ (by omega) (HT.out j hjn 6 (by decide))
     simp only[Nat.add_zero]at h0 o0
     have E0:Aside (cur[j*7]? =some (cur[j*7]!)):=HT.out j hjn 0 (by decide)
     have E1:Aside (cur[j*7+1]? =some (cur[j*7+1]!)):=HT.out j hjn 1 (by decide)
     have E2:Aside (cur[j*7+2]? =some (cur[j*7+2]!)):=HT.out j hjn 2 (by decide)
     have E3:Aside (cur[j*7+3]? =some (cur[j*7+3]!)):=HT.out j hjn 3 (by decide)
     have E4:Aside (cur[j*7+4]? =some (cur[j*7+4]!)):=HT.out j hjn 4 (by decide)
     have E5:Aside (cur[j*7+5]? =some (cur[j*7+5]!)):=HT.out j hjn 5 (by decide)
     have E6:Aside (cur[j*7+6]? =some (cur[j*7+6]!)):=HT.out j hjn 6 (by decide)
     generalize cur[j*7]! =c0 at h0 o0 hcall E0
     generalize cur[j*7+1]! =c1 at h1 o1 hcall E1
     generalize cur[j*7+2]! =c2 at h2 o2 hcall E2
     generalize cur[j*7+3]! =c3 at h3 o3 hcall E3
     generalize cur[j*7+4]! =c4 at h4 o4 hcall E4
     generalize cur[j*7+5]! =c5 at h5 o5 hcall E5
     generalize cur[j*7+6]! =c6 at h6 o6 hcall E6
     have HC2:Aside (∀W,QF w W b->Calls Tryz.prog fc (#[.agg #[c0,c1,c2,c3,c4,c5,c6]]++cs) W fun e W'=>e= .returned (.bool (p j))/\ Below W.heap.size W W'):=hcall
     clear hcall
     have s0:∀(w:World)(a:Addr),(store a c0).run Tryz.prog w=stored Tryz.prog w a c0 .plain:=fun w a=>run_store _ w a c0 _ o0
     have s1:∀(w:World)(a:Addr),(store a c1).run Tryz.prog w=stored Tryz.prog w a c1 .plain:=fun w a=>run_store _ w a c1 _ o1
     have s2:∀(w:World)(a:Addr),(store a c2).run Tryz.prog w=stored Tryz.prog w a c2 .plain:=fun w a=>run_store _ w a c2 _ o2
     have s3:∀(w:World)(a:Addr),(store a c3).run Tryz.prog w=stored Tryz.prog w a c3 .plain:=fun w a=>run_store _ w a c3 _ o3
     have s4:∀(w:World)(a:Addr),(store a c4).run Tryz.prog w=stored Tryz.prog w a c4 .plain:=fun w a=>run_store _ w a c4 _ o4
     have s5:∀(w:World)(a:Addr),(store a c5).run Tryz.prog w=stored Tryz.prog w a c5 .plain:=fun w a=>run_store _ w a c5 _ o5
     have s6:∀(w:World)(a:Addr),(store a c6).run Tryz.prog w=stored Tryz.prog w a c6 .plain:=fun w a=>run_store _ w a c6 _ o6
     have hd1:QF w (wr.alloc (Obj.cells #[c0,c1,c2,c3,c4,c5,c6] 272)) b:=KI.out.rel.below (za _ _)
     have hrn:jb (wr.alloc (Obj.cells #[c0,c1,c2,c3,c4,c5,c6] 272)) wr.heap.size #[c0,c1,c2,c3,c4,c5,c6]:=jb.new wr _ _
     have hcall:=HC2.out _ hd1
     cases hq:p j with
     |true=>
      rw[hq]at hcall
      go_wp2
      refine hcall.mono ?_
      rintro e w' ⟨rfl,hb⟩
      dsimp only
      have hbw:Below wr.heap.size wr w':=vZ (za _ _) hb
      go_wp2
      go_roundg g
      case measure=>omega
      case rel=>exact⟨i,j+1,ck,rfl,by go_num,by omega,KI.out.skip hq hbw⟩
     |false=>
      rw[hq]at hcall
      go_wp2
      refine hcall.mono ?_
      rintro e w' ⟨rfl,hb⟩
      dsimp only
      have hbw:Below wr.heap.size wr w':=vZ (za _ _) hb
      have hrw:=KI.out.row.below hbw
      have hij:=KI.out.lt
      have hcsz:=KI.out.size
      have hin:(i:Int)<(n:Int):=by omega
      have v0:=iM (hrn.cell 0) hb
      have v1:=iM (hrn.cell 1) hb
      have v2:=iM (hrn.cell 2) hb
      have v3:=iM (hrn.cell 3) hb
      have v4:=iM (hrn.cell 4) hb
      have v5:=iM (hrn.cell 5) hb
      have v6:=iM (hrn.cell 6) hb
      have w0:w'.cell? ⟨b,i*7,none⟩=some ck[i*7]! :=by rw[hrw.cell,Array.getElem?_eq_getElem (by omega),getElem!_pos ck _ (by omega)]
      have f0:=hrw.free (i*7)
      have w1:w'.cell? ⟨b,i*7+1,none⟩=some ck[i*7+1]! :=by rw[hrw.cell,Array.getElem?_eq_getElem (by omega),getElem!_pos ck _ (by omega)]
      have f1:=hrw.free (i*7+1)
      have w2:w'.cell? ⟨b,i*7+2,none⟩=some ck[i*7+2]! :=by rw[hrw.cell,Array.getElem?_eq_getElem (by omega),getElem!_pos ck _ (by omega)]
      have f2:=hrw.free (i*7+2)
      have w3:w'.cell? ⟨b,i*7+3,none⟩=some ck[i*7+3]! :=by rw[hrw.cell,Array.getElem?_eq_getElem (by omega),getElem!_pos ck _ (by omega)]
      have f3:=hrw.free (i*7+3)
      have w4:w'.cell? ⟨b,i*7+4,none⟩=some ck[i*7+4]! :=by rw[hrw.cell,Array.getElem?_eq_getElem (by omega),getElem!_pos ck _ (by omega)]
      have f4:=hrw.free (i*7+4)
      have w5:w'.cell? ⟨b,i*7+5,none⟩=some ck[i*7+5]! :=by rw[hrw.cell,Array.getElem?_eq_getElem (by omega),getElem!_pos ck _ (by omega)]
      have f5:=hrw.free (i*7+5)
      have w6:w'.cell? ⟨b,i*7+6,none⟩=some ck[i*7+6]! :=by rw[hrw.cell,Array.getElem?_eq_getElem (by omega),getElem!_pos ck _ (by omega)]
      have f6:=hrw.free (i*7+6)
      obtain⟨ck',hk⟩:=KI.out.keep hq hbw (vs:=[c0,c1,c2,c3,c4,c5,c6]) rfl (fun q hq=>match q,hq with
       |0,_=>E0.out.symm
       |1,_=>E1.out.symm
       |2,_=>E2.out.symm
       |3,_=>E3.out.symm
       |4,_=>E4.out.symm
       |5,_=>E5.out.symm
       |6,_=>E6.out.symm) (by omega)
      go_wp2
      go_roundg g
      case measure=>omega
      case rel=>exact⟨i+1,j+1,ck',by go_num,by go_num,by omega,hk⟩
end Go.Proofs.YtpnolnkjijmfjaaGreat
