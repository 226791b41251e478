/- Of this proof. -/
import Derived.Test.YtebnmoogdmpepaaGreatProg
import Derived.Test.YtebnmoogdmpepaaGreatGnA
import Derived.Shelf.Abstract
import Derived.WalkKit
import Derived.IntWalk
import Derived.Deep.LoopGhost
import Derived.Lib.AppendZeros
import Derived.Shelf.RegionOpenPlain
import Derived.Deep.RegionLaw
import Derived.Lib.Walk
import Derived.Sort.WalkB12
import Derived.Lib.SliceRun
import Derived.Lib.SlicesDelete
set_option linter.unusedSimpArgs false
set_option linter.unusedVariables false
namespace Go.Proofs.YtebnmoogdmpepaaGreat
open Go Go.Shelf Go.RowKit Go.Lib Go.Sort Gi
set_option maxHeartbeats 4000000 in
set_option maxRecDepth 100000 in
theorem Ra :QI Tryz.prog 111 2:=by
 intro _ w b n cap i j cur hrow hsz hn hcap hij hj h1
 have hn63:n≤9223372036854775807:=by unfold maxLen at hcap;omega
 have hc63:cap≤9223372036854775807:=by unfold maxLen at hcap;omega
 obtain⟨i0,zv,hi0,hi3,hz2,hz4,hi5⟩:∃i0 zv,Tryz.prog.info? 185=some i0∧i0.zero=some zv∧zv.cells.size=2∧(zv.cells.toList.all fun v=>v.oneCell')=true∧i0.size=2:=⟨_,_,rfl,rfl,rfl,rfl,rfl⟩
 have hz1:∀w,(zeroValue 185).run Tryz.prog w= .ok zv w:=fun w=>by simp[zeroValue,typeInfo,hi0,hi3]
 have hz3:∀v∈zv.cells,v.oneCell'=true:=fun v hv=>List.all_eq_true.1 hz4 v (by simpa using hv)
 obtain⟨m,hm⟩:∃m,m=i+(n-j):=⟨_,rfl⟩
 obtain⟨news,hnews⟩:∃news:List Value,news=(cur.toList.drop (j*2)).take ((n-j)*2):=⟨_,rfl⟩
 have hcl0:cur.toList.length=cur.size:=Array.length_toList
 have hnl:news.length=(n-j)*2:=by rw[hnews,List.length_take,List.length_drop,hcl0];omega
 have hnat:∀q,q<(n-j)*2→news[q]? =cur[j*2+q]? :=fun q hq=>by
  rw[hnews,List.getElem?_take,if_pos hq,List.getElem?_drop,Array.getElem?_toList]
 have hone:∀v∈news,v.oneCell'=true:=fun v hv=>by
  obtain⟨k,hk,rfl⟩:=List.mem_iff_getElem.1 hv
  have e1:=hnat k (by omega)
  rw[List.getElem?_eq_getElem hk]at e1
  exact h1 _ _ (by omega) e1.symm
 have hrow0:gg w.drew b cur:=hrow
 have hfit:0+i*2+news.length≤cur.size:=by omega
 obtain⟨A,hA,hsrc⟩:∃A:Addr,(if cap=j then some (⟨b,0,none⟩:Addr)else some ⟨b,j*2,none⟩)=some A∧Hid (∀t u,news[t]? =some u→w.drew.cell? (A.add t)=some u):=by
  by_cases h:cap=j
  ·refine⟨⟨b,0,none⟩,by simp[h],fun t u hu=> ?_⟩
   have:=(List.getElem?_eq_some_iff.1 hu).1
   omega
  ·refine⟨⟨b,j*2,none⟩,by simp[h],fun t u hu=> ?_⟩
   have ht:=(List.getElem?_eq_some_iff.1 hu).1
   rw[hnat t (by omega)]at hu
   rw[Addr.add_lit,hrow0.cell]
   exact hu
 have s1:Hid (news.length=(n-j)*2):=hnl
 have s2:Hid (∀u∈news,u.oneCell'=true):=hone
 have s3:Hid (∀t,t<news.length→(w.drew.cell? ⟨b,0+i*2+t,none⟩).isSome=true∧w.drew.frozen? ⟨b,0+i*2+t,none⟩=false):=fun t ht=>by
  refine⟨?_,hrow0.free _⟩
  rw[hrow0.cell,Array.getElem?_eq_getElem (by omega)]
  rfl
 obtain⟨W1,hW1⟩:∃W1,W1=w.drew.setCells b (0+i*2) news:=⟨_,rfl⟩
 obtain⟨cur1,hrow1,hsz1,hget1⟩:=de b news (0+i*2) w.drew cur hrow0 hfit
 have hs1:=cr b news (0+i*2) w.drew
 have ho1:=fun k hk=>co b news (0+i*2) w.drew k hk
 have hb1:=bN b 0 (Nat.zero_le _) news (0+i*2) w.drew w.drew (Below.refl _ _)
 rw[←hW1]at hrow1 hs1 ho1 hb1
 have hzl:(Builtin.zeroCells zv.cells (n-m)).toList.length=(n-m)*2:=by rw[Array.length_toList,←hz2];unfold Builtin.zeroCells;rw[Array.size_map,Array.size_range]
 have hcl:∀ty,(Builtin.clear_ #[73] ty #[.slice (some ⟨b,(i+(n-j))*2,none⟩) (n-(i+(n-j))) (cap-(i+(n-j)))]).run Tryz.prog W1= .ok (.tuple #[]) (W1.setCells b ((i+(n-j))*2) (Builtin.zeroCells zv.cells (n-(i+(n-j)))).toList):=fun ty=>
  Lt W1 _ 185 ty zv 2 (by kernel_rfl) hz1 hz2 (by decide) hz3 b ((i+(n-j))*2) (n-(i+(n-j))) (cap-(i+(n-j))) (by omega)
   (fun t ht=>by rw[hrow1.cell,Array.getElem?_eq_getElem (by omega)];rfl) (fun t ht=>hrow1.free _)
 rw[←hm]at hcl
 obtain⟨cur2,hrow2,hsz2,hget2⟩:=de b (Builtin.zeroCells zv.cells (n-m)).toList (m*2) W1 cur1 hrow1 (by omega)
 have hs2:=cr b (Builtin.zeroCells zv.cells (n-m)).toList (m*2) W1
 have ho2:=fun k hk=>co b (Builtin.zeroCells zv.cells (n-m)).toList (m*2) W1 k hk
 have hb2:=bN b 0 (Nat.zero_le _) (Builtin.zeroCells zv.cells (n-m)).toList (m*2) W1 W1 (Below.refl _ _)
 generalize (Builtin.zeroCells zv.cells (n-m)).toList=zl at hcl hrow2 hget2 hs2 ho2 hb2 hzl
 obtain⟨w2,hw2⟩:∃w2,w2=W1.setCells b (m*2) zl:=⟨_,rfl⟩
 rw[←hw2]at hcl hrow2 hs2 ho2 hb2
 have HF:Hid (∃cur',gg w2 b cur'∧cur'.size=cur.size∧w2.os=w.os∧w2.tape=w.tape∧w2.output=w.output∧w.heap.size≤w2.heap.size∧(∀k,k<w.heap.size→k≠b→w2.heap[k]? =w.heap[k]?)∧(∀q,q<i*2→cur'[q]? =cur[q]?)∧∀q,i*2≤q→q<(n-(j-i))*2→cur'[q]? =cur[q+(j-i)*2]?):=
  ⟨cur2,hrow2,hsz2.trans hsz1,hb2.os.trans hb1.os,hb2.tape.trans hb1.tape,hb2.output.trans hb1.output,by have:w.drew.heap.size=w.heap.size:=rfl;omega,fun k _ hk=>(ho2 k hk).trans (ho1 k hk),
   fun q hq=>by rw[hget2,if_neg (by omega),hget1,if_neg (by omega)],
   fun q hq1 hq2=>by
    rw[hget2,if_neg (by omega),hget1,if_pos ⟨by omega,by omega⟩,hnat _ (by omega)]
    congr 1
    omega⟩
 have tS:Tryz.prog.underlying 73=some (.slice 185):=by kernel_rfl
 have hW:Hid (W1=w.drew.setCells b (0+i*2) news):=hW1
 have hw2':Hid (w2=W1.setCells b (m*2) zl):=hw2
 have hic:i≤cap:=by omega
 have hjc:j≤cap:=by omega
 have hmn:m=i+(n-j):=hm
 clear hi3 hz1 hz2 hz3 hz4 hrow1 hrow2 hget1 hget2 hs1 hs2 ho1 ho2 hb1 hb2 hnews hnl hnat hone hfit hsz1 hsz2 hzl hcl0 h1 hrow hrow0 hsz hW1 hw2
 subst hm
 have hne:((i:Int)==(j:Int))=false:=beq_eq_false_iff_ne.2 (by omega)
 have mixed:Tryz.prog.follows .mixedOrders=true:=by kernel_rfl
 go_enter Tryz.func111,Tryz.ntmps111
 go_wp2_with fail
 go_region_law_o (refine step_append_room rfl (.tmp 22) (.tmp 25) 73 rfl 185 i0 2 tS hi0 hi5 b 0 i cap (by simp[Act.eval,Act.put]) A (n-j) (cap-j) news (by simp[Act.eval,Act.put]) s1.out hsrc.out s2.out (by omega) s3.out ?_;rw[←hW.out])
 go_wp2
 go_ret
 exact HF.out.imp fun c h=>⟨by rw[show n-(j-i)=i+(n-j) by omega];rfl,h⟩
end Go.Proofs.YtebnmoogdmpepaaGreat
