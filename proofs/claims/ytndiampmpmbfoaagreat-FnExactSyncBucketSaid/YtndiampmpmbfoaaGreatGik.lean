/- A part. -/
import Derived.Test.YtndiampmpmbfoaaGreatGij
set_option linter.all false
namespace Gi
open Go Go.RowKit
variable {KI:KF}
section
variable {Γ:Ctx}{P:Program}{M0:Nat->Prop}{base:Nat}{Z:St}{a:Act}{w:World}{J:List (Option Nat)}
def jE {h:List Y0}:∀{vs:List V}{es:List (List PV)},aY h vs=some es->es.length=vs.length/\ ∀(i:Nat)v,vs[i]? =some v->∃e,es[i]? =some e/\ viewL h v.cells=some e
 |[],es,e=>by simp[aY]at e;subst e;exact⟨rfl,fun i l hl=>by simp at hl⟩
 |v::vs,es,e=>by
  unfold aY at e
  split at e
  ·rename_i p aC h1 h2
   cases e
   obtain⟨h3,h4⟩:=jE h2
   refine⟨by simp[h3],fun i l' hl=> ?_⟩
   cases i with
   |zero=>simp at hl;subst hl;exact⟨p,rfl,h1⟩
   |succ i=>simpa using h4 i l' (by simpa using hl)
  ·cases e
def ul {z:Nat}:∀(us:List Value)(k:Nat)(cells:Array Value),(∀u∈us,u.cells.size=z)->(k+us.length)*z<=cells.size->
 ∃a1,Instr.fill (fun i=>some (i*z,z)) cells ((us.zipIdx k).map fun x=>(x.2,x.1))=some a1/\ a1.size=cells.size/\
  (∀i j u,us[i]? =some u->j<z->a1[(k+i)*z+j]? =u.cells[j]?)/\ (∀p,p<k*z->a1[p]? =cells[p]?)
 |[],k,cells,_,_=>⟨cells,rfl,rfl,fun i j u hu=>by simp at hu,fun p _=>rfl⟩
 |u::us,k,cells,hu,hl=>by
  simp only[Zo]at hl
  have aa:u.cells.size=z:=hu u (by simp)
  have b1:k*z+z<=cells.size:=by
   refine Zc ?_ hl
   calc k*z+z=(k+1)*z:=by rw[Nat.add_mul,D']
    _<=(k+(us.length+1))*z:=ZH _ (by omega)
  have a2:¬(u.cells.size≠z||decide (k*z+u.cells.size>cells.size))=true:=by simp[aa];omega
  have aw:u.cells.zipIdx.foldl (fun cs(x:Value×Nat)=>cs.setIfInBounds (k*z+x.2) x.1) cells=(u.cells.toList.zipIdx 0).foldl (fun cs(x:Value×Nat)=>cs.setIfInBounds (k*z+x.2) x.1) cells:=by
   rw[<-Array.foldl_toList];simp
  obtain⟨a1,h1,h2,h3,h4⟩:=ul us (k+1) ((u.cells.toList.zipIdx 0).foldl (fun cs(x:Value×Nat)=>cs.setIfInBounds (k*z+x.2) x.1) cells)
   (fun u' ag=>hu u' (by simp[ag])) (by rw[Cy];rwa[show k+1+us.length=k+(us.length+1) by omega])
  refine⟨a1,?_,by rw[h2,Cy],fun i j u' ag hj=> ?_,fun p hp=> ?_⟩
  ·simp only[List.zipIdx_cons,Zv,Instr.fill]
   rw[if_neg a2]
   rw[aw]
   exact h1
  ·cases i with
   |zero=>
    simp at ag;subst ag
    rw[Za7,h4 _ (by rw[Nat.add_mul,D'];omega),Ha _ _ 0 cells (by simp[aa];omega)]
    rw[if_pos (by simp[aa];omega)]
    simp
   |succ i=>
    have:=h3 i j u' (by simpa using ag) hj
    rwa[show k+1+i=k+(i+1) by omega]at this
  ·rw[h4 p (by rw[Nat.add_mul,D'];omega),Ha _ _ 0 cells (by simp[aa];omega),if_neg (by omega)]
def JO (s:SR Γ M0 base Z a w J){o:Oper}{d:Md}{ao:AOp}{v:V}{h':List Y0}{call:Nat->List V->Option V}{t:TypeId}{n:Nat}{parts:Array (Nat×Operand)}(ai:o.op= .buildSlice t n parts)
 (hc:fX P kf d o.op=some ao) (he:cz call Z ao=some (v,h')):kO P M0 base Z w J v h' (execOp a.eval o):=by
 rw[ai]at hc;simp only[fX]at hc
 split at hc
 ·rename_i e ps ht al
  split at hc
  ·rename_i z v0 aa hz
   split at hc
   ·rename_i a2
    simp only[Zh,beq_iff_eq]at a2
    obtain⟨a5,aR⟩:=a2
    cases hc
    by_cases q:(d.st&&(ps.isEmpty|| !d.dp))=true
    ·rw[if_pos q]at he;cases he
    rw[if_neg q]at he
    simp only[cz]at he
    split at he
    ·rename_i ah
     simp only[Zh,decide_eq_true_eq,Zt,beq_iff_eq,V',forall_exists_index,and_imp,forall_apply_eq_imp_iff₂,Zr]at ah
     obtain⟨⟨ab,aE⟩,aB⟩:=ah
     split at he
     ·rename_i es aj
      cases he
      obtain⟨i,hi,aF,aS⟩:∃i,P.info? e=some i/\ i.zero=some v0/\ i.size=z:=by
       unfold oA at hz;unfold rS at aa
       cases hi:P.info? e with
       |none=>simp[hi]at hz
       |some i=>simp[hi]at hz aa;exact⟨i,rfl,hz,aa⟩
      have hu:P.underlying t=some (.slice e):=by
       unfold jh at ht
       split at ht<;>cases ht
       assumption
      have a6:ps.length=n:=by rw[fk al];have:=congrArg List.length a5;simpa using this
      have a7:(parts.map fun x=>(x.1,a.eval x.2)).toList=((parts.toList.map fun x=>a.eval x.2).zipIdx 0).map fun x=>(x.2,x.1):=by
       apply Zc0
       intro k
       simp only[ZZ,Zp,List.getElem?_zipIdx,ZO]
       have hk:(parts.toList.map (·.1))[k]? =(List.range n)[k]? :=by rw[a5]
       simp only[Zp]at hk
       cases hq:parts.toList[k]? with
       |none=>simp
       |some q=>
        simp only[hq,Option.map_some]at hk⊢
        obtain⟨h1,h2⟩:=Zb.1 hk.symm
        simp at h2
        simp[<-h2]
      have ad:∀(k:Nat)q,(parts.toList.map fun x=>a.eval x.2)[k]? =some q->∃y,ps[k]? =some y/\ VR (Mu M0 J Z.h) w J Z.h (y.ev Z) q/\ tg (Mu M0 J Z.h) w J Z.h (y.ev Z).cells q.cells.toList:=by
       intro k q hq
       simp only[Zp,Zj]at hq
       obtain⟨q0,aG,rfl⟩:=hq
       obtain⟨y,hy,aH⟩:=iN al k q0 aG
       have r:=aD s aH
       obtain⟨e1,_,he1⟩:=(jE aj).2 k (y.ev Z) (by simp[hy])
       refine⟨y,hy,r,r.cells ?_⟩
       intro xs aI
       rw[aI]at he1
       simp[V.cells,viewL,L.view]at he1
      have a8:∀u∈(parts.toList.map fun x=>a.eval x.2),u.cells.size=z:=by
       intro u ag
       obtain⟨k,hk,rfl⟩:=T' ag
       obtain⟨y,hy,_,hl⟩:=ad k _ (Zm hk)
       have:=ab y (Zl hy)
       rw[<-this,hl.1];simp
      have ak:(parts.toList.map fun x=>a.eval x.2).length=n:=by rw[Zr,<-fk al,a6]
      obtain⟨a1,ae,aQ,aJ,_⟩:=ul (z:=z) (parts.toList.map fun x=>a.eval x.2) 0 ((Array.range (n*z)).map (v0.cells[· %v0.cells.size]!)) a8 (by rw[ak];simp)
      rw[<-a7,ZZ]at ae
      have an:¬n*z>2^24:=by rw[a6]at aB;omega
      have af:(Instr.buildSlice t n (parts.map fun x=>(x.1,a.eval x.2))).run P w= .ok (.slice (some ⟨w.heap.size,0,none⟩) n n) (w.alloc (.cells a1 e)):=by
       simp only[Instr.buildSlice,Sem.run_bind,run_underlying hu,Result.andThen_ok,nA e aa]
       rw[if_neg an]
       by_cases ar:n*z=0
       ·have aK:Array.range (n*z)= #[]:=by rw[ar];rfl
        rw[aK]at ae
        simp only[ar,if_true,Sem.run_bind,Sem.run_pure,Result.andThen_ok]
        have aL:Array.range 0= #[]:=rfl
        simp only[aL,Array.map_empty]at ae⊢
        simp[ae,newRow]
       ·simp only[ar,if_false]
        have aM:(zeroValue e).run P w= .ok v0 w:=by simp[zeroValue,typeInfo,hi,aF]
        simp[aM,ae,newRow]
      obtain⟨k1,c1⟩:=s.hr.freezeVs (ps.map (Opd.ev Z))
      have au:es.length=n:=by rw[(jE aj).1];simpa using a6
      have ax:∀(i:Nat)(e1:List PV),es[i]? =some e1->∃y q,ps[i]? =some y/\ (parts.toList.map fun x=>a.eval x.2)[i]? =some q/\ viewL Z.h (y.ev Z).cells=some e1/\ tg (Mu M0 J Z.h) w J Z.h (y.ev Z).cells q.cells.toList:=by
       intro i e1 he1
       have av:i<n:=by rw[<-au];exact(Zb.1 he1).1
       have hq:(parts.toList.map fun x=>a.eval x.2)[i]? =some ((parts.toList.map fun x=>a.eval x.2)[i]'(by rw[ak];exact av)):=by simp[av,ak]
       obtain⟨y,hy,_,hl⟩:=ad i _ hq
       obtain⟨e2,ay,az⟩:=(jE aj).2 i (y.ev Z) (by simp[hy])
       rw[he1]at ay;cases ay
       exact⟨y,_,hy,hq,az,hl⟩
      obtain⟨J',g1,g2,g3⟩:=TR (h:=freezeVs Z.h (ps.map (Opd.ev Z))) k1 (w':=w.alloc (.cells a1 e)) (by simp) (fun b hb=>fb w _ b hb) (z:=z) (cap:=n) (es:=es) aE
       (fun e1 he1=>by
        obtain⟨k,hk,rfl⟩:=T' he1
        obtain⟨y,q,hy,hq,hv,hl⟩:=ax k _ (Zm hk)
        rw[(oh hv).1]
        exact ab y (Zl hy)) (fO.new w a1 e) (by rw[aQ];simp) (by omega)
       (by
        have:n<=n*z:=Nat.le_mul_of_pos_right n aE
        simp only[maxLen];omega)
       (fun i e1 j p he1 hp=>by
        obtain⟨y,q,hy,hq,hv,hl⟩:=ax i e1 he1
        obtain⟨b2,aT⟩:=uo k1 (hl.ch c1) hv (fun l _=>jX _ l) (fun l aU=>lD _ l (.inr ⟨_,V'.2 ⟨y,Zl hy,rfl⟩,aU⟩))
        obtain⟨u,aV,aW⟩:=aT j p hp
        have hj:j<z:=by
         have h1:=(Zb.1 hp).1
         rw[(oh hv).1,ab y (Zl hy)]at h1
         exact h1
        refine⟨u,?_,aW⟩
        have:=aJ i j q hq hj
        rw[ZO]at this
        rw[this]
        simpa using aV)
      refine⟨.value (.slice (some ⟨w.heap.size,0,none⟩) n n), .slice (some ⟨w.heap.size,0,none⟩) n n,_,J',?_, .inl rfl,(Below.refl _ _).alloc s.hr.le _,g1,c1.trans g2,?_⟩
      ·simp only[execOp,ai]
       have:(parts.map fun(x:Nat×Operand)=>match x with|(i,x)=>(i,a.eval x))=parts.map fun x=>(x.1,a.eval x.2):=rfl
       simp only[Sem.run_bind]
       first|rw[af]|(rw[this,af])
       simp
      ·rw[au]at g3;exact g3
     ·cases he
    ·cases he
   ·cases hc
  ·cases hc
 ·cases hc
def Fc :∀{ls:List L}{ps:List PV},ca ls=some ps->ls=ps.map .pv
 |[],ps,e=>by simp only[ca]at e;cases e;rfl
 |l::ls,ps,e=>by
  cases l with
  |pv p=>
   simp only[ca]at e
   split at e
   ·rename_i qs h1
    cases e
    rw[Fc h1];rfl
   ·cases e
  |_=>cases e
def vV :∀{vs:List V}{es:List (List PV)},dD vs=some es->es.length=vs.length/\ ∀(i:Nat)v,vs[i]? =some v->∃e,es[i]? =some e/\ v.cells=e.map .pv
 |[],es,e=>by simp only[dD]at e;cases e;exact⟨rfl,fun i l hl=>by simp at hl⟩
 |v::vs,es,e=>by
  simp only[dD]at e
  split at e
  ·rename_i p aC h1 h2
   cases e
   obtain⟨h3,h4⟩:=vV h2
   refine⟨by simp[h3],fun i l' hl=> ?_⟩
   cases i with
   |zero=>simp at hl;subst hl;exact⟨p,rfl,Fc h1⟩
   |succ i=>simpa using h4 i l' (by simpa using hl)
  ·cases e
def JN (s:SR Γ M0 base Z a w J){o:Oper}{d:Md}{z:Nat}{ps:List Opd}{v:V}{call:Nat->List V->Option V}
 (hc:fX P kf d o.op=some (.bZ z ps)) (he:bG call Z (.bZ z ps)=some v):∃u w',(execOp a.eval o).run P w= .ok (.value u) w'/\ Below w.heap.size w w'/\ VR (Mu M0 J Z.h) w' J Z.h v u:=by
 obtain⟨t,n,parts,ai⟩:∃t n parts,o.op= .buildSlice t n parts:=by
  cases ai:o.op
  case buildSlice t n parts=>exact⟨t,n,parts,rfl⟩
  case makeFunc fn first caps=>rw[ai]at hc;cases fn<;>simp only[fX]at hc<;>first|(cases hc;done)|((repeat' (split at hc))<;>cases hc)
  all_goals
   rw[ai]at hc
   simp only[fX]at hc
   first
   |(cases hc;done)
   |(simp only[Zj]at hc;obtain⟨_,_,hc⟩:=hc;cases hc;done)
   |((repeat' (split at hc))<;>cases hc)
 rw[ai]at hc;simp only[fX]at hc
 split at hc
 ·rename_i e aC ht al
  split at hc
  ·rename_i z' v0 aa hz
   split at hc
   ·rename_i a2
    simp only[Zh,beq_iff_eq]at a2
    obtain⟨a5,aR⟩:=a2
    by_cases q:(d.st&&(aC.isEmpty|| !d.dp))=true
    case neg=>rw[if_neg q]at hc;cases hc
    rw[if_pos q]at hc
    cases hc
    simp only[bG]at he
    split at he
    ·rename_i es aj
     split at he
     ·rename_i ah
      cases he
      obtain⟨hlen,aE,aB⟩:=ah
      have aA:es.length=ps.length:=by rw[(vV aj).1];simp
      rw[aA]at aB
      have ab:∀y∈ps,(y.ev Z).cells.length=z:=by
       intro y hy
       obtain⟨k,hk,rfl⟩:=T' hy
       obtain⟨e1,he1,aX⟩:=(vV aj).2 k (ps[k].ev Z) (by simp[hk])
       rw[aX]
       have:=Zt.1 hlen e1 (Zl he1)
       simpa using this
      obtain⟨i,hi,aF,aS⟩:∃i,P.info? e=some i/\ i.zero=some v0/\ i.size=z:=by
       unfold oA at hz;unfold rS at aa
       cases hi:P.info? e with
       |none=>simp[hi]at hz
       |some i=>simp[hi]at hz aa;exact⟨i,rfl,hz,aa⟩
      have hu:P.underlying t=some (.slice e):=by
       unfold jh at ht
       split at ht<;>cases ht
       assumption
      have a6:ps.length=n:=by rw[fk al];have:=congrArg List.length a5;simpa using this
      have a7:(parts.map fun x=>(x.1,a.eval x.2)).toList=((parts.toList.map fun x=>a.eval x.2).zipIdx 0).map fun x=>(x.2,x.1):=by
       apply Zc0
       intro k
       simp only[ZZ,Zp,List.getElem?_zipIdx,ZO]
       have hk:(parts.toList.map (·.1))[k]? =(List.range n)[k]? :=by rw[a5]
       simp only[Zp]at hk
       cases hq:parts.toList[k]? with
       |none=>simp
       |some q=>
        simp only[hq,Option.map_some]at hk⊢
        obtain⟨h1,h2⟩:=Zb.1 hk.symm
        simp at h2
        simp[<-h2]
      have ad:∀(k:Nat)q,(parts.toList.map fun x=>a.eval x.2)[k]? =some q->∃y,ps[k]? =some y/\ VR (Mu M0 J Z.h) w J Z.h (y.ev Z) q/\ tg (Mu M0 J Z.h) w J Z.h (y.ev Z).cells q.cells.toList:=by
       intro k q hq
       simp only[Zp,Zj]at hq
       obtain⟨q0,aG,rfl⟩:=hq
       obtain⟨y,hy,aH⟩:=iN al k q0 aG
       have r:=aD s aH
       obtain⟨e1,_,he1⟩:=(vV aj).2 k (y.ev Z) (by simp[hy])
       refine⟨y,hy,r,r.cells ?_⟩
       intro xs aI
       rw[aI]at he1
       cases e1<;>simp[V.cells]at he1
      have a8:∀u∈(parts.toList.map fun x=>a.eval x.2),u.cells.size=z:=by
       intro u ag
       obtain⟨k,hk,rfl⟩:=T' ag
       obtain⟨y,hy,_,hl⟩:=ad k _ (Zm hk)
       have:=ab y (Zl hy)
       rw[<-this,hl.1];simp
      have ak:(parts.toList.map fun x=>a.eval x.2).length=n:=by rw[Zr,<-fk al,a6]
      obtain⟨a1,ae,aQ,aJ,_⟩:=ul (z:=z) (parts.toList.map fun x=>a.eval x.2) 0 ((Array.range (n*z)).map (v0.cells[· %v0.cells.size]!)) a8 (by rw[ak];simp)
      rw[<-a7,ZZ]at ae
      have an:¬n*z>2^24:=by rw[a6]at aB;omega
      have af:(Instr.buildSlice t n (parts.map fun x=>(x.1,a.eval x.2))).run P w= .ok (.slice (some ⟨w.heap.size,0,none⟩) n n) (w.alloc (.cells a1 e)):=by
       simp only[Instr.buildSlice,Sem.run_bind,run_underlying hu,Result.andThen_ok,nA e aa]
       rw[if_neg an]
       by_cases ar:n*z=0
       ·have aK:Array.range (n*z)= #[]:=by rw[ar];rfl
        rw[aK]at ae
        simp only[ar,if_true,Sem.run_bind,Sem.run_pure,Result.andThen_ok]
        have aL:Array.range 0= #[]:=rfl
        simp only[aL,Array.map_empty]at ae⊢
        simp[ae,newRow]
       ·simp only[ar,if_false]
        have aM:(zeroValue e).run P w= .ok v0 w:=by simp[zeroValue,typeInfo,hi,aF]
        simp[aM,ae,newRow]
      have au:es.length=n:=by rw[aA,a6]
      obtain⟨k1,c1⟩:=s.hr.world (w':=w.alloc (.cells a1 e)) (by simp) (fun b hb=>fb w _ b hb)
      refine⟨.slice (some ⟨w.heap.size,0,none⟩) n n,w.alloc (.cells a1 e),?_,(Below.refl _ _).alloc (Zn _) _,?_⟩
      ·simp only[execOp,ai]
       have:(parts.map fun(x:Nat×Operand)=>match x with|(i,x)=>(i,a.eval x))=parts.map fun x=>(x.1,a.eval x.2):=rfl
       simp only[Sem.run_bind]
       first|rw[af]|(rw[this,af])
       simp
      ·cases es with
       |nil=>
        obtain rfl:n=0:=by simpa using au.symm
        exact⟨_,rfl⟩
       |cons e0 aZ=>
       show aq _ _ (.lst (e0::aZ)) _
       simp only[aq]
       refine .inr ⟨w.heap.size,0,n,z,by rw[au],fun hm=> ?_,by simp,di.of fun i e1 he1=> ?_,by rw[au];exact Zn _⟩
       ·rcases hm with hm|⟨oo,ob,ho,aN,hr⟩
        ·have:=s.hr.old _ hm;have:=s.hr.le;omega
        ·have:=(s.hr.objs oo ob _ ho hr).lt (Y0.bE aN)
         omega
       ·have av:i<n:=by rw[<-au];exact(Zb.1 he1).1
        have hq:(parts.toList.map fun x=>a.eval x.2)[i]? =some ((parts.toList.map fun x=>a.eval x.2)[i]'(by rw[ak];exact av)):=by simp[av,ak]
        obtain⟨y,hy,_,hl⟩:=ad i _ hq
        obtain⟨e2,ay,az⟩:=(vV aj).2 i (y.ev Z) (by simp[hy])
        rw[he1]at ay;cases ay
        have aO:e1.length=z:=by have:=ab y (Zl hy);rw[az]at this;simpa using this
        refine⟨aO,ew.of fun j p hp=> ?_⟩
        have hj:j<z:=by rw[<-aO];exact(Zb.1 hp).1
        have aP:j<((parts.toList.map fun x=>a.eval x.2)[i]'(by rw[ak];exact av)).cells.toList.length:=by
         rw[<-hl.1,az];simpa[aO]using hj
        have b0:=hl.2 j (.pv p) _ (by rw[az];simp[hp]) (Zm aP)
        refine⟨_,?_,aq.go c1.go p _ b0⟩
        rw[(fO.new w a1 e).cell]
        have:=aJ i j _ hq hj
        rw[ZO]at this⊢
        rw[this]
        simp at aP
        simp[aP]
     ·cases he
    ·cases he
   ·cases hc
  ·cases hc
 ·cases hc
end
end Gi
