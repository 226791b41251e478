/- Of this proof. -/
import Derived.Test.YtebnmoogdmpepaaGreatGik
set_option linter.unusedSimpArgs false
set_option linter.unusedVariables false
namespace Gi
open Go Go.RowKit
variable {KI:KF}
section
variable {Γ:Ctx}{P:Program}{M0:Nat→Prop}{base:Nat}{σ:St}{a:Act}{w:World}{ρ:List (Option Nat)}
theorem HR0.rename {h:List AObj}(k:HR0 M0 base w ρ h){o z:Nat}{es es':List (List PV)}{r:Option Nat}(ho:h[o]? =some (.arr z es))(hr:ρ[o]? =some r)
 (hob:(∀b,Mu M0 (ρ++[r]) (h.set o .dead++[.arr z es']) b→Mu M0 ρ h b)→wu (Mu M0 (ρ++[r]) (h.set o .dead++[.arr z es'])) base w (ρ++[r]) (h.set o .dead++[.arr z es']) r (.arr z es')):
 HR0 M0 base w (ρ++[r]) (h.set o .dead++[.arr z es'])∧Ch (Mu M0 ρ h) (Mu M0 (ρ++[r]) (h.set o .dead++[.arr z es'])) w w ρ (ρ++[r]) h (h.set o .dead++[.arr z es']):=by
 have hlt:o<h.length:=(Zb.1 ho).1
 have get:∀{i:Nat}{x:AObj}{q:Option Nat},(h.set o .dead++[.arr z es'])[i]? =some x→(ρ++[r])[i]? =some q→(i=h.length∧x= .arr z es'∧q=r)∨(i=o∧x= .dead)∨(i≠o∧i<h.length∧h[i]? =some x∧ρ[i]? =some q):=by
  intro i x q hx hq
  by_cases hi:i<h.length
  ·rw[Ze (by simpa using hi)]at hx
   rw[Ze (by rw[k.len];exact hi)]at hq
   by_cases e:o=i
   ·subst e
    rw[Zd hlt]at hx
    cases hx
    exact .inr (.inl ⟨rfl,rfl⟩)
   ·rw[Za e]at hx
    exact .inr (.inr ⟨fun e'=>e e'.symm,hi,hx,hq⟩)
  ·rw[Zh (by simp;omega)]at hx
   have h1:=(Zb.1 hx).1
   simp at h1
   have:i=h.length:=by omega
   subst this
   simp at hx
   rw[←k.len]at hq
   simp at hq
   exact .inl ⟨rfl,hx.symm,hq.symm⟩
 have mu:∀b,Mu M0 (ρ++[r]) (h.set o .dead++[.arr z es']) b→Mu M0 ρ h b:=by
  intro b hm
  rcases hm with hm|⟨i,x,hi,hx,hri⟩
  ·exact .inl hm
  ·rcases get hi hri with⟨_,rfl,e⟩|⟨_,rfl⟩|⟨_,_,h1,h2⟩
   ·exact .inr ⟨o,_,ho,rfl,by rw[hr,←e]⟩
   ·cases hx
   ·exact .inr ⟨i,x,h1,hx,h2⟩
 have c:Ch (Mu M0 ρ h) (Mu M0 (ρ++[r]) (h.set o .dead++[.arr z es'])) w w ρ (ρ++[r]) h (h.set o .dead++[.arr z es']):=by
  refine⟨⟨Zl _,fun b _ hm=>mu b hm,fun _ _ _=>rfl⟩,fun b cur hrw=>⟨cur,hrw,rfl⟩,fun i q x h1 h2 _=> ?_,fun _ _ _ _ _ _ _ _ _ h=>h⟩
  have hi:i<h.length:=(Zb.1 h2).1
  rw[Ze (by rw[k.len];exact hi),Ze (by simpa using hi)]
  by_cases e:o=i
  ·subst e
   exact⟨.dead,h1,Zd hlt,by rw[ho]at h2;cases h2;trivial⟩
  ·exact⟨x,h1,by rw[Za e];exact h2,qQ.refl x⟩
 refine⟨⟨by simp[k.len],fun b hm=>⟨(k.old b hm).1,fun i x hi hx hri=> ?_⟩,k.le,fun i x q hi hq=> ?_,fun i i' x x' b h1 h2 m1 m2 r1 r2=> ?_⟩,c⟩
 ·rcases get hi hri with⟨_,rfl,e⟩|⟨_,rfl⟩|⟨_,_,g1,g2⟩
  ·exact(k.old b hm).2 o _ ho rfl (by rw[hr,←e])
  ·cases hx
  ·exact(k.old b hm).2 i x g1 hx g2
 ·rcases get hi hq with⟨_,rfl,rfl⟩|⟨_,rfl⟩|⟨_,_,h1,h2⟩
  ·exact hob mu
  ·trivial
  ·exact(k.objs i x q h1 h2).keep c (fun _ _ _=>rfl)
 ·rcases get h1 r1 with⟨e1,rfl,q1⟩|⟨_,rfl⟩|⟨n1,l1,g1,p1⟩
  ·rcases get h2 r2 with⟨e2,rfl,q2⟩|⟨_,rfl⟩|⟨n2,l2,g2,p2⟩
   ·omega
   ·cases m2
   ·exact absurd (k.apart i' o x' _ b g2 ho m2 rfl p2 (by rw[hr,←q1])) n2
  ·cases m1
  ·rcases get h2 r2 with⟨e2,rfl,q2⟩|⟨_,rfl⟩|⟨n2,l2,g2,p2⟩
   ·exact absurd (k.apart i o x _ b g1 ho m1 rfl p1 (by rw[hr,←q2])) n1
   ·cases m2
   ·exact k.apart i i' x x' b g1 g2 m1 m2 p1 p2
theorem HR.rename {h:List AObj}(k:HR M0 base w ρ h){o z:Nat}{es es':List (List PV)}{r:Option Nat}(ho:h[o]? =some (.arr z es))(hr:ρ[o]? =some r)
 (hob:(∀b,Mu M0 (ρ++[r]) (h.set o .dead++[.arr z es']) b→Mu M0 ρ h b)→wu (Mu M0 (ρ++[r]) (h.set o .dead++[.arr z es'])) base w (ρ++[r]) (h.set o .dead++[.arr z es']) r (.arr z es')):
 HR M0 base w (ρ++[r]) (h.set o .dead++[.arr z es'])∧Ch (Mu M0 ρ h) (Mu M0 (ρ++[r]) (h.set o .dead++[.arr z es'])) w w ρ (ρ++[r]) h (h.set o .dead++[.arr z es']):=by
 obtain⟨a,c⟩:=k.toHR0.rename ho hr hob
 obtain⟨κ,d,n⟩:=k.deep
 have hlt:o<h.length:=(Zb.1 ho).1
 have get:∀{i:Nat}{x:AObj}{q:Option Nat},(h.set o .dead++[.arr z es'])[i]? =some x→(ρ++[r])[i]? =some q→(i=h.length∧x= .arr z es'∧q=r)∨(i=o∧x= .dead)∨(i≠o∧i<h.length∧h[i]? =some x∧ρ[i]? =some q):=by
  intro i x q hx hq
  by_cases hi:i<h.length
  ·rw[Ze (by simpa using hi)]at hx
   rw[Ze (by rw[k.len];exact hi)]at hq
   by_cases e:o=i
   ·subst e
    rw[Zd hlt]at hx
    cases hx
    exact .inr (.inl ⟨rfl,rfl⟩)
   ·rw[Za e]at hx
    exact .inr (.inr ⟨fun e'=>e e'.symm,hi,hx,hq⟩)
  ·rw[Zh (by simp;omega)]at hx
   have h1:=(Zb.1 hx).1
   simp at h1
   have:i=h.length:=by omega
   subst this
   simp at hx
   rw[←k.len]at hq
   simp at hq
   exact .inl ⟨rfl,hx.symm,hq.symm⟩
 refine⟨⟨a,fun b=>if κ b=[o]then [h.length]else κ b,⟨fun i x b hi hx hri=> ?_,fun i x z1 es1 b hi hd hri=> ?_⟩,fun b hb=>by simp[n.new b hb],fun b i c τ z1 es1 e hi=> ?_⟩,c⟩
 ·rcases get hi hri with⟨rfl,rfl,e⟩|⟨_,rfl⟩|⟨hne,_,g1,g2⟩
  ·exact if_pos (d.root o _ b ho rfl (by rw[hr,←e]))
  ·cases hx
  ·have:=d.root i x b g1 hx g2
   rw[if_neg (by rw[this];simp;exact hne)]
   exact this
 ·rcases get hi hri with⟨rfl,rfl,e⟩|⟨_,rfl⟩|⟨hne,_,g1,g2⟩
  ·cases hd
  ·cases hd
  ·exact(d.tree i x z1 es1 b g1 hd g2).go (Zl _) (fun _ _=>rfl) ((k.objs i x _ g1 g2).rows hd).2 (fun c b' τ _ e=>⟨by rw[if_neg (by rw[e];simp)];exact e,rfl⟩)
 ·have e':κ b=i::c::τ:=by
   revert e
   split
   ·intro e;simp at e
   ·exact id
  obtain⟨q,hq⟩:=a.mem hi
  rcases get hi hq with⟨_,e0,_⟩|⟨_,e0⟩|⟨_,_,g1,_⟩
  ·cases e0
  ·cases e0
  ·exact n.zone b i c τ z1 es1 e' g1
theorem src (s:SR Γ M0 base σ a w ρ){x:V}{ys:List (List PV)}{u:Value}{z:Nat}(r:VR (Mu M0 ρ σ.h) w ρ σ.h x u)(hx:asList σ.h x=some ys)(hz:∀e∈ys,e.length=z)(hz0:0<z):
 ∃(ad:Option Addr)(c:Nat)(news:List Value),u= .slice ad ys.length c∧news.length=ys.length*z∧(∀w',(∀b,b<w.heap.size→w'.heap[b]? =w.heap[b]?)→(Builtin.firstCells z ys.length u).run P w'= .ok news.toArray w')∧(∀v∈news,v.oneCell'=true)∧
  (∀(i:Nat)(e:List PV)(j:Nat)(p:PV),ys[i]? =some e→e[j]? =some p→∃v,news[i*z+j]? =some v∧ap (Mu M0 ρ σ.h) w p v)∧
  ∀(k:Nat)v,news[k]? =some v→∀b o c',u= .slice (some ⟨b,o,none⟩) ys.length c'→w.cell? ⟨b,o+k,none⟩=some v:=by
 by_cases hne:ys=[]
 ·obtain⟨ad,c,rfl⟩:=(sG s r hx).slice
  subst hne
  refine⟨ad,c,[],rfl,by simp,fun w' _=> ?_,by simp,fun i e j p he=>by simp at he,fun k v hv=>by simp at hv⟩
  cases ad with
  |none=>simp[Builtin.firstCells]
  |some ad=>simp[Builtin.firstCells,loadCells,loadCellsFrom]
 ·have hcs:∃b o c,u= .slice (some ⟨b,o,none⟩) ys.length c∧b<w.heap.size∧∀(i:Nat)(e:List PV)(j:Nat)(p:PV),ys[i]? =some e→e[j]? =some p→∃v,w.cell? ⟨b,o+i*z+j,none⟩=some v∧ap (Mu M0 ρ σ.h) w p v:=by
   unfold asList at hx
   split at hx
   ·rename_i l
    split at hx
    ·rename_i es' hvw
     cases hx
     by_cases hm:L.mut σ.h l=true
     ·cases l with
      |arr o=>
       obtain⟨r0,ob,hr0,hob,hs⟩:=r
       simp only[L.view,hob]at hvw
       simp only[L.mut,hob]at hm
       cases ob with
       |arr z' es=>
        simp at hvw
        subst hvw
        obtain⟨hz0',hes,kx⟩:=s.hr.objs o _ r0 hob hr0
        obtain⟨e0,es',he0⟩:=Xk hne
        have hzz:z'=z:=by
         have h1:=hes e0 (by rw[he0];simp)
         rw[←h1];exact hz e0 (by rw[he0];simp)
        subst hzz
        cases r0 with
        |none=>exact absurd kx hne
        |some b=>
         obtain⟨_,cur,cap,hrow,h1,h2,h3,h4⟩:=kx
         obtain⟨cur',cap',hrow',_,_,_,rfl⟩:=hs
         refine⟨b,0,_,rfl,hrow.lt,fun i e j p he hp=> ?_⟩
         obtain⟨v,hv,hr⟩:=h4 i e j p he hp
         exact⟨v,by rw[hrow.cell];simpa using hv,hr⟩
       |darr z' es=>
        simp at hvw
        subst hvw
        obtain⟨hz0',hes,kx⟩:=s.hr.objs o _ r0 hob hr0
        obtain⟨e0,es',he0⟩:=Xk hne
        have hzz:z'=z:=by
         have h1:=hes e0 (by rw[he0];simp)
         rw[←h1];exact hz e0 (by rw[he0];simp)
        subst hzz
        cases r0 with
        |none=>exact absurd kx hne
        |some b=>
         obtain⟨_,cur,cap,hrow,h1,h2,h3,h4⟩:=kx
         obtain⟨cur',cap',hrow',_,_,_,rfl⟩:=hs
         refine⟨b,0,_,rfl,hrow.lt,fun i e j p he hp=> ?_⟩
         obtain⟨v,hv,hr⟩:=h4 i e j p he hp
         exact⟨v,by rw[hrow.cell];simpa using hv,hr⟩
       |_=>simp at hm
      |_=>simp[L.mut]at hm
     ·obtain⟨b,o,c,e,_,hlt,hc⟩:=(mY s.hr r hvw (by simpa using hm)).cells hz hne
      exact⟨b,o,c,e,hlt,hc⟩
    ·cases hx
   ·cases hx
  obtain⟨b,o,c,rfl,hlt,hc⟩:=hcs
  have hcell:∀k,k<ys.length*z→∃v,w.cell? ⟨b,o+k,none⟩=some v∧v.oneCell'=true:=by
   intro k hk
   have hi:k/z<ys.length:=(Xm hz0).2 hk
   have hj:k%z<z:=Nat.mod_lt _ hz0
   have he:ys[k/z]? =some ys[k/z]:=by simp[hi]
   have hl:(ys[k/z]).length=z:=hz _ (Zg hi)
   obtain⟨v,hv,hr⟩:=hc (k/z) _ (k%z) ((ys[k/z])[k%z]'(by rw[hl];exact hj)) he (by simp[hl,hj])
   refine⟨v,?_,hr.one⟩
   rw[Xj,Yy,Nat.div_add_mod]at hv
   exact hv
  refine⟨_,c,(List.range (ys.length*z)).map fun k=>(w.cell? ⟨b,o+k,none⟩).getD undef,rfl,by simp,fun w' hw'=> ?_,fun v hv=> ?_,fun i e j p he hp=> ?_,fun k v hv b1 o1 c1 e1=> ?_⟩
  ·have:=run_loadCells_list (P:=P) w' ⟨b,o,none⟩ ((List.range (ys.length*z)).map fun k=>(w.cell? ⟨b,o+k,none⟩).getD undef) (fun j v hv=>by
    simp only[Zp,Zj]at hv
    obtain⟨k,hk,rfl⟩:=hv
    obtain⟨h1,h2⟩:=Zb.1 hk
    simp at h1 h2
    subst h2
    obtain⟨v,hv,_⟩:=hcell j h1
    rw[Addr.add_mid,World.cell?_of_block (a:=⟨b,o+j,none⟩) (hw' b hlt),hv]
    rfl)
   simp only[Zs,List.length_range]at this
   simp only[Builtin.firstCells]
   exact this
  ·obtain⟨k,hk,rfl⟩:=Yo.1 hv
   obtain⟨v,hv,h1⟩:=hcell k (by simpa using hk)
   rw[hv];exact h1
  ·obtain⟨v,hv,hr⟩:=hc i e j p he hp
   have hi:i<ys.length:=(Zb.1 he).1
   have hj:j<z:=by rw[←hz e (Zk he)];exact(Zb.1 hp).1
   have hlt':i*z+j<ys.length*z:=by
    calc i*z+j<i*z+z:=by omega
     _=(i+1)*z:=by rw[Z7,Yv]
     _≤ys.length*z:=Zx _ hi
   refine⟨v,?_,hr⟩
   rw[Xj]at hv
   simp[hlt',hv]
  ·cases e1
   simp only[Zp,Zj]at hv
   obtain⟨x,hx,rfl⟩:=hv
   obtain⟨h1,h2⟩:=Zb.1 hx
   simp at h1 h2
   subst h2
   obtain⟨v,hv,_⟩:=hcell k h1
   simp[hv]
theorem DH {t t' ty e:TypeId}{i:TypeInfo}(ht:P.underlying t=some (.slice e))(ht':P.underlying t'=some .string∨∃e',P.underlying t'=some (.slice e'))(hi:P.info? e=some i){g n cap m:Nat}{cur:Array Value}(hrow:gg w g cur){u:Value}(hu:∀w,(Builtin.lenOf u).run P w= .ok m w){news:List Value}
 (hl:news.length=m*i.size) (hf:(Builtin.firstCells i.size m u).run P w= .ok news.toArray w) (h1:∀v∈news,v.oneCell'=true) (hroom:n+m≤cap) (hfit:n*i.size+news.length≤cur.size):
 (Builtin.append_ #[t,t'] ty #[.slice (some ⟨g,0,none⟩) n cap,u]).run P w= .ok (.slice (some ⟨g,0,none⟩) (n+m) cap) (w.setCells g (n*i.size) news):=by
 have hst:=run_storeCells_cells (P:=P) g (n*i.size) news 0 w (fun j hj=>by
  rw[hrow.cell]
  have:n*i.size+j<cur.size:=by omega
  simp[this]) (fun j _=>hrow.free _) h1
 simp only[Y1]at hst
 have e0:(⟨g,0,none⟩:Addr).add (n*i.size)=⟨g,n*i.size,none⟩:=by rw[Addr.add_mid];simp
 rcases ht' with ht'|⟨e',ht'⟩
 ·simp[Builtin.append_,run_underlying ht,run_underlying ht',Go.sizeOf,typeInfo,hi,hu,hroom,hf,e0,hst]
 ·simp[Builtin.append_,run_underlying ht,run_underlying ht',Go.sizeOf,typeInfo,hi,hu,hroom,hf,e0,hst]
theorem J5 {ad:Option Addr}{t t' ty e:TypeId}{i:TypeInfo}(ht:P.underlying t=some (.slice e))(ht':P.underlying t'=some .string∨∃e',P.underlying t'=some (.slice e'))(hi:P.info? e=some i){u:Value}(hu:∀w,(Builtin.lenOf u).run P w= .ok 0 w)(hf:(Builtin.firstCells i.size 0 u).run P w= .ok #[] w):
 (Builtin.append_ #[t,t'] ty #[.slice ad 0 0,u]).run P w= .ok (.slice ad 0 0) w:=by
 rcases ht' with ht'|⟨e',ht'⟩<;>cases ad<;>simp[Builtin.append_,run_underlying ht,run_underlying ht',Go.sizeOf,typeInfo,hi,hu,hf,storeCells]
theorem DG {t t' ty e:TypeId}{i:TypeInfo}{z:Value}(ht:P.underlying t=some (.slice e))(ht':P.underlying t'=some .string∨∃e',P.underlying t'=some (.slice e'))(hi:P.info? e=some i)(hz:i.zero=some z){s:Value}{bs:Option Addr}{n cap m:Nat}(hs:s= .slice bs n cap){u:Value}(hu:∀w,(Builtin.lenOf u).run P w= .ok m w)
 {olds news:List Value} (hfo:(Builtin.firstCells i.size n s).run P w.drew= .ok olds.toArray w.drew) (hf:(Builtin.firstCells i.size m u).run P w.drew= .ok news.toArray w.drew)
 (hg:cap<n+m) (h63:n+m≤9223372036854775807) (hfit:(n+m)*i.bytes≤140737488355328):
 (Builtin.append_ #[t,t'] ty #[s,u]).run P w= .ok (.slice (some ⟨w.heap.size,0,none⟩) (n+m) (grownCap w (n+m) cap e))
  (w.drew.alloc (.cells (olds.toArray++news.toArray++Builtin.zeroCells z.cells (grownCap w (n+m) cap e-(n+m))) e)):=by
 have hn:¬(n+m≤cap):=by omega
 have h63':¬(9223372036854775807<((n:Int)+(m:Int))):=by omega
 have h48':¬(281474976710656<Builtin.nextslicecap (n+m) cap*i.bytes):=by have:=growslice_fits hg hfit;omega
 subst hs
 rcases ht' with ht'|⟨e',ht'⟩
 ·simp[Builtin.append_,run_underlying ht,run_underlying ht',Go.sizeOf,typeInfo,zeroValue,hi,hz,hu,hn,h63',h48',Question.forced,hf,hfo,newRow,grownCap]
  congr 2
  apply Array.ext'
  simp[Zo]
 ·simp[Builtin.append_,run_underlying ht,run_underlying ht',Go.sizeOf,typeInfo,zeroValue,hi,hz,hu,hn,h63',h48',Question.forced,hf,hfo,newRow,grownCap]
  congr 2
  apply Array.ext'
  simp[Zo]
theorem B6 {M:Nat→Prop}{z:Nat}{es ys:List (List PV)}{cur:List Value}(hes:∀e∈es,e.length=z)
 (h1:∀(i:Nat)(e:List PV)(j:Nat)(p:PV),es[i]? =some e→e[j]? =some p→∃v,cur[i*z+j]? =some v∧ap M w p v)
 (h2:∀(i:Nat)(e:List PV)(j:Nat)(p:PV),ys[i]? =some e→e[j]? =some p→∃v,cur[(es.length+i)*z+j]? =some v∧ap M w p v):
 ∀(i:Nat)(e:List PV)(j:Nat)(p:PV),(es++ys)[i]? =some e→e[j]? =some p→∃v,cur[i*z+j]? =some v∧ap M w p v:=by
 intro i e j p he hp
 by_cases hi:i<es.length
 ·rw[Ze hi]at he
  exact h1 i e j p he hp
 ·rw[Zh (by omega)]at he
  have:=h2 _ e j p he hp
  rwa[show es.length+(i-es.length)=i by omega]at this
def TN (w w':World)(ρ ρ':List (Option Nat))(r0:Option Nat)(z n:Nat)(news:List Value):Prop:=
 ∃r',ρ'=ρ++[r']∧(∀b',r'=some b'→(r0=some b'∨w.heap.size≤b')∧(∀c,c<n*z→∀b0,r0=some b0→w'.cell? ⟨b',c,none⟩=w.cell? ⟨b0,c,none⟩)∧
  (∀(c:Nat)v,news[c]? =some v→w'.cell? ⟨b',n*z+c,none⟩=some v))∧(∀b,b<w.heap.size→r0≠some b→w'.heap[b]? =w.heap[b]?)
def sF [KF](P:Program)(M0:Nat→Prop)(base:Nat)(σ:St)(w:World)(ρ:List (Option Nat))(v:V)(h':List AObj)(s:Sem Next)(E:World→List (Option Nat)→Prop):Prop:=
 ∃n u w' ρ',s.run P w= .ok n w'∧(n= .value u∨(n= .skip∧u=undef))∧Below base w w'∧HR M0 base w' ρ' h'∧Ch (Mu M0 ρ σ.h) (Mu M0 ρ' h') w w' ρ ρ' σ.h h'∧VR (Mu M0 ρ' h') w' ρ' h' v u∧E w' ρ'
theorem sF.turns {v:V}{h':List AObj}{s:Sem Next}{E:World→List (Option Nat)→Prop}(t:sF P M0 base σ w ρ v h' s E):jC P M0 base σ w ρ v h' s:=by
 obtain⟨n,u,w',ρ',h1,h2,h3,h4,h5,h6,_⟩:=t
 exact⟨n,u,w',ρ',h1,h2,h3,h4,h5,h6⟩
theorem append_nil (s:SR Γ M0 base σ a w ρ){o:Oper}{t t' e:TypeId}{i:TypeInfo}{v0:Value}{ox oy:Operand}{ys:List (List PV)}{news:List Value}(hu:P.underlying t=some (.slice e))(ht':P.underlying t'=some .string∨∃e',P.underlying t'=some (.slice e'))(hi:P.info? e=some i)(hz':i.zero=some v0)(hv0:v0.cells.size=i.size)
 (aq:∀{r:Value}{w':World},(Builtin.append_ #[t,t'] o.type #[a.eval ox,a.eval oy]).run P w= .ok r w'→(execOp a.eval o).run P w= .ok (.value r) w') (hlen:∀w,(Builtin.lenOf (a.eval oy)).run P w= .ok ys.length w) (hyz:∀e∈ys,e.length=i.size) (hz0:0<i.size) (hnl:news.length=ys.length*i.size)
 (hfirst:∀w',(∀b,b<w.heap.size→w'.heap[b]? =w.heap[b]?)→(Builtin.firstCells i.size ys.length (a.eval oy)).run P w'= .ok news.toArray w') (hones:∀v∈news,v.oneCell'=true)
 (hrows:∀(i':Nat)(e:List PV)(j:Nat)(p:PV),ys[i']? =some e→e[j]? =some p→∃v,news[i'*i.size+j]? =some v∧ap (Mu M0 ρ σ.h) w p v)
 (rx:∃ad,a.eval ox= .slice ad 0 0) (hbytes:ys.length*i.bytes≤140737488355328) (h63:ys.length≤9223372036854775807):
 sF P M0 base σ w ρ (.one (.arr σ.h.length)) (σ.h++[.arr i.size ys]) (execOp a.eval o) (fun w' ρ'=>TN w w' ρ ρ' none i.size 0 news):=by
 obtain⟨ad,ex⟩:=rx
 by_cases hy0:ys=[]
 ·subst hy0
  have hn0:news=[]:=List.eq_nil_of_length_eq_zero (by simpa using hnl)
  subst hn0
  have hr:=J5 (ad:=ad) (P:=P) (ty:=o.type) (w:=w) hu ht' hi hlen (hfirst w (fun _ _=>rfl))
  obtain⟨g1,g2⟩:=s.hr.push (w':=w) (Zl _) (fun _ _=>rfl) none (.arr i.size []) (fun b e=>by cases e) (fun _=>⟨hz0,by simp,by trivial⟩)
  refine⟨_,_,_,_,aq (by rw[ex];exact hr), .inl rfl,Below.refl _ _,g1,g2,⟨none, .arr i.size [],?_,by simp,_,rfl⟩,none,rfl,fun b' e=>(by cases e),fun _ _ _=>rfl⟩
  rw[←s.hr.len];simp
 ·have hpos:0<ys.length:=List.length_pos_iff.2 hy0
  have hr:=DG (P:=P) (ty:=o.type) (w:=w) hu ht' hi hz' ex hlen (olds:=[]) (by rw[ex];cases ad<;>simp[Builtin.firstCells,loadCells,loadCellsFrom]) (hfirst w.drew (fun _ _=>rfl)) (by omega) (by omega) (by simpa using hbytes)
  simp only[Yc]at hr
  have hcap:=grownCap_ge w ys.length 0 e
  have hcm:=grownCap_le_maxLen w ys.length 0 e (by simp only[maxLen];omega)
  obtain⟨g1,g2,g3⟩:=Jc (h:=σ.h) s.hr (w':=w.drew.alloc (.cells ((([]:List Value)).toArray++news.toArray++Builtin.zeroCells v0.cells (grownCap w ys.length 0 e-ys.length)) e)) (by simp)
   (fun b hb=>fg w.drew _ b hb) (z:=i.size) (cap:=grownCap w ys.length 0 e) (es:=ys) hz0 hyz (gg.new w.drew _ e)
   (by
    simp only[Array.size_append,List.size_toArray,size_zeroCells,hv0,hnl,Z8,Yc,←Z7]
    congr 1;omega) hcap hcm
   (fun i' e' j p he' hp=>by
    obtain⟨v,hv,hrd⟩:=hrows i' e' j p he' hp
    refine⟨v,?_,hrd⟩
    have hlt:=(Zb.1 hv).1
    rw[Yn (by simpa using hlt)]
    simpa using hv)
  refine⟨_,_,_,_,aq hr, .inl rfl,⟨rfl,rfl,rfl,by simp,fun k hk=>fg w.drew _ k (Z3 hk s.hr.le)⟩,g1,g2,g3,_,rfl,fun b' e=> ?_,fun b hb _=>fg w.drew _ b hb⟩
  cases e
  refine⟨.inr (Zl _),fun c _ b0 e=>(by cases e),fun c v hv=> ?_⟩
  rw[gg.cell (show gg _ w.heap.size _ from gg.new w.drew _ e)]
  have hlt:=(Zb.1 hv).1
  rw[Nat.zero_mul,Yc,Yn (by simpa using hlt)]
  simpa using hv
theorem wv (s:SR Γ M0 base σ a w ρ){o:Oper}{t t' e:TypeId}{i:TypeInfo}{v0:Value}{ox oy:Operand}{ys:List (List PV)}{news:List Value}(hu:P.underlying t=some (.slice e))(ht':P.underlying t'=some .string∨∃e',P.underlying t'=some (.slice e'))(hi:P.info? e=some i)(hz':i.zero=some v0)(hv0:v0.cells.size=i.size)
 (aq:∀{r:Value}{w':World},(Builtin.append_ #[t,t'] o.type #[a.eval ox,a.eval oy]).run P w= .ok r w'→(execOp a.eval o).run P w= .ok (.value r) w') (hlen:∀w,(Builtin.lenOf (a.eval oy)).run P w= .ok ys.length w) (hyz:∀e∈ys,e.length=i.size) (hz0:0<i.size) (hnl:news.length=ys.length*i.size)
 (hfirst:∀w',(∀b,b<w.heap.size→w'.heap[b]? =w.heap[b]?)→(Builtin.firstCells i.size ys.length (a.eval oy)).run P w'= .ok news.toArray w') (hones:∀v∈news,v.oneCell'=true)
 (hrows:∀(i':Nat)(e:List PV)(j:Nat)(p:PV),ys[i']? =some e→e[j]? =some p→∃v,news[i'*i.size+j]? =some v∧ap (Mu M0 ρ σ.h) w p v)
 {ob:Nat} {es:List (List PV)} (hob:σ.h[ob]? =some (.arr i.size es)) (rx:LR (Mu M0 ρ σ.h) w ρ σ.h (.arr ob) (a.eval ox)) (hbytes:(es.length+ys.length)*i.bytes≤140737488355328) (h63:es.length+ys.length≤9223372036854775807):
 sF P M0 base σ w ρ (.one (.arr σ.h.length)) (σ.h.set ob .dead++[.arr i.size (es++ys)]) (execOp a.eval o) (fun w' ρ'=>∃r0,ρ[ob]? =some r0∧TN w w' ρ ρ' r0 i.size es.length news):=by
 obtain⟨r0,ob0,hr0,hob0,hsl⟩:=rx
 rw[hob]at hob0;cases hob0
 obtain⟨_,hes,kx⟩:=s.hr.objs ob _ r0 hob hr0
 have hall:∀e∈es++ys,e.length=i.size:=fun e1 he1=>by
  rcases Yw.1 he1 with h1|h1
  ·exact hes e1 h1
  ·exact hyz e1 h1
 have hid:∀(r1:Option Nat),(ρ++[r1])[σ.h.length]? =some r1:=fun r1=>by rw[←s.hr.len];simp
 have hob':∀ob1,(σ.h.set ob .dead++[ob1])[σ.h.length]? =some ob1:=fun ob1=>by
  rw[Zh (by simp)];simp
 have grow:∀{bs:Option Addr}{cap:Nat}{olds:List Value},a.eval ox= .slice bs es.length cap→cap<es.length+ys.length→olds.length=es.length*i.size→
  (Builtin.firstCells i.size es.length (a.eval ox)).run P w.drew= .ok olds.toArray w.drew→
  (∀(i':Nat)(e:List PV)(j:Nat)(p:PV),es[i']? =some e→e[j]? =some p→∃v,olds[i'*i.size+j]? =some v∧ap (Mu M0 ρ σ.h) w p v)→
  (∀c,c<es.length*i.size→∀b0,r0=some b0→olds[c]? =w.cell? ⟨b0,c,none⟩)→
  sF P M0 base σ w ρ (.one (.arr σ.h.length)) (σ.h.set ob .dead++[.arr i.size (es++ys)]) (execOp a.eval o) (fun w' ρ'=>∃r0,ρ[ob]? =some r0∧TN w w' ρ ρ' r0 i.size es.length news):=by
  intro bs cap olds ex hlt hol hof horow hocell
  have hr:=DG (P:=P) (ty:=o.type) (w:=w) hu ht' hi hz' ex hlen (by rw[ex]at hof⊢;exact hof) (hfirst w.drew (fun _ _=>rfl)) hlt (by omega) hbytes
  have hcap:=grownCap_ge w (es.length+ys.length) cap e
  have hcm:=grownCap_le_maxLen w (es.length+ys.length) cap e (by simp only[maxLen];omega)
  obtain⟨k2,c2⟩:=s.hr.upd (w':=w) (ob':= .dead) hob hr0 rfl trivial rfl (fun _ _=>rfl) (fun b cur _ hrw=>⟨cur,hrw,rfl⟩) (fun _=>trivial)
  obtain⟨g1,g2,g3⟩:=Jc (h:=σ.h.set ob .dead) k2 (w':=w.drew.alloc (.cells (olds.toArray++news.toArray++Builtin.zeroCells v0.cells (grownCap w (es.length+ys.length) cap e-(es.length+ys.length))) e)) (by simp)
   (fun b hb=>fg w.drew _ b hb) (z:=i.size) (cap:=grownCap w (es.length+ys.length) cap e) (es:=es++ys) hz0 hall (gg.new w.drew _ e)
   (by
    simp only[Array.size_append,List.size_toArray,size_zeroCells,hv0,hnl,hol,←Z7]
    congr 1;omega) (by simpa using hcap) hcm
   (fun i' e' j p he' hp=>by
    have key:=B6 (M:=Mu M0 ρ σ.h) (w:=w) (z:=i.size) (es:=es) (ys:=ys) (cur:=olds++news) hes
     (fun i1 e1 j1 p1 h1 h2=>by
      obtain⟨v,hv,hrd⟩:=horow i1 e1 j1 p1 h1 h2
      exact⟨v,by rw[Ze (Zb.1 hv).1];exact hv,hrd⟩)
     (fun i1 e1 j1 p1 h1 h2=>by
      obtain⟨v,hv,hrd⟩:=hrows i1 e1 j1 p1 h1 h2
      refine⟨v,?_,hrd⟩
      rw[Zh (by rw[hol,Z7];omega),hol]
      rw[show(es.length+i1)*i.size+j1-es.length*i.size=i1*i.size+j1 by rw[Z7];omega]
      exact hv) i' e' j p he' hp
    obtain⟨v,hv,hrd⟩:=key
    refine⟨v,?_,ap.go c2.go p v hrd⟩
    have hlt:=(Zb.1 hv).1
    rw[Yn (by simpa using hlt)]
    simpa using hv)
  refine⟨_,_,_,_,aq hr, .inl rfl,⟨rfl,rfl,rfl,by simp,fun k hk=>fg w.drew _ k (Z3 hk s.hr.le)⟩,g1,c2.trans g2,by simpa using g3,r0,hr0,_,rfl,fun b' e=> ?_,fun b hb _=>fg w.drew _ b hb⟩
  cases e
  refine⟨.inr (Zl _),fun c hc b0 e0=> ?_,fun c v hv=> ?_⟩
  ·rw[gg.cell (show gg _ w.heap.size _ from gg.new w.drew _ e),←hocell c hc b0 e0,Yn (by simp[hol];omega),Yn (by simp[hol];omega)]
   simp
  ·rw[gg.cell (show gg _ w.heap.size _ from gg.new w.drew _ e)]
   have hlt:=(Zb.1 hv).1
   rw[Yn (by simp[hol];omega),Array.getElem?_append_right (by simp[hol])]
   simp[hol,hv]
 cases r0 with
 |none=>
  obtain rfl:es=[]:=kx
  obtain⟨ad,ex⟩:=hsl
  by_cases hy0:ys=[]
  ·subst hy0
   have hn0:news=[]:=List.eq_nil_of_length_eq_zero (by simpa using hnl)
   subst hn0
   have hr:=J5 (ad:=ad) (P:=P) (ty:=o.type) (w:=w) hu ht' hi hlen (hfirst w (fun _ _=>rfl))
   obtain⟨g1,g2⟩:=s.hr.rename (es':=[]) hob hr0 (fun _=>⟨hz0,by simp,by trivial⟩)
   exact⟨_,_,_,_,aq (by rw[ex];exact hr), .inl rfl,Below.refl _ _,g1,g2,⟨none, .arr i.size [],hid none,hob' _,_,rfl⟩,none,hr0,none,rfl,fun b' e=>(by cases e),fun _ _ _=>rfl⟩
  ·have hpos:0<ys.length:=List.length_pos_iff.2 hy0
   exact grow (olds:=[]) (by simpa using ex) (by simpa using hpos) (by simp) (by rw[ex];cases ad<;>simp[Builtin.firstCells,loadCells,loadCellsFrom]) (fun i1 e1 j1 p1 h1=>by simp at h1) (fun c hc=>by simp at hc)
 |some b=>
  obtain⟨hbase,cur,cap,hrow,h1,h2,h3,h4⟩:=kx
  obtain⟨cur',cap',hrow',h1',h2',h3',ex⟩:=hsl
  cases hrow.inj hrow'
  have hcap:cap'=cap:=Yi hz0 (h1'.symm.trans h1)
  subst hcap
  by_cases hroom:es.length+ys.length≤cap'
  ·have hfit:es.length*i.size+news.length≤cur.size:=by
    rw[hnl,h1,←Z7];exact Zx _ hroom
   have hr:=DH (P:=P) (ty:=o.type) (w:=w) hu ht' hi hrow hlen hnl (hfirst w (fun _ _=>rfl)) hones hroom hfit
   obtain⟨cur2,hrow2,hsz2,hget2⟩:=de b news (es.length*i.size) w cur hrow hfit
   have hold:∀(i1:Nat)(e1:List PV)(j1:Nat),es[i1]? =some e1→j1<e1.length→cur2[i1*i.size+j1]? =cur[i1*i.size+j1]? :=by
    intro i1 e1 j1 he1 hj1
    rw[hget2,if_neg]
    have hi1:i1<es.length:=(Zb.1 he1).1
    rw[hes e1 (Zk he1)]at hj1
    have:i1*i.size+j1<es.length*i.size:=by
     calc i1*i.size+j1<i1*i.size+i.size:=by omega
      _=(i1+1)*i.size:=by rw[Z7,Yv]
      _≤es.length*i.size:=Zx _ hi1
    omega
   obtain⟨k2,c2⟩:=s.hr.upd (w':=w.setCells b (es.length*i.size) news) (ob':= .arr i.size es) hob hr0 rfl ⟨rfl,rfl⟩ (cr b _ _ w).symm
    (fun k hk=>co b _ _ w k (fun e=>hk (by rw[e])))
    (fun k c e hrw=>by cases e;rw[hrw.inj hrow];exact⟨cur2,hrow2,hsz2⟩)
    (fun c=>⟨hz0,hes,hbase,cur2,cap',hrow2,by rw[hsz2];exact h1,h2,h3,fun i1 e1 j1 p1 he1 hp1=>by
     obtain⟨v,hv,hrd⟩:=h4 i1 e1 j1 p1 he1 hp1
     exact⟨v,by rw[hold i1 e1 j1 he1 (Zb.1 hp1).1];exact hv,ap.go c.go p1 v hrd⟩⟩)
   have hset:σ.h.set ob (.arr i.size es)=σ.h:=by
    apply Xf
    intro k
    by_cases hk:ob=k
    ·subst hk
     rw[Zd (Zb.1 hob).1,hob]
    ·rw[Za hk]
   rw[hset]at k2 c2
   obtain⟨g1,g2⟩:=k2.rename (es':=es++ys) hob hr0 (fun mu=>by
    refine⟨hz0,hall,hbase,cur2,cap',hrow2,by rw[hsz2];exact h1,by simpa using hroom,h3,fun i1 e1 j1 p1 he1 hp1=> ?_⟩
    have key:=B6 (M:=Mu M0 ρ σ.h) (w:=w.setCells b (es.length*i.size) news) (z:=i.size) (es:=es) (ys:=ys) (cur:=cur2.toList) hes
     (fun i1 e1 j1 p1 q1 q2=>by
      obtain⟨v,hv,hrd⟩:=h4 i1 e1 j1 p1 q1 q2
      exact⟨v,by rw[Xl,hold i1 e1 j1 q1 (Zb.1 q2).1];exact hv,ap.go c2.go p1 v hrd⟩)
     (fun i1 e1 j1 p1 q1 q2=>by
      obtain⟨v,hv,hrd⟩:=hrows i1 e1 j1 p1 q1 q2
      refine⟨v,?_,ap.go c2.go p1 v hrd⟩
      have hlt:=(Zb.1 hv).1
      rw[Xl,hget2,show(es.length+i1)*i.size+j1=es.length*i.size+(i1*i.size+j1) by rw[Z7];omega,if_pos (by omega)]
      rw[show es.length*i.size+(i1*i.size+j1)-es.length*i.size=i1*i.size+j1 by omega]
      exact hv) i1 e1 j1 p1 he1 hp1
    obtain⟨v,hv,hrd⟩:=key
    exact⟨v,by simpa using hv,hrd.weak mu⟩)
   refine⟨_,_,_,_,aq (by rw[ex];exact hr), .inl rfl,bN b base hbase _ _ w w (Below.refl _ _),g1,c2.trans g2,⟨some b,_,hid _,hob' _,cur2,cap',hrow2,by rw[hsz2];exact h1,by simpa using hroom,h3,by simp⟩,some b,hr0,some b,rfl,fun b' e=> ?_,fun b' _ hne=>co b _ _ w b' (fun e=>hne (by rw[e]))⟩
   cases e
   refine⟨.inl rfl,fun c hc b0 e0=> ?_,fun c v hv=> ?_⟩
   ·cases e0
    rw[hrow2.cell,hrow.cell,hget2,if_neg (by omega)]
   ·have hlt:=(Zb.1 hv).1
    rw[hrow2.cell,hget2,if_pos (by omega),show es.length*i.size+c-es.length*i.size=c by omega]
    exact hv
  ·have hol:((cur.toList.take (es.length*i.size))).length=es.length*i.size:=by
    have:es.length*i.size≤cur.size:=by rw[h1];exact Zx _ h2
    simp;omega
   refine grow (olds:=cur.toList.take (es.length*i.size)) ex (by omega) hol ?_ (fun i1 e1 j1 p1 he1 hp1=> ?_) (fun c hc b0 e0=>by cases e0;rw[hrow.cell,Z4,if_pos hc];simp)
   ·have:=run_loadCells_list (P:=P) w.drew ⟨b,0,none⟩ (cur.toList.take (es.length*i.size)) (fun j v hv=>by
     rw[Addr.add_mid]
     have:(w.drew).cell? ⟨b,0+j,none⟩=w.cell? ⟨b,0+j,none⟩:=rfl
     rw[this,hrow.cell]
     rw[Z4]at hv
     split at hv
     ·simpa using hv
     ·cases hv)
    rw[hol]at this
    rw[ex]
    simp only[Builtin.firstCells]
    exact this
   ·obtain⟨v,hv,hrd⟩:=h4 i1 e1 j1 p1 he1 hp1
    refine⟨v,?_,hrd⟩
    have hi1:i1<es.length:=(Zb.1 he1).1
    have hj1:=(Zb.1 hp1).1
    rw[hes e1 (Zk he1)]at hj1
    have:i1*i.size+j1<es.length*i.size:=by
     calc i1*i.size+j1<i1*i.size+i.size:=by omega
      _=(i1+1)*i.size:=by rw[Z7,Yv]
      _≤es.length*i.size:=Zx _ hi1
    rw[Z4,if_pos this]
    simpa using hv
theorem Ip (s:SR Γ M0 base σ a w ρ){o:Oper}{d:Md}{v:V}{h':List AObj}{call:Nat→List V→Option V}{c:Call}{z bytes:Nat}{x y:Opd}(hop:o.op= .call c)
 (hc:eV P kf d o.op=some (.append z bytes x y)) (he:cf call σ (.append z bytes x y)=some (v,h')):jC P M0 base σ w ρ v h' (execOp a.eval o):=by
 rw[hop]at hc;simp only[eV]at hc
 split at hc
 ·split at hc
  ·(repeat' (split at hc))<;>cases hc
  ·cases hc
 ·(repeat' (split at hc))<;>cases hc
 ·split at hc
  ·(repeat' (split at hc))<;>cases hc
  ·cases hc
 ·rename_i hcal
  split at hc
  ·rename_i ox oy t u hargs htys
   split at hc
   ·rename_i e e' x0 y0 ht _ hx hy
    split at hc
    ·rename_i z0 b0 v0 hsz hby hz
     split at hc
     ·rename_i hcond
      obtain⟨hv0,rfl⟩:=hcond
      cases hc
      obtain⟨i,hi,hz',hs',hb'⟩:∃i,P.info? e=some i∧i.zero=some v0∧i.size=z∧i.bytes=bytes:=by
       unfold m4 at hz;unfold o7 at hsz;unfold NQ at hby
       cases hi:P.info? e with
       |none=>simp[hi]at hz
       |some i=>simp[hi]at hz hsz hby;exact⟨i,rfl,hz,hsz,hby⟩
      subst hs' hb'
      have hu:P.underlying t=some (.slice e):=by
       unfold gJ at ht
       split at ht<;>cases ht
       assumption
      have aq:∀{r:Value}{w':World},(Builtin.append_ #[t,t] o.type #[a.eval ox,a.eval oy]).run P w= .ok r w'→(execOp a.eval o).run P w= .ok (.value r) w':=by
       intro r w' hr
       have e2:c.args.map a.eval= #[a.eval ox,a.eval oy]:=Array.ext' (by rw[Yj,hargs];rfl)
       have e3:c.argTypes= #[t,t]:=Array.ext' htys
       simp only[execOp,hop,resolve,hcal,Sem.run_bind,Sem.run_pure,Result.andThen_ok,invoke,e3,e2,builtin,hr]
      have rx:=aw s hx
      have ry:=aw s hy
      have ht':P.underlying t=some .string∨∃e',P.underlying t=some (.slice e'):= .inr ⟨e,hu⟩
      simp only[cf]at he
      split at he
      ·
       rename_i ys hxe hys
       rw[hxe]at rx
       split at he
       ·rename_i hchk
        simp only[Zm,decide_eq_true_eq,Zw,beq_iff_eq]at hchk
        obtain⟨⟨⟨hyz,hz0⟩,hbytes⟩,h63⟩:=hchk
        cases he
        obtain⟨ad,cc,news,ey,hnl,hfirst,hones,hrows,_⟩:=src (P:=P) s ry hys hyz hz0
        exact sF.turns (append_nil s hu ht' hi hz' hv0 aq (by intro w;rw[ey];rfl) hyz hz0 hnl hfirst hones hrows rx hbytes h63)
       ·cases he
      ·rename_i ob ys hxe hys
       rw[hxe]at rx
       split at he
       ·rename_i z' es hob
        split at he
        ·rename_i hchk
         obtain⟨rfl,hyz',hbytes,h63,hna⟩:=hchk
         have hyz:∀e∈ys,e.length=i.size:=by simpa using hyz'
         cases he
         obtain⟨r0,hr0⟩:=s.hr.mem hob
         obtain⟨hz0,hes,kx⟩:=s.hr.objs ob _ r0 hob hr0
         obtain⟨ad,cc,news,ey,hnl,hfirst,hones,hrows,_⟩:=src (P:=P) s ry hys hyz hz0
         exact sF.turns (wv s hu ht' hi hz' hv0 aq (by intro w;rw[ey];rfl) hyz hz0 hnl hfirst hones hrows hob rx hbytes h63)
        ·cases he
       ·cases he
      ·cases he
     ·cases hc
    ·cases hc
   ·(repeat' (split at hc))<;>cases hc
   ·cases hc
  ·cases hc
 ·split at hc
  ·(repeat' (split at hc))<;>cases hc
  ·cases hc
 ·split at hc
  ·(repeat' (split at hc))<;>cases hc
  ·cases hc
 ·cases hc
theorem Jd {M:Nat→Prop}(st:List UInt8):∀(i':Nat)(e:List PV)(j:Nat)(p:PV),(ag st)[i']? =some e→e[j]? =some p→∃v,(st.map fun b=>Value.int .u8 b.toNat)[i'*1+j]? =some v∧ap M w p v:=by
 intro i' e j p he hp
 simp only[ag,Zp,Zj]at he
 obtain⟨b,hb,rfl⟩:=he
 cases j with
 |zero=>simp at hp;subst hp;exact⟨.int .u8 b.toNat,by simp[hb],by simp[ap]⟩
 |succ j=>simp at hp
theorem Gt (s:SR Γ M0 base σ a w ρ){o:Oper}{d:Md}{v:V}{h':List AObj}{call:Nat→List V→Option V}{c:Call}{bytes:Nat}{x y:Opd}(hop:o.op= .call c)
 (hc:eV P kf d o.op=some (.appendS bytes x y)) (he:cf call σ (.appendS bytes x y)=some (v,h')):jC P M0 base σ w ρ v h' (execOp a.eval o):=by
 rw[hop]at hc;simp only[eV]at hc
 split at hc
 ·split at hc
  ·(repeat' (split at hc))<;>cases hc
  ·cases hc
 ·(repeat' (split at hc))<;>cases hc
 ·split at hc
  ·(repeat' (split at hc))<;>cases hc
  ·cases hc
 ·rename_i hcal
  split at hc
  ·rename_i ox oy t u hargs htys
   split at hc
   ·split at hc
    ·(repeat' (split at hc))<;>cases hc
    ·cases hc
   ·rename_i e x0 y0 ht hstr hx hy
    split at hc
    ·rename_i b0 hue hsz hby hz
     cases hc
     obtain⟨i,hi,hz',hs',hb'⟩:∃i,P.info? e=some i∧i.zero=some (.int .u8 0)∧i.size=1∧i.bytes=bytes:=by
      unfold m4 at hz;unfold o7 at hsz;unfold NQ at hby
      cases hi:P.info? e with
      |none=>simp[hi]at hz
      |some i=>simp[hi]at hz hsz hby;exact⟨i,rfl,hz,hsz,hby⟩
     have hu:P.underlying t=some (.slice e):=by
      unfold gJ at ht
      split at ht<;>cases ht
      assumption
     have aq:∀{r:Value}{w':World},(Builtin.append_ #[t,u] o.type #[a.eval ox,a.eval oy]).run P w= .ok r w'→(execOp a.eval o).run P w= .ok (.value r) w':=by
      intro r w' hr
      have e2:c.args.map a.eval= #[a.eval ox,a.eval oy]:=Array.ext' (by rw[Yj,hargs];rfl)
      have e3:c.argTypes= #[t,u]:=Array.ext' htys
      simp only[execOp,hop,resolve,hcal,Sem.run_bind,Sem.run_pure,Result.andThen_ok,invoke,e3,e2,builtin,hr]
     have rx:=aw s hx
     have ry:=aw s hy
     have facts:∀{st:List UInt8},isStr (y.ev σ)=some st→(∀w,(Builtin.lenOf (a.eval oy)).run P w= .ok (ag st).length w)∧(∀w':World,(∀b,b<w.heap.size→w'.heap[b]? =w.heap[b]?)→(Builtin.firstCells i.size (ag st).length (a.eval oy)).run P w'= .ok (st.map fun b=>Value.int .u8 b.toNat).toArray w'):=by
      intro st hst
      have ey:=ry.str hst
      have hl:(ag st).length=st.length:=by simp[ag]
      rw[ey,hl]
      refine⟨fun w=>by simp[Builtin.lenOf,ByteArray.size],fun w' _=> ?_⟩
      have hex:(⟨st.toArray⟩:ByteArray).extract 0 st.length=⟨st.toArray⟩:=by
       apply ByteArray.ext
       simp[ByteArray.data_extract]
      simp[Builtin.firstCells,hex]
     have hl:∀st:List UInt8,(ag st).length=st.length:=fun st=>by simp[ag]
     have hyz:∀(st:List UInt8),∀e∈ag st,e.length=i.size:=fun st e' he'=>by
      rw[hs']
      simp only[ag,Yo]at he'
      obtain⟨b,_,rfl⟩:=he'
      rfl
     have hrw:∀(st:List UInt8)(i':Nat)(e:List PV)(j:Nat)(p:PV),(ag st)[i']? =some e→e[j]? =some p→∃v,(st.map fun b=>Value.int .u8 b.toNat)[i'*i.size+j]? =some v∧ap (Mu M0 ρ σ.h) w p v:=fun st=>by rw[hs'];exact Jd st
     have hon:∀(st:List UInt8),∀v∈(st.map fun b=>Value.int .u8 b.toNat),v.oneCell'=true:=fun st v hv=>by
      obtain⟨b,_,rfl⟩:=Yo.1 hv
      rfl
     have hsz1:(Value.int .u8 0).cells.size=i.size:=by rw[hs'];rfl
     simp only[cf]at he
     split at he
     ·rename_i st hxe hst
      rw[hxe]at rx
      split at he
      ·rename_i hchk
       obtain⟨hb,h63⟩:=hchk
       cases he
       obtain⟨f1,f2⟩:=facts hst
       have:=sF.turns (append_nil s (ys:=ag st) (news:=st.map fun b=>Value.int .u8 b.toNat) hu (.inl hstr) hi hz' hsz1 aq f1 (hyz st) (by omega) (by simp[hl,hs']) f2 (hon st) (hrw st) rx (by rw[hl,hb'];exact hb) (by rw[hl];exact h63))
       rwa[hs']at this
      ·cases he
     ·rename_i ob st hxe hst
      rw[hxe]at rx
      split at he
      ·rename_i z' es hob
       split at he
       ·rename_i hchk
        obtain⟨rfl,hb,h63⟩:=hchk
        cases he
        obtain⟨f1,f2⟩:=facts hst
        rw[←hs']at hob
        have:=sF.turns (wv s (ys:=ag st) (news:=st.map fun b=>Value.int .u8 b.toNat) hu (.inl hstr) hi hz' hsz1 aq f1 (hyz st) (by omega) (by simp[hl,hs']) f2 (hon st) (hrw st) hob rx (by rw[hl,hb'];exact hb) (by rw[hl];exact h63))
        rwa[hs']at this
       ·cases he
      ·cases he
     ·cases he
    ·cases hc
   ·cases hc
  ·cases hc
 ·split at hc
  ·(repeat' (split at hc))<;>cases hc
  ·cases hc
 ·split at hc
  ·(repeat' (split at hc))<;>cases hc
  ·cases hc
 ·cases hc
end
end Gi
