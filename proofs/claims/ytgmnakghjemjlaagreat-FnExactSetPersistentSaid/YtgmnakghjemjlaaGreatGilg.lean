/- Of this proof. -/
import Derived.Test.YtgmnakghjemjlaaGreatGilf
set_option linter.unusedSimpArgs false
set_option linter.unusedVariables false
namespace Gi
open Go Go.RowKit
variable {KI:KF}
theorem AObj.unz_mut (ob:AObj):ob.unz.mut=ob.mut:=by cases ob<;>rfl
theorem AObj.unz_deep (ob:AObj):ob.unz.deep=ob.deep:=by cases ob<;>rfl
theorem lC {h:List AObj}{i:Nat}{x:AObj}(e:(lent h)[i]? =some x):∃ob,h[i]? =some ob∧x=ob.unz:=by
 simp only[lent,List.getElem?_map,Option.map_eq_some_iff]at e
 obtain⟨ob,h1,rfl⟩:=e
 exact⟨ob,h1,rfl⟩
theorem sH {h:List AObj}{i:Nat}{ob:AObj}(e:h[i]? =some ob):(lent h)[i]? =some ob.unz:=by simp[lent,e]
section
variable {Γ:Ctx}{P:Program}{M0:Nat→Prop}{base:Nat}{σ:St}{a:Act}{w:World}{ρ:List (Option Nat)}{h:List AObj}
mutual
theorem dU.reads {κ:Nat→List Nat}{lo:Nat}{M:Nat→Prop}:∀(p:PV)(π:List Nat)(v:Value),(∀b τ,lo≤b→κ b=π++τ→¬M b)→dU κ lo w p π v→ak M w p v
 | .int _ _,_,_,_,r=>by simpa only[dU,ak]using r
 | .bool _,_,_,_,r=>by simpa only[dU,ak]using r
 | .str _,_,_,_,r=>by simpa only[dU,ak]using r
 | .lst es,π,v,hm,r=>by
  simp only[dU]at r
  simp only[ak]
  rcases r with r|⟨b,c,z,cur,e,hb,hk,hz,hr,h1,h2,h3,ht⟩
  ·exact .inl r
  ·exact .inr ⟨b,0,c,z,e,hm b [] hb (by simp[hk]),hr.lt,dv.reads z es π b 0 hm ht,h2⟩
theorem ft.reads {κ:Nat→List Nat}{lo:Nat}{M:Nat→Prop}:∀(ps:List PV)(π:List Nat)(b o:Nat),(∀b τ,lo≤b→κ b=π++τ→¬M b)→ft κ lo w ps π b o→dh M w ps b o
 |[],_,_,_,_,_=>by simp only[dh]
 |p::ps,π,b,o,hm,r=>by
  simp only[ft]at r
  simp only[dh]
  obtain⟨⟨v,hv,hp⟩,r⟩:=r
  exact⟨⟨v,hv,dU.reads p _ v (fun b τ hl e=>hm b (o::τ) hl (by rw[e];simp)) hp⟩,ft.reads ps π b (o+1) hm r⟩
theorem dv.reads {κ:Nat→List Nat}{lo:Nat}{M:Nat→Prop}(z:Nat):∀(es:List (List PV))(π:List Nat)(b o:Nat),(∀b τ,lo≤b→κ b=π++τ→¬M b)→dv κ lo w z es π b o→cr M w z es b o
 |[],_,_,_,_,_=>by simp only[cr]
 |e::es,π,b,o,hm,r=>by
  simp only[dv]at r
  simp only[cr]
  exact⟨r.1,ft.reads e π b o hm r.2.1,dv.reads z es π b (o+z) hm r.2.2⟩
end
theorem Mu.unz {b:Nat}(hm:Mu (fun _=>False) ρ (lent h) b):∃(o:Nat)(ob:AObj),h[o]? =some ob∧ob.mut=true∧ρ[o]? =some (some b):=by
 rcases hm with hm|⟨o,x,hx,hmx,hr⟩
 ·exact hm.elim
 ·obtain⟨ob,h1,rfl⟩:=lC hx
  exact⟨o,ob,h1,by rw[←AObj.unz_mut];exact hmx,hr⟩
theorem Mu.unz_le {b:Nat}(hm:Mu (fun _=>False) ρ (lent h) b):Mu M0 ρ h b:= .inr (Mu.unz hm)
theorem LR.unz {l:L}{v:Value}(r:LR (Mu M0 ρ h) w ρ h l v):LR (Mu (fun _=>False) ρ (lent h)) w ρ (lent h) l.unsub v:=by
 have mu:∀b,Mu (fun _=>False) ρ (lent h) b→Mu M0 ρ h b:=fun b hm=>Mu.unz_le hm
 cases l with
 |pv p=>exact ak.weak mu r
 |ptr o i j=>
  obtain⟨q,ob,h1,h2,h3⟩:=r
  refine⟨q,_,h1,sH h2,?_⟩
  cases ob<;>exact h3
 |ip e j=>obtain⟨b,o,rfl,hb,hlt,hr⟩:=r;exact⟨b,o,rfl,fun k=>hb (mu b k),hlt,dh.go ⟨Nat.le_refl _,fun b _=>mu b,fun _ _ _=>rfl⟩ e b o hb hlt hr⟩
 |arr o=>
  obtain⟨q,ob,h1,h2,h3⟩:=r
  refine⟨q,_,h1,sH h2,?_⟩
  cases ob<;>exact h3
 |nil=>exact r
 |own z es=>exact r
 |down z es=>exact r
 |fn k caps=>
  obtain⟨f,cs,rfl,hk,hn,hc⟩:=r
  exact⟨f,cs,rfl,hk,hn,fun i e u he hu=>(hc i e u he hu).go ⟨Nat.le_refl _,fun b _=>mu b,fun _ _ _=>rfl⟩⟩
 |mp o=>
  obtain⟨b,kvs,h1,h2,rfl⟩:=r
  exact⟨b,kvs,h1,sH h2,rfl⟩
 |tp n=>
  obtain⟨o,b,h1,h2,rfl⟩:=r
  exact⟨o,b,h1,sH h2,rfl⟩
 |sub o c=>exact r.1
 |junk=>exact r
theorem HR.unz (k:HR M0 base w ρ h):HR (fun _=>False) base w ρ (lent h):=by
 obtain⟨κ,d,n⟩:=k.deep
 have mu:∀b,Mu (fun _=>False) ρ (lent h) b→Mu M0 ρ h b:=fun b hm=>Mu.unz_le hm
 refine⟨⟨by simp[lent,k.len],fun b hb=>hb.elim,k.le,fun o x r ho hr=> ?_,fun o o' x x' b h1 h2 m1 m2 r1 r2=> ?_⟩,κ,⟨fun o x b ho hm hr=> ?_,fun o x z es b ho hd hr=> ?_⟩,n.new,fun b o c τ z es e ho=> ?_⟩
 ·obtain⟨ob,h1,rfl⟩:=lC ho
  have kx:=k.objs o ob r h1 hr
  have c:Ch (Mu M0 ρ h) (Mu (fun _=>False) ρ (lent h)) w w ρ ρ h h:=⟨⟨Nat.le_refl _,fun b _=>mu b,fun _ _ _=>rfl⟩,fun _ cur r=>⟨cur,r,rfl⟩,fun _ _ ob hr ho _=>⟨ob,hr,ho,qc.refl ob⟩,fun _ _ _ _ _ _ _ _ _ h=>h⟩
  have keep:∀x:AObj,tJ (Mu M0 ρ h) base w ρ h r x→(∀cs,x≠ .box cs)→tJ (Mu (fun _=>False) ρ (lent h)) base w ρ (lent h) r x:=fun x kx hx=>by
   have:=kx.keep c (fun _ _ _=>rfl)
   cases x<;>first|exact this|exact absurd rfl (hx _)
  cases ob with
  |zarr z es=>
   obtain⟨hz,hes,kx⟩:=kx
   refine⟨hz,hes,?_⟩
   cases r with
   |none=>exact kx
   |some b=>
    obtain⟨g0,cur,cap,g1,g2,g3,g4⟩:=kx
    refine⟨g0,cur,cap,g1,g2,g3,g4,fun i e j p he hp=> ?_⟩
    obtain⟨v,hv,ht⟩:=d.tree o _ z es b h1 rfl hr i e j p he hp
    refine⟨v,by rw[←g1.cell];exact hv,dU.reads p _ v (fun b' τ _ e' hm=> ?_) ht⟩
    obtain⟨o',ob',q1,q2,q3⟩:=Mu.unz hm
    rw[d.root o' ob' b' q1 q2 q3]at e'
    simp at e'
  |box cs=>
   obtain⟨b,cur,rfl,g0,g1,hls⟩:=kx
   refine⟨b,cur,rfl,g0,g1,by rw[List.length_map];exact hls.1,fun i l v hl hv=> ?_⟩
   simp only[List.getElem?_map,Option.map_eq_some_iff]at hl
   obtain⟨l0,h0,rfl⟩:=hl
   exact(hls.2 i l0 v h0 hv).unz
  |arr z es=>exact keep (.arr z es) kx (by simp)
  |froz z es=>exact keep (.froz z es) kx (by simp)
  |darr z es=>exact keep (.darr z es) kx (by simp)
  |fbox ps=>exact keep (.fbox ps) kx (by simp)
  |imap kvs=>exact keep (.imap kvs) kx (by simp)
  |tbox n=>exact keep (.tbox n) kx (by simp)
  |res=>exact keep .res kx (by simp)
  |dead=>trivial
 ·obtain⟨ob,q1,rfl⟩:=lC h1
  obtain⟨ob',q2,rfl⟩:=lC h2
  rw[AObj.unz_mut]at m1 m2
  exact k.apart o o' ob ob' b q1 q2 m1 m2 r1 r2
 ·obtain⟨ob,h1,rfl⟩:=lC ho
  rw[AObj.unz_mut]at hm
  exact d.root o ob b h1 hm hr
 ·obtain⟨ob,h1,rfl⟩:=lC ho
  rw[AObj.unz_deep]at hd
  exact d.tree o ob z es b h1 hd hr
 ·obtain⟨ob,h1,e1⟩:=lC ho
  cases ob<;>cases e1
def V.unsub :V→V
 | .one l=> .one l.unsub
 | .agg ls=> .agg (ls.map L.unsub)
 | .tup xs=> .tup (xs.map fun x=>(x.1,x.2.map L.unsub))
theorem pG.unz {ls:List L}{vs:List Value}(r:pG (Mu M0 ρ h) w ρ h ls vs):pG (Mu (fun _=>False) ρ (lent h)) w ρ (lent h) (ls.map L.unsub) vs:=
 ⟨by rw[List.length_map];exact r.1,fun i l v hl hv=>by
  simp only[List.getElem?_map,Option.map_eq_some_iff]at hl
  obtain⟨l0,h0,rfl⟩:=hl
  exact(r.2 i l0 v h0 hv).unz⟩
theorem VR.unz {v:V}{u:Value}(r:VR (Mu M0 ρ h) w ρ h v u):VR (Mu (fun _=>False) ρ (lent h)) w ρ (lent h) v.unsub u:=by
 cases v with
 |one l=>exact LR.unz r
 |agg ls=>obtain⟨cs,rfl,hl⟩:=r;exact⟨cs,rfl,hl.unz⟩
 |tup xs=>
  obtain⟨vs,rfl,hl,hr⟩:=r
  refine⟨vs,rfl,by rw[List.length_map];exact hl,fun i x u hx hu=> ?_⟩
  simp only[List.getElem?_map,Option.map_eq_some_iff]at hx
  obtain⟨x0,h0,rfl⟩:=hx
  have:=hr i x0 u h0 hu
  obtain⟨b,ls⟩:=x0
  cases b with
  |true=>obtain⟨cs,rfl,hl⟩:=this;exact⟨cs,rfl,hl.unz⟩
  |false=>
   match ls,this with
   |[l],this=>exact LR.unz this
theorem SR.unz (s:SR Γ M0 base σ a w ρ):SR Γ (fun _=>False) base ⟨σ.t.map V.unsub,lent σ.h⟩ a w ρ:=
 ⟨s.hr.unz,⟨s.fr.defers,by rw[List.length_map];exact s.fr.size,fun i v u hv hu=>by
  simp only[List.getElem?_map,Option.map_eq_some_iff]at hv
  obtain⟨v0,h0,rfl⟩:=hv
  exact(s.fr.tmps i v0 u h0 hu).unz⟩,s.inv,s.b0⟩
theorem Bz (x:Opd):x.ev ⟨σ.t.map V.unsub,h⟩=(x.ev σ).unsub:=by
 cases x with
 |tmp n=>
  simp only[Opd.ev,List.getD,List.getElem?_map]
  cases σ.t[n]? <;>rfl
 |_=>rfl
theorem HL (v:V):isInt v.unsub=isInt v:=by
 cases v with
 |one l=>cases l<;>rfl
 |_=>rfl
theorem Fe (v:V):asList h v.unsub=asList h v:=by
 cases v with
 |one l=>cases l<;>rfl
 |_=>rfl
theorem DE (z:Nat)(v:V)(i:Nat):aJ h z v.unsub i=aJ h z v i:=by
 cases v with
 |one l=>cases l<;>rfl
 |_=>rfl
theorem OE {call:Nat→List V→Option V}(x:Opd):bg call σ (.lenZ x)=bg call ⟨σ.t.map V.unsub,lent σ.h⟩ (.len x):=by
 simp only[bg,Bz,Fe]
theorem LX {call:Nat→List V→Option V}(z:Nat)(x i:Opd):bg call σ (.indexZ z x i)=bg call ⟨σ.t.map V.unsub,lent σ.h⟩ (.indexA z x i):=by
 simp only[bg,Bz,HL,DE]
theorem HQ (s:SR Γ M0 base σ a w ρ){o:Oper}{dm:Md}{t:TypeId}{x:Operand}{y':Opd}(hop:o.op= .load t x)(hc:eV P kf dm o.op=some (.load false 1 y'))
 {ob i j z:Nat} {es:List (List PV)} {e:List PV} {l:List (List PV)} (hev:y'.ev σ= .one (.ptr ob i j)) (hob:σ.h[ob]? =some (.zarr z es)) (hei:es[i]? =some e) (hej:e[j]? =some (.lst l)):
 ∃u,(execOp a.eval o).run P w= .ok (.value u) w∧VR (Mu M0 ρ σ.h) w ρ σ.h (.one (.sub ob (i*z+j))) u:=by
 rw[hop]at hc;simp only[eV]at hc
 split at hc
 ·rename_i g n y h1 h2 h3
  split at hc
  ·cases hc
  ·cases hc
   have r:=aq s h3
   rw[hev]at r
   obtain⟨r0,ob',hr0,hob',hpt⟩:=r
   rw[hob]at hob';cases hob'
   obtain⟨b,rfl,hu⟩:=hpt
   obtain⟨κ,d,nz⟩:=s.hr.deep
   obtain⟨v,hv,ht⟩:=d.tree ob _ z es b hob rfl hr0 i e j _ hei hej
   refine⟨v,?_,ht.one,b,z,es,hr0,hob,⟨i,e,j,l,hei,hej,rfl⟩,hv⟩
   have h4:(loadVar t ⟨b,i*z+j,none⟩).run P w= .ok v w:=by
    have:(load ⟨b,i*z+j,none⟩).run P w= .ok v w:=by simp[load,Sem.run,hv]
    simp only[loadVar,Sem.run_bind,pS h1,Result.andThen_ok,Bool.false_eq_true,if_false,this]
   simp only[AObj.z]at hu
   simp only[execOp,hop,hu,Instr.loadAt,Instr.sureAddr,Sem.run_bind,Sem.run_pure,Result.andThen_ok,h4]
 ·cases hc
theorem Gj (s:SR Γ M0 base σ a w ρ){o:Oper}{dm:Md}{t:TypeId}{x y:Operand}{x' y':Opd}(hop:o.op= .store t x y)(hc:eV P kf dm o.op=some (.store 1 x' y'))
 {ob i j z:Nat} {es:List (List PV)} {e:List PV} {p q:PV} (hev:x'.ev σ= .one (.ptr ob i j)) (hob:σ.h[ob]? =some (.zarr z es)) (hei:es[i]? =some e) (hyv:y'.ev σ= .one (.pv p)) (hej:e[j]? =some q) (hp:p.flat=true) (hq:q.flat=true):
 iN P M0 base σ w ρ (.tup []) (σ.h.set ob (.zarr z (es.set i (e.set j p)))) (execOp a.eval o):=by
 rw[hop]at hc;simp only[eV]at hc
 split at hc
 ·rename_i n1 x1 y1 hn hx hy
  cases hc
  have rx:=aq s hx
  have ry:=aq s hy
  rw[hev]at rx
  rw[hyv]at ry
  obtain⟨r0,obj,hr0,hob',hpt⟩:=rx
  rw[hob]at hob';cases hob'
  obtain⟨b,rfl,hu⟩:=hpt
  simp only[AObj.z]at hu
  obtain⟨κ,d,nz⟩:=s.hr.deep
  obtain⟨hz,hes,hbase,cur,cap,hrow,h1,h2,h3⟩:=s.hr.objs ob _ (some b) hob hr0
  have hls:=ry.cells (fun xs=>by simp)
  obtain⟨u,hcl⟩:∃u,(a.eval y).cells.toList=[u]:=List.length_eq_one_iff.1 (by rw[←hls.1];rfl)
  have hru:ak (Mu M0 ρ σ.h) w p u:=hls.2 0 _ u rfl (by rw[hcl];rfl)
  have hsz:(a.eval y).cells.size=1:=by
   have:=congrArg List.length hcl
   simpa using this
  have hez:e.length=z:=hes e (List.mem_of_getElem? hei)
  have hilt:i<es.length:=(List.getElem?_eq_some_iff.1 hei).1
  have hjlt:j<e.length:=(List.getElem?_eq_some_iff.1 hej).1
  have hfit:i*z+j+1≤cur.size:=by
   rw[h1]
   calc i*z+j+1≤i*z+z:=by omega
    _=(i+1)*z:=by rw[Nat.add_mul,Nat.one_mul]
    _≤cap*z:=Nat.mul_le_mul_right _ (by omega)
  have hrun:=mG (P:=P) hn hrow hsz hfit hls.ones
  rw[hcl]at hrun
  obtain⟨cur',hrow',hsz',hget⟩:=dV b [u] (i*z+j) w cur hrow (by simpa using hfit)
  have hother:∀k,some b≠some k→(w.setCells b (i*z+j) [u]).heap[k]? =w.heap[k]? :=fun k hk=>dH b _ _ w k (fun e=>hk (by rw[e]))
  have cell:∀{i1 j1:Nat}{e1:List PV}{p1:PV},(es.set i (e.set j p))[i1]? =some e1→e1[j1]? =some p1→(p1=p∧cur'[i1*z+j1]? =some u)∨(∃e0,es[i1]? =some e0∧e0[j1]? =some p1∧(i1=i→j1≠j)∧cur'[i1*z+j1]? =cur[i1*z+j1]?):=by
   intro i1 j1 e1 p1 hi1 hj1
   rw[hget]
   by_cases hii:i=i1
   ·subst hii
    rw[List.getElem?_set_self hilt]at hi1
    cases hi1
    by_cases hjj:j=j1
    ·subst hjj
     rw[List.getElem?_set_self hjlt]at hj1
     cases hj1
     exact .inl ⟨rfl,by rw[if_pos (by simp)];simp⟩
    ·rw[List.getElem?_set_ne hjj]at hj1
     exact .inr ⟨e,hei,hj1,fun _ h=>hjj h.symm,by rw[if_neg (by simp;omega)]⟩
   ·rw[List.getElem?_set_ne hii]at hi1
    have hj1z:j1<z:=by rw[←hes e1 (List.mem_of_getElem? hi1)];exact(List.getElem?_eq_some_iff.1 hj1).1
    refine .inr ⟨e1,hi1,hj1,fun h=>absurd h.symm hii,?_⟩
    rw[if_neg]
    intro hin
    simp at hin
    exact hii (rh hj1z (by omega:j<z) (by omega)).1.symm
  have lst:∀{i1 j1:Nat}{e1:List PV}{l:List (List PV)},es[i1]? =some e1→e1[j1]? =some (.lst l)→¬(i1=i∧j1=j):=by
   rintro i1 j1 e1 l h4 h5 ⟨rfl,rfl⟩
   rw[hei]at h4;cases h4
   rw[hej]at h5;cases h5
   cases hq
  obtain⟨g1,g2⟩:=s.hr.toHR0.upd (w':=w.setCells b (i*z+j) [u]) (ob':= .zarr z (es.set i (e.set j p))) hob hr0 rfl ⟨rfl,by simp,fun c⟨i1,e1,j1,l,h4,h5,h6⟩=>by
   have hne:=lst h4 h5
   by_cases hii:i=i1
   ·subst hii
    rw[hei]at h4;cases h4
    exact⟨i,e.set j p,j1,l,List.getElem?_set_self hilt,by rw[List.getElem?_set_ne fun h=>hne ⟨rfl,h.symm⟩];exact h5,h6⟩
   ·exact⟨i1,e1,j1,l,by rw[List.getElem?_set_ne hii];exact h4,h5,h6⟩⟩ (dI b _ _ w).symm hother
   (fun k c e hr=>by cases e;rw[hr.inj hrow];exact⟨cur',hrow',hsz'⟩)
   (fun c=>⟨hz,fun e1 he1=>by
    rcases List.mem_or_eq_of_mem_set he1 with hm|rfl
    ·exact hes e1 hm
    ·simpa using hez,hbase,cur',cap,hrow',by rw[hsz'];exact h1,by simpa using h2,h3⟩)
   (fun z1 es1 b1 c v e0 eb⟨i1,e1,j1,l,h4,h5,h6⟩hv=>by
    cases e0;cases eb
    have hne:=lst h4 h5
    have hj1z:j1<z:=by rw[←hes e1 (List.mem_of_getElem? h4)];exact(List.getElem?_eq_some_iff.1 h5).1
    rw[hrow'.cell,hget,if_neg]
    ·rw[←hrow.cell];exact hv
    ·intro hin
     simp at hin
     have:=rh hj1z (by omega:j<z) (by omega:i1*z+j1=i*z+j)
     exact hne this)
  refine⟨.skip,undef,_,ρ,?_, .inr ⟨rfl,rfl⟩,cA b base hbase _ _ w w (Below.refl _ _),⟨g1,κ,d.upd s.hr.toHR0 hob hr0 rfl hother (fun z1 es1 b1 e0 eb=> ?_),fun b' hb'=>nz.new b' (by rw[dI]at hb';exact hb'),fun b' i' c τ z1 es1 e0 hi'=> ?_⟩,g2,VR.undef⟩
  ·simp[execOp,hop,hu,hrun]
  ·cases e0;cases eb
   have hκ:=d.root ob _ b hob rfl hr0
   intro i1 e1 j1 p1 hi1 hj1
   rcases cell hi1 hj1 with⟨rfl,hc⟩|⟨e2,he2,hp2,_,hc⟩
   ·exact⟨u,by rw[hrow'.cell];exact hc,EN hp hru⟩
   ·obtain⟨v,hv,ht⟩:=d.tree ob _ z es b hob rfl hr0 i1 e2 j1 p1 he2 hp2
    refine⟨v,by rw[hrow'.cell,hc,←hrow.cell];exact hv,dU.go (Nat.le_refl _) p1 _ _ v (fun b2 τ _ e3=>⟨e3,hother b2 fun e4=> ?_⟩) ht⟩
    cases e4
    rw[hκ]at e3
    simp at e3
  ·by_cases hi2:ob=i'
   ·subst hi2
    exact nz.zone b' ob c τ z es e0 hob
   ·rw[List.getElem?_set_ne hi2]at hi'
    exact nz.zone b' i' c τ z1 es1 e0 hi'
 ·cases hc
end
end Gi
