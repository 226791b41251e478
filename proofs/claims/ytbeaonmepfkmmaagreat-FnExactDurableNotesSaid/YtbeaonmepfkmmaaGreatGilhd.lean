/- Of this proof. -/
import Derived.Test.YtbeaonmepfkmmaaGreatGilfd
import Derived.Test.YtbeaonmepfkmmaaGreatGind
set_option linter.unusedSimpArgs false
set_option linter.unusedVariables false
namespace Gi
open Go Go.RowKit
variable {KI:KF}
theorem AObj.unz_mut (ob:AObj):ob.unz.mut=ob.mut:=by cases ob<;>rfl
theorem AObj.unz_deep (ob:AObj):ob.unz.deep=ob.deep:=by cases ob<;>rfl
theorem lM {h:List AObj}{i:Nat}{x:AObj}(e:(lent h)[i]? =some x):∃ob,h[i]? =some ob∧x=ob.unz:=by
 simp only[lent,List.getElem?_map,Option.map_eq_some_iff]at e
 obtain⟨ob,h1,rfl⟩:=e
 exact⟨ob,h1,rfl⟩
theorem tF {h:List AObj}{i:Nat}{ob:AObj}(e:h[i]? =some ob):(lent h)[i]? =some ob.unz:=by simp[lent,e]
section
variable {Γ:Ctx}{P:Program}{M0:Nat→Prop}{base:Nat}{σ:St}{a:Act}{w:World}{ρ:List (Option Nat)}{h:List AObj}
mutual
theorem d6.reads {κ:Nat→List Nat}{lo:Nat}{M:Nat→Prop}:∀(p:PV)(π:List Nat)(v:Value),(∀b τ,lo≤b→κ b=π++τ→¬M b)→d6 κ lo w p π v→ar M w p v
 | .int _ _,_,_,_,r=>by simpa only[d6,ar]using r
 | .bool _,_,_,_,r=>by simpa only[d6,ar]using r
 | .str _,_,_,_,r=>by simpa only[d6,ar]using r
 | .lst es,π,v,hm,r=>by
  simp only[d6]at r
  simp only[ar]
  rcases r with r|⟨b,c,z,cur,e,hb,hk,hz,hr,h1,h2,h3,ht⟩
  ·exact .inl r
  ·exact .inr ⟨b,0,c,z,e,hm b [] hb (by simp[hk]),hr.lt,dA.reads z es π b 0 hm ht,h2⟩
theorem fy.reads {κ:Nat→List Nat}{lo:Nat}{M:Nat→Prop}:∀(ps:List PV)(π:List Nat)(b o:Nat),(∀b τ,lo≤b→κ b=π++τ→¬M b)→fy κ lo w ps π b o→dy M w ps b o
 |[],_,_,_,_,_=>by simp only[dy]
 |p::ps,π,b,o,hm,r=>by
  simp only[fy]at r
  simp only[dy]
  obtain⟨⟨v,hv,hp⟩,r⟩:=r
  exact⟨⟨v,hv,d6.reads p _ v (fun b τ hl e=>hm b (o::τ) hl (by rw[e];simp)) hp⟩,fy.reads ps π b (o+1) hm r⟩
theorem dA.reads {κ:Nat→List Nat}{lo:Nat}{M:Nat→Prop}(z:Nat):∀(es:List (List PV))(π:List Nat)(b o:Nat),(∀b τ,lo≤b→κ b=π++τ→¬M b)→dA κ lo w z es π b o→cK M w z es b o
 |[],_,_,_,_,_=>by simp only[cK]
 |e::es,π,b,o,hm,r=>by
  simp only[dA]at r
  simp only[cK]
  exact⟨r.1,fy.reads e π b o hm r.2.1,dA.reads z es π b (o+z) hm r.2.2⟩
end
theorem Mu.unz {b:Nat}(hm:Mu (fun _=>False) ρ (lent h) b):∃(o:Nat)(ob:AObj),h[o]? =some ob∧ob.mut=true∧ρ[o]? =some (some b):=by
 rcases hm with hm|⟨o,x,hx,hmx,hr⟩
 ·exact hm.elim
 ·obtain⟨ob,h1,rfl⟩:=lM hx
  exact⟨o,ob,h1,by rw[←AObj.unz_mut];exact hmx,hr⟩
theorem Mu.unz_le {b:Nat}(hm:Mu (fun _=>False) ρ (lent h) b):Mu M0 ρ h b:= .inr (Mu.unz hm)
theorem LR.unz {l:L}{v:Value}(r:LR (Mu M0 ρ h) w ρ h l v):LR (Mu (fun _=>False) ρ (lent h)) w ρ (lent h) l.unsub v:=by
 have mu:∀b,Mu (fun _=>False) ρ (lent h) b→Mu M0 ρ h b:=fun b hm=>Mu.unz_le hm
 cases l with
 |pv p=>exact ar.weak mu r
 |ptr o i j=>
  obtain⟨q,ob,h1,h2,h3⟩:=r
  refine⟨q,_,h1,tF h2,?_⟩
  cases ob<;>exact h3
 |ip e j=>obtain⟨b,o,rfl,hb,hlt,hr⟩:=r;exact⟨b,o,rfl,fun k=>hb (mu b k),hlt,dy.go ⟨Nat.le_refl _,fun b _=>mu b,fun _ _ _=>rfl⟩ e b o hb hlt hr⟩
 |arr o=>
  obtain⟨q,ob,h1,h2,h3⟩:=r
  refine⟨q,_,h1,tF h2,?_⟩
  cases ob<;>exact h3
 |nil=>exact r
 |own z es=>exact r
 |down z es=>exact r
 |fn k caps=>
  obtain⟨f,cs,rfl,hk,hn,hc⟩:=r
  exact⟨f,cs,rfl,hk,hn,fun i e u he hu=>(hc i e u he hu).go ⟨Nat.le_refl _,fun b _=>mu b,fun _ _ _=>rfl⟩⟩
 |mp o=>
  obtain⟨b,kvs,h1,h2,rfl⟩:=r
  exact⟨b,kvs,h1,tF h2,rfl⟩
 |tp n=>
  obtain⟨o,b,h1,h2,rfl⟩:=r
  exact⟨o,b,h1,tF h2,rfl⟩
 |sub o c=>exact r.1
 |junk=>exact r
theorem HR.unz (k:HR M0 base w ρ h):HR (fun _=>False) base w ρ (lent h):=by
 obtain⟨κ,d,n⟩:=k.deep
 have mu:∀b,Mu (fun _=>False) ρ (lent h) b→Mu M0 ρ h b:=fun b hm=>Mu.unz_le hm
 refine⟨⟨by simp[lent,k.len],fun b hb=>hb.elim,k.le,fun o x r ho hr=> ?_,fun o o' x x' b h1 h2 m1 m2 r1 r2=> ?_⟩,κ,⟨fun o x b ho hm hr=> ?_,fun o x z es b ho hd hr=> ?_⟩,n.new,fun b o c τ z es e ho=> ?_⟩
 ·obtain⟨ob,h1,rfl⟩:=lM ho
  have kx:=k.objs o ob r h1 hr
  have c:Ch (Mu M0 ρ h) (Mu (fun _=>False) ρ (lent h)) w w ρ ρ h h:=⟨⟨Nat.le_refl _,fun b _=>mu b,fun _ _ _=>rfl⟩,fun _ cur r=>⟨cur,r,rfl⟩,fun _ _ ob hr ho _=>⟨ob,hr,ho,qQ.refl ob⟩,fun _ _ _ _ _ _ _ _ _ h=>h⟩
  have keep:∀x:AObj,uy (Mu M0 ρ h) base w ρ h r x→(∀cs,x≠ .box cs)→uy (Mu (fun _=>False) ρ (lent h)) base w ρ (lent h) r x:=fun x kx hx=>by
   have:=kx.keep c (fun _ _ _=>rfl)
   cases x<;>first|exact this|exact absurd rfl (hx _)
  cases ob with
  |zarr z es=>
   obtain⟨hz,hes,kx⟩:=kx
   refine⟨hz,hes,?_⟩
   cases r with
   |none=>exact kx
   |some b=>
    obtain⟨g0,cur,cap,g1,g2,g3,g4⟩:=kx
    refine⟨g0,cur,cap,g1,g2,g3,g4,fun i e j p he hp=> ?_⟩
    obtain⟨v,hv,ht⟩:=d.tree o _ z es b h1 rfl hr i e j p he hp
    refine⟨v,by rw[←g1.cell];exact hv,d6.reads p _ v (fun b' τ _ e' hm=> ?_) ht⟩
    obtain⟨o',ob',q1,q2,q3⟩:=Mu.unz hm
    rw[d.root o' ob' b' q1 q2 q3]at e'
    simp at e'
  |box cs=>
   obtain⟨b,cur,rfl,g0,g1,hls⟩:=kx
   refine⟨b,cur,rfl,g0,g1,by rw[List.length_map];exact hls.1,fun i l v hl hv=> ?_⟩
   simp only[List.getElem?_map,Option.map_eq_some_iff]at hl
   obtain⟨l0,h0,rfl⟩:=hl
   exact(hls.2 i l0 v h0 hv).unz
  |arr z es=>exact keep (.arr z es) kx (by simp)
  |froz z es=>exact keep (.froz z es) kx (by simp)
  |darr z es=>exact keep (.darr z es) kx (by simp)
  |fbox ps=>exact keep (.fbox ps) kx (by simp)
  |imap kvs=>exact keep (.imap kvs) kx (by simp)
  |tbox n=>exact keep (.tbox n) kx (by simp)
  |res=>exact keep .res kx (by simp)
  |dead=>trivial
 ·obtain⟨ob,q1,rfl⟩:=lM h1
  obtain⟨ob',q2,rfl⟩:=lM h2
  rw[AObj.unz_mut]at m1 m2
  exact k.apart o o' ob ob' b q1 q2 m1 m2 r1 r2
 ·obtain⟨ob,h1,rfl⟩:=lM ho
  rw[AObj.unz_mut]at hm
  exact d.root o ob b h1 hm hr
 ·obtain⟨ob,h1,rfl⟩:=lM ho
  rw[AObj.unz_deep]at hd
  exact d.tree o ob z es b h1 hd hr
 ·obtain⟨ob,h1,e1⟩:=lM ho
  cases ob<;>cases e1
def V.unsub :V→V
 | .one l=> .one l.unsub
 | .agg ls=> .agg (ls.map L.unsub)
 | .tup xs=> .tup (xs.map fun x=>(x.1,x.2.map L.unsub))
theorem qe.unz {ls:List L}{vs:List Value}(r:qe (Mu M0 ρ h) w ρ h ls vs):qe (Mu (fun _=>False) ρ (lent h)) w ρ (lent h) (ls.map L.unsub) vs:=
 ⟨by rw[List.length_map];exact r.1,fun i l v hl hv=>by
  simp only[List.getElem?_map,Option.map_eq_some_iff]at hl
  obtain⟨l0,h0,rfl⟩:=hl
  exact(r.2 i l0 v h0 hv).unz⟩
theorem VR.unz {v:V}{u:Value}(r:VR (Mu M0 ρ h) w ρ h v u):VR (Mu (fun _=>False) ρ (lent h)) w ρ (lent h) v.unsub u:=by
 cases v with
 |one l=>exact LR.unz r
 |agg ls=>obtain⟨cs,rfl,hl⟩:=r;exact⟨cs,rfl,hl.unz⟩
 |tup xs=>
  obtain⟨vs,rfl,hl,hr⟩:=r
  refine⟨vs,rfl,by rw[List.length_map];exact hl,fun i x u hx hu=> ?_⟩
  simp only[List.getElem?_map,Option.map_eq_some_iff]at hx
  obtain⟨x0,h0,rfl⟩:=hx
  have:=hr i x0 u h0 hu
  obtain⟨b,ls⟩:=x0
  cases b with
  |true=>obtain⟨cs,rfl,hl⟩:=this;exact⟨cs,rfl,hl.unz⟩
  |false=>
   match ls,this with
   |[l],this=>exact LR.unz this
theorem SR.unz (s:SR Γ M0 base σ a w ρ):SR Γ (fun _=>False) base ⟨σ.t.map V.unsub,lent σ.h⟩ a w ρ:=
 ⟨s.hr.unz,⟨s.fr.defers,by rw[List.length_map];exact s.fr.size,fun i v u hv hu=>by
  simp only[List.getElem?_map,Option.map_eq_some_iff]at hv
  obtain⟨v0,h0,rfl⟩:=hv
  exact(s.fr.tmps i v0 u h0 hu).unz⟩,s.inv,s.b0⟩
theorem BA (x:Opd):x.ev ⟨σ.t.map V.unsub,h⟩=(x.ev σ).unsub:=by
 cases x with
 |tmp n=>
  simp only[Opd.ev,List.getD,List.getElem?_map]
  cases σ.t[n]? <;>rfl
 |_=>rfl
theorem IR (v:V):isInt v.unsub=isInt v:=by
 cases v with
 |one l=>cases l<;>rfl
 |_=>rfl
theorem Fy (v:V):asList h v.unsub=asList h v:=by
 cases v with
 |one l=>cases l<;>rfl
 |_=>rfl
theorem DI (z:Nat)(v:V)(i:Nat):aJ h z v.unsub i=aJ h z v i:=by
 cases v with
 |one l=>cases l<;>rfl
 |_=>rfl
theorem RL {call:Nat→List V→Option V}(x:Opd):a9 call σ (.lenZ x)=a9 call ⟨σ.t.map V.unsub,lent σ.h⟩ (.len x):=by
 simp only[a9,BA,Fy]
theorem Oc {call:Nat→List V→Option V}(z:Nat)(x i:Opd):a9 call σ (.indexZ z x i)=a9 call ⟨σ.t.map V.unsub,lent σ.h⟩ (.indexA z x i):=by
 simp only[a9,BA,IR,DI]
theorem IY (s:SR Γ M0 base σ a w ρ){o:Oper}{dm:Md}{t:TypeId}{x:Operand}{y':Opd}(hop:o.op= .load t x)(hc:eO P kf dm o.op=some (.load false 1 y'))
 {ob i j z:Nat} {es:List (List PV)} {e:List PV} {l:List (List PV)} (hev:y'.ev σ= .one (.ptr ob i j)) (hob:σ.h[ob]? =some (.zarr z es)) (hei:es[i]? =some e) (hej:e[j]? =some (.lst l)):
 ∃u,(execOp a.eval o).run P w= .ok (.value u) w∧VR (Mu M0 ρ σ.h) w ρ σ.h (.one (.sub ob (i*z+j))) u:=by
 rw[hop]at hc;simp only[eO]at hc
 split at hc
 ·rename_i g n y h1 h2 h3
  split at hc
  ·cases hc
  ·cases hc
   have r:=aA s h3
   rw[hev]at r
   obtain⟨r0,ob',hr0,hob',hpt⟩:=r
   rw[hob]at hob';cases hob'
   obtain⟨b,rfl,hu⟩:=hpt
   obtain⟨κ,d,nz⟩:=s.hr.deep
   obtain⟨v,hv,ht⟩:=d.tree ob _ z es b hob rfl hr0 i e j _ hei hej
   refine⟨v,?_,ht.one,b,z,es,hr0,hob,⟨i,e,j,l,hei,hej,rfl⟩,hv⟩
   have h4:(loadVar t ⟨b,i*z+j,none⟩).run P w= .ok v w:=by
    have:(load ⟨b,i*z+j,none⟩).run P w= .ok v w:=by simp[load,Sem.run,hv]
    simp only[loadVar,Sem.run_bind,qy h1,Result.andThen_ok,Bool.false_eq_true,if_false,this]
   simp only[AObj.z]at hu
   simp only[execOp,hop,hu,Instr.loadAt,Instr.sureAddr,Sem.run_bind,Sem.run_pure,Result.andThen_ok,h4]
 ·cases hc
theorem G3 (s:SR Γ M0 base σ a w ρ){o:Oper}{dm:Md}{t:TypeId}{x y:Operand}{x' y':Opd}(hop:o.op= .store t x y)(hc:eO P kf dm o.op=some (.store 1 x' y'))
 {ob i j z:Nat} {es:List (List PV)} {e:List PV} {p q:PV} (hev:x'.ev σ= .one (.ptr ob i j)) (hob:σ.h[ob]? =some (.zarr z es)) (hei:es[i]? =some e) (hyv:y'.ev σ= .one (.pv p)) (hej:e[j]? =some q) (hp:p.flat=true) (hq:q.flat=true):
 jd P M0 base σ w ρ (.tup []) (σ.h.set ob (.zarr z (es.set i (e.set j p)))) (execOp a.eval o):=by
 rw[hop]at hc;simp only[eO]at hc
 split at hc
 ·rename_i n1 x1 y1 hn hx hy
  cases hc
  have rx:=aA s hx
  have ry:=aA s hy
  rw[hev]at rx
  rw[hyv]at ry
  obtain⟨r0,obj,hr0,hob',hpt⟩:=rx
  rw[hob]at hob';cases hob'
  obtain⟨b,rfl,hu⟩:=hpt
  simp only[AObj.z]at hu
  obtain⟨κ,d,nz⟩:=s.hr.deep
  obtain⟨hz,hes,hbase,cur,cap,hrow,h1,h2,h3⟩:=s.hr.objs ob _ (some b) hob hr0
  have hls:=ry.cells (fun xs=>by simp)
  obtain⟨u,hcl⟩:∃u,(a.eval y).cells.toList=[u]:=List.length_eq_one_iff.1 (by rw[←hls.1];rfl)
  have hru:ar (Mu M0 ρ σ.h) w p u:=hls.2 0 _ u rfl (by rw[hcl];rfl)
  have hsz:(a.eval y).cells.size=1:=by
   have:=congrArg List.length hcl
   simpa using this
  have hez:e.length=z:=hes e (List.mem_of_getElem? hei)
  have hilt:i<es.length:=(List.getElem?_eq_some_iff.1 hei).1
  have hjlt:j<e.length:=(List.getElem?_eq_some_iff.1 hej).1
  have hfit:i*z+j+1≤cur.size:=by
   rw[h1]
   calc i*z+j+1≤i*z+z:=by omega
    _=(i+1)*z:=by rw[Nat.add_mul,Nat.one_mul]
    _≤cap*z:=Nat.mul_le_mul_right _ (by omega)
  have hrun:=na (P:=P) hn hrow hsz hfit hls.ones
  rw[hcl]at hrun
  obtain⟨cur',hrow',hsz',hget⟩:=cd b [u] (i*z+j) w cur hrow (by simpa using hfit)
  have hother:∀k,some b≠some k→(w.setCells b (i*z+j) [u]).heap[k]? =w.heap[k]? :=fun k hk=>b7 b _ _ w k (fun e=>hk (by rw[e]))
  have cell:∀{i1 j1:Nat}{e1:List PV}{p1:PV},(es.set i (e.set j p))[i1]? =some e1→e1[j1]? =some p1→(p1=p∧cur'[i1*z+j1]? =some u)∨(∃e0,es[i1]? =some e0∧e0[j1]? =some p1∧(i1=i→j1≠j)∧cur'[i1*z+j1]? =cur[i1*z+j1]?):=by
   intro i1 j1 e1 p1 hi1 hj1
   rw[hget]
   by_cases hii:i=i1
   ·subst hii
    rw[List.getElem?_set_self hilt]at hi1
    cases hi1
    by_cases hjj:j=j1
    ·subst hjj
     rw[List.getElem?_set_self hjlt]at hj1
     cases hj1
     exact .inl ⟨rfl,by rw[if_pos (by simp)];simp⟩
    ·rw[List.getElem?_set_ne hjj]at hj1
     exact .inr ⟨e,hei,hj1,fun _ h=>hjj h.symm,by rw[if_neg (by simp;omega)]⟩
   ·rw[List.getElem?_set_ne hii]at hi1
    have hj1z:j1<z:=by rw[←hes e1 (List.mem_of_getElem? hi1)];exact(List.getElem?_eq_some_iff.1 hj1).1
    refine .inr ⟨e1,hi1,hj1,fun h=>absurd h.symm hii,?_⟩
    rw[if_neg]
    intro hin
    simp at hin
    exact hii (sG hj1z (by omega:j<z) (by omega)).1.symm
  have lst:∀{i1 j1:Nat}{e1:List PV}{l:List (List PV)},es[i1]? =some e1→e1[j1]? =some (.lst l)→¬(i1=i∧j1=j):=by
   rintro i1 j1 e1 l h4 h5 ⟨rfl,rfl⟩
   rw[hei]at h4;cases h4
   rw[hej]at h5;cases h5
   cases hq
  obtain⟨g1,g2⟩:=s.hr.toHR0.upd (w':=w.setCells b (i*z+j) [u]) (ob':= .zarr z (es.set i (e.set j p))) hob hr0 rfl ⟨rfl,by simp,fun c⟨i1,e1,j1,l,h4,h5,h6⟩=>by
   have hne:=lst h4 h5
   by_cases hii:i=i1
   ·subst hii
    rw[hei]at h4;cases h4
    exact⟨i,e.set j p,j1,l,List.getElem?_set_self hilt,by rw[List.getElem?_set_ne fun h=>hne ⟨rfl,h.symm⟩];exact h5,h6⟩
   ·exact⟨i1,e1,j1,l,by rw[List.getElem?_set_ne hii];exact h4,h5,h6⟩⟩ (cr b _ _ w).symm hother
   (fun k c e hr=>by cases e;rw[hr.inj hrow];exact⟨cur',hrow',hsz'⟩)
   (fun c=>⟨hz,fun e1 he1=>by
    rcases List.mem_or_eq_of_mem_set he1 with hm|rfl
    ·exact hes e1 hm
    ·simpa using hez,hbase,cur',cap,hrow',by rw[hsz'];exact h1,by simpa using h2,h3⟩)
   (fun z1 es1 b1 c v e0 eb⟨i1,e1,j1,l,h4,h5,h6⟩hv=>by
    cases e0;cases eb
    have hne:=lst h4 h5
    have hj1z:j1<z:=by rw[←hes e1 (List.mem_of_getElem? h4)];exact(List.getElem?_eq_some_iff.1 h5).1
    rw[hrow'.cell,hget,if_neg]
    ·rw[←hrow.cell];exact hv
    ·intro hin
     simp at hin
     have:=sG hj1z (by omega:j<z) (by omega:i1*z+j1=i*z+j)
     exact hne this)
  refine⟨.skip,undef,_,ρ,?_, .inr ⟨rfl,rfl⟩,a8 b base hbase _ _ w w (Below.refl _ _),⟨g1,κ,d.upd s.hr.toHR0 hob hr0 rfl hother (fun z1 es1 b1 e0 eb=> ?_),fun b' hb'=>nz.new b' (by rw[cr]at hb';exact hb'),fun b' i' c τ z1 es1 e0 hi'=> ?_⟩,g2,VR.undef⟩
  ·simp[execOp,hop,hu,hrun]
  ·cases e0;cases eb
   have hκ:=d.root ob _ b hob rfl hr0
   intro i1 e1 j1 p1 hi1 hj1
   rcases cell hi1 hj1 with⟨rfl,hc⟩|⟨e2,he2,hp2,_,hc⟩
   ·exact⟨u,by rw[hrow'.cell];exact hc,ER hp hru⟩
   ·obtain⟨v,hv,ht⟩:=d.tree ob _ z es b hob rfl hr0 i1 e2 j1 p1 he2 hp2
    refine⟨v,by rw[hrow'.cell,hc,←hrow.cell];exact hv,d6.go (Nat.le_refl _) p1 _ _ v (fun b2 τ _ e3=>⟨e3,hother b2 fun e4=> ?_⟩) ht⟩
    cases e4
    rw[hκ]at e3
    simp at e3
  ·by_cases hi2:ob=i'
   ·subst hi2
    exact nz.zone b' ob c τ z es e0 hob
   ·rw[List.getElem?_set_ne hi2]at hi'
    exact nz.zone b' i' c τ z1 es1 e0 hi'
 ·cases hc
end
end Gi
namespace Gi
open Go Go.RowKit
variable {KI:KF}
def Pg [KF](Γ:Ctx)(P:Program)(f z c:Nat)(cs es es':List (List PV)):Prop:=
 (es=[]→∀(M:Nat→Prop)(w:World)(g:Value)(ad:Option Addr),Γ.G w→LR M w [] [] (.fn c cs) g→
  Calls P f #[.slice ad 0 0,g] w fun e w'=>e= .returned (.slice ad 0 0)∧Below w.heap.size w w')∧
 (0<z→(∀e∈es,e.length=z)→(∀e∈es',e.length=z)∧es'.length≤es.length∧
  ∀(M:Nat→Prop)(w:World)(g:Value)(b cap:Nat)(cur:Array Value),Γ.G w→Γ.B0≤b→(∀b,M b→b<w.heap.size)→LR M w [] [] (.fn c cs) g→M b→eW w b cur→cur.size=cap*z→es.length≤cap→cap≤maxLen→
   (∀(i:Nat)(e:List PV)(j:Nat)(p:PV),es[i]? =some e→e[j]? =some p→∃v,cur[i*z+j]? =some v∧ar M w p v)→
   Calls P f #[.slice (some ⟨b,0,none⟩) es.length cap,g] w fun e w'=>∃cur',e= .returned (.slice (some ⟨b,0,none⟩) es'.length cap)∧eW w' b cur'∧cur'.size=cur.size∧
    w'.os=w.os∧w'.tape=w.tape∧w'.output=w.output∧w.heap.size≤w'.heap.size∧(∀k,k<w.heap.size→k≠b→w'.heap[k]? =w.heap[k]?)∧
    ∀(i:Nat)(e:List PV)(j:Nat)(p:PV),es'[i]? =some e→e[j]? =some p→∃v,cur'[i*z+j]? =some v∧ar M w p v)
section
variable {Γ:Ctx}{P:Program}{M0:Nat→Prop}{base:Nat}{σ:St}{a:Act}{w:World}{ρ:List (Option Nat)}
theorem Rp (s:SR Γ M0 base σ a w ρ){f z c:Nat}{cs es es':List (List PV)}(ok:Pg Γ P f z c cs es es'){o:Nat}(ho:yP σ.h o=some (z,es)){ux ug:Value}(rx:LR (Mu M0 ρ σ.h) w ρ σ.h (.arr o) ux)(rg:LR (Mu M0 ρ σ.h) w ρ σ.h (.fn c cs) ug):
 Calls P f #[ux,ug] w fun e w'=>∃u ρ',e= .returned u∧Below base w w'∧HR M0 base w' ρ' (σ.h.set o .dead++[.arr z es'])∧
  Ch (Mu M0 ρ σ.h) (Mu M0 ρ' (σ.h.set o .dead++[.arr z es'])) w w' ρ ρ' σ.h (σ.h.set o .dead++[.arr z es'])∧
  VR (Mu M0 ρ' (σ.h.set o .dead++[.arr z es'])) w' ρ' (σ.h.set o .dead++[.arr z es']) (.one (.arr σ.h.length)) u:=by
 obtain⟨ob,ho,hd⟩:∃ob,σ.h[o]? =some ob∧ob.isArrD z es:=by
  unfold yP at ho
  split at ho
  ·rename_i h;cases ho;exact⟨_,h, .inl rfl⟩
  ·rename_i h;cases ho;exact⟨_,h, .inr rfl⟩
  ·cases ho
 obtain⟨h2,e1,e2,e3,k2,c2⟩:=s.hr.asArr ho hd
 have rx2:=LR.ch c2 rx
 obtain⟨r0,ob0,hr0,hob0,hsl⟩:=rx2
 rw[e1]at hob0;cases hob0
 have rg2:LR (Mu M0 ρ h2) w [] [] (.fn c cs) ug:=LR.ch c2 rg
 obtain⟨hz0,hes,kx⟩:=k2.objs o _ r0 e1 hr0
 obtain⟨okn,ok⟩:=ok
 obtain⟨hes',hle,ok⟩:=ok hz0 hes
 have hlt0:o<h2.length:=(List.getElem?_eq_some_iff.1 e1).1
 have hρ:ρ.length=h2.length:=k2.len
 obtain⟨k3,c3⟩:=k2.rename (es':=es.take es'.length) e1 hr0 (fun mu=>by
  refine⟨hz0,fun e he=>hes e (List.mem_of_mem_take he),?_⟩
  cases r0 with
  |none=>
   have e0:es=[]:=kx
   show es.take _=[]
   rw[e0,List.take_nil]
  |some b=>
   obtain⟨hbase,cur,cap,g1,g2,g3,g4,g5⟩:=kx
   exact⟨hbase,cur,cap,g1,g2,by rw[List.length_take];omega,g4,fun i e j p he hp=>by
    rw[List.getElem?_take]at he
    split at he
    ·obtain⟨v,hv,hr⟩:=g5 i e j p he hp
     exact⟨v,hv,hr.weak mu⟩
    ·cases he⟩)
 rw[e3]at k3 c3
 have hnew:(σ.h.set o AObj.dead++[AObj.arr z (es.take es'.length)])[h2.length]? =some (AObj.arr z (es.take es'.length)):=by rw[e2,List.getElem?_append_right (by simp)];simp
 have hrn:(ρ++[r0])[h2.length]? =some r0:=by rw[←hρ];simp
 have hset:(σ.h.set o AObj.dead++[AObj.arr z (es.take es'.length)]).set h2.length (AObj.arr z es')=σ.h.set o AObj.dead++[AObj.arr z es']:=by rw[e2,List.set_append_right _ _ (by simp)];simp
 cases r0 with
 |none=>
  obtain rfl:es=[]:=kx
  obtain rfl:es'=[]:=by simpa using hle
  obtain⟨ad,ex⟩:∃ad,ux= .slice ad 0 0:=hsl
  subst ex
  refine(okn rfl _ w ug ad s.inv rg2).mono fun e w'⟨he,hb⟩=> ?_
  subst he
  rw[List.take_nil]at k3 c3
  obtain⟨k4,c4⟩:=k3.world hb.size (fun b hlt=>hb.block b hlt)
  refine⟨_,_,rfl,hb.mono s.hr.le,k4,c2.trans (c3.trans c4),none, .arr z [],?_,?_,ad,rfl⟩
  ·rw[←e2,←hρ];simp
  ·rw[List.getElem?_append_right (by simp)];simp
 |some b=>
  obtain⟨hbase,cur,cap,hrow,h1,h2',h3,h4⟩:=kx
  obtain⟨cur1,cap1,hrow1,h11,h21,h31,ex⟩:=hsl
  cases hrow.inj hrow1
  have hcap:cap1=cap:=Nat.eq_of_mul_eq_mul_right hz0 (h11.symm.trans h1)
  subst hcap ex
  refine(ok _ w ug b cap1 cur s.inv (Nat.le_trans s.b0 hbase) (fun b hb=>Mu.lt k2 hb) rg2 (.inr ⟨o,_,e1,rfl,hr0⟩) hrow h1 h2' h3 h4).mono fun e w'⟨cur',he,hrow',hsize,q1,q2,q3,q4,q5,q6⟩=> ?_
  subst he
  obtain⟨T,hw'⟩:=hrow'
  have hbl:=hrow.lt
  obtain⟨w1,hw1⟩:∃w1:World,w1={w with heap:=w.heap.set b (.cells cur' T (0,0)) hbl}:=⟨_,rfl⟩
  have g1:w1.heap.size=w.heap.size:=by rw[hw1];simp
  have g2:w1.heap[b]? =some (.cells cur' T (0,0)):=by rw[hw1];simp
  have g3:∀k,k≠b→w1.heap[k]? =w.heap[k]? :=fun k hk=>by rw[hw1];exact Array.getElem?_set_ne hbl (Ne.symm hk)
  obtain⟨k4,c4⟩:=k3.upd (w':=w1) (ob':= .arr z es') hnew hrn rfl ⟨rfl,by rw[List.length_take];omega⟩ g1.symm
   (fun k hk=>g3 k (fun e=>hk (by rw[e])))
   (fun k c e hrw=>by cases e;rw[hrw.inj hrow];exact⟨cur',⟨T,g2⟩,hsize⟩)
   (fun c5=>⟨hz0,hes',hbase,cur',cap1,⟨T,g2⟩,by rw[hsize];exact h1,Nat.le_trans hle h2',h3,fun i e j p he hp=>by
    obtain⟨v,hv,hr⟩:=q6 i e j p he hp
    exact⟨v,hv,ar.go c5.go p v (ar.go c3.go p v hr)⟩⟩)
  rw[hset]at k4 c4
  obtain⟨k5,c5⟩:=k4.world (w':=w') (by omega) (fun k hk=>by
   by_cases e:k=b
   ·subst e;rw[g2];exact hw'
   ·rw[g3 k e];exact q5 k (by omega) e)
  refine⟨_,_,rfl,⟨q1,q2,q3,q4,fun k hk=>q5 k (Nat.lt_of_lt_of_le hk s.hr.le) (by omega)⟩,k5,c2.trans (c3.trans (c4.trans c5)),some b, .arr z es',?_,?_,cur',cap1,⟨T,hw'⟩,by rw[hsize];exact h1,Nat.le_trans hle h2',h3,rfl⟩
  ·rw[←e2,←hρ];simp
  ·rw[List.getElem?_append_right (by simp)];simp
end
end Gi
