/- Of this proof. -/
import Derived.Test.YtgmnakghjemjlaaGreatGim
set_option linter.unusedSimpArgs false
set_option linter.unusedVariables false
namespace Gi
open Go Go.RowKit
variable {KI:KF}
section
variable {Γ:Ctx}{P:Program}{M0:Nat→Prop}{base:Nat}{σ:St}{a:Act}{w:World}{ρ:List (Option Nat)}
theorem Mu.lt {h:List AObj}(k:HR M0 base w ρ h){b:Nat}(hm:Mu M0 ρ h b):b<w.heap.size:=by
 rcases hm with hm|⟨o,ob,ho,hmut,hr⟩
 ·exact(k.old b hm).1
 ·exact(k.objs o ob _ ho hr).lt (AObj.mut_live hmut)
def L.ob :L→Option AObj
 | .own z es=>some (.arr z es)
 | .down z es=>some (.darr z es)
 |_=>none
def AObj.lst :AObj→List (List PV)
 | .arr _ es=>es
 | .darr _ es=>es
 |_=>[]
def Pl (g:List AObj)(ls:List L)(q:List L×List AObj):Prop:=
 q.1.length=ls.length∧(∃t,q.2=g++t)∧
  ∀(i:Nat)(l:L),ls[i]? =some l→∃l',q.1[i]? =some l'∧((∃ob o,l.ob=some ob∧l'= .arr o∧q.2[o]? =some ob)∨(l.ob=none∧l'=l))
theorem jT :∀(ls:List L)(g:List AObj),ls.all L.clean=true→Pl g ls (thawL g ls)
 |[],g,_=>⟨rfl,⟨[],by simp[thawL]⟩,fun i l hl=>by simp at hl⟩
 |l::ls,g,hc=>by
  simp only[List.all_cons,Bool.and_eq_true]at hc
  have other:l.ob=none→thawL g (l::ls)=(l::(thawL g ls).1,(thawL g ls).2)→Pl g (l::ls) (thawL g (l::ls)):=fun hno e=>by
   obtain⟨h1,⟨t,ht⟩,h3⟩:=jT ls g hc.2
   rw[e]
   refine⟨by simp[h1],⟨t,ht⟩,fun i l' hl=> ?_⟩
   cases i with
   |zero=>simp at hl;subst hl;exact⟨l,rfl, .inr ⟨hno,rfl⟩⟩
   |succ i=>simpa using h3 i l' (by simpa using hl)
  have mine:∀ob,l.ob=some ob→thawL g (l::ls)=(.arr g.length::(thawL (g++[ob]) ls).1,(thawL (g++[ob]) ls).2)→Pl g (l::ls) (thawL g (l::ls)):=fun ob hob e=>by
   obtain⟨h1,⟨t,ht⟩,h3⟩:=jT ls (g++[ob]) hc.2
   rw[e]
   refine⟨by simp[h1],⟨[ob]++t,by simp only;rw[ht,List.append_assoc]⟩,fun i l' hl=> ?_⟩
   cases i with
   |zero=>
    simp at hl;subst hl
    refine⟨.arr g.length,rfl, .inl ⟨ob,g.length,hob,rfl,?_⟩⟩
    simp only
    rw[ht,List.append_assoc,List.getElem?_append_right (Nat.le_refl _)]
    simp
   |succ i=>simpa using h3 i l' (by simpa using hl)
  cases l with
  |own z es=>exact mine _ rfl rfl
  |down z es=>exact mine _ rfl rfl
  |pv p=>exact other rfl rfl
  |nil=>exact other rfl rfl
  |_=>simp[L.clean]at hc
theorem uE {h hr:List AObj}{ρr:List (Option Nat)}{w':World}(k:HR M0 base w ρ h)(hb:Below w.heap.size w w')(kr:HR (Mu M0 ρ h) w.heap.size w' ρr hr){l l':L}{v:Value}
 (hl:(∃ob o,l.ob=some ob∧l'= .arr o∧hr[o]? =some ob)∨(l.ob=none∧l'=l)) (hc:l.clean=true) (r:LR (Mu (Mu M0 ρ h) ρr hr) w' ρr hr l' v):LR (Mu M0 ρ h) w' ρ h (du l) v:=by
 have weak:∀b,Mu M0 ρ h b→Mu (Mu M0 ρ h) ρr hr b:=fun b hm=> .inl hm
 rcases hl with⟨ob,o,e0,rfl,ho⟩|⟨hno,rfl⟩
 ·obtain⟨q,ob',h1,h2,hs⟩:=r
  rw[ho]at h2;cases h2
  have main:∀{z:Nat}{es:List (List PV)},tJ (Mu (Mu M0 ρ h) ρr hr) w.heap.size w' ρr hr q (.arr z es)→na w' (.arr z es) q v→ak (Mu M0 ρ h) w' (.lst es) v:=by
   intro z es k0 hs
   obtain⟨hz,hes,kx⟩:=k0
   cases q with
   |none=>
    obtain rfl:es=[]:=kx
    obtain⟨_,rfl⟩:=hs
    simp only[ak]
    exact .inl ⟨by trivial,_,_,rfl⟩
   |some b=>
    obtain⟨hbase,cur,cap,hrow,g1,g2,g3,g4⟩:=kx
    obtain⟨cur',cap',hrow',_,hc',_,rfl⟩:=hs
    exact qz hrow hes (fun hm=>by have:=Mu.lt k hm;omega) hc' (fun i e j p he hp=>by
     obtain⟨v,hv,hrd⟩:=g4 i e j p he hp
     exact⟨v,hv,hrd.weak weak⟩)
  have k0:=kr.objs o _ q ho h1
  cases l with
  |own z es=>cases e0;exact main k0 hs
  |down z es=>cases e0;exact main k0 hs
  |_=>cases e0
 ·cases l' with
  |pv p=>exact ak.weak weak r
  |nil=>exact r
  |own z es=>cases hno
  |down z es=>cases hno
  |_=>simp[L.clean]at hc
theorem zv {h:List AObj}{ρr:List (Option Nat)}{w':World}(k:HR M0 base w ρ h)(hb:Below w.heap.size w w'){ls:List L}{vs:List Value}{g:List AObj}{hr:List AObj}(hhr:∃t,hr=(thawL g ls).2++t)(kr:HR (Mu M0 ρ h) w.heap.size w' ρr hr)(hc:ls.all L.clean=true)
 (r:pG (Mu (Mu M0 ρ h) ρr hr) w' ρr hr (thawL g ls).1 vs):pG (Mu M0 ρ h) w' ρ h (ls.map du) vs:=by
 obtain⟨h1,_,h3⟩:=jT ls g hc
 obtain⟨t,ht⟩:=hhr
 refine⟨by rw[List.length_map,←h1];exact r.1,fun i l v hl hv=> ?_⟩
 simp only[List.getElem?_map,Option.map_eq_some_iff]at hl
 obtain⟨l0,h0,rfl⟩:=hl
 obtain⟨l',hl',hcase⟩:=h3 i l0 h0
 refine uE k hb kr ?_ ((List.all_eq_true.1 hc) l0 (List.mem_of_getElem? h0)) (r.2 i l' v hl' hv)
 rcases hcase with⟨ob,o,e1,e2,e3⟩|hcase
 ·exact .inl ⟨ob,o,e1,e2,by rw[ht,List.getElem?_append_left (List.getElem?_eq_some_iff.1 e3).1];exact e3⟩
 ·exact .inr hcase
theorem E5 :∀(xs:List (Bool×List L))(g:List AObj),(xs.all fun x=>x.2.all L.clean)=true→∃t,(thawT g xs).2=g++t
 |[],g,_=>⟨[],by simp[thawT]⟩
 |(b,ls)::xs,g,hc=>by
  simp only[List.all_cons,Bool.and_eq_true]at hc
  obtain⟨_,⟨t,ht⟩,_⟩:=jT ls g hc.1
  obtain⟨t',ht'⟩:=E5 xs (thawL g ls).2 hc.2
  exact⟨t++t',by simp only[thawT];rw[ht',ht,List.append_assoc]⟩
theorem Dm :∀(xs:List (Bool×List L))(g:List AObj),(xs.all fun x=>x.2.all L.clean)=true→(thawT g xs).1.length=xs.length∧
 ∀(i:Nat)(x:Bool×List L),xs[i]? =some x→∃g',(thawT g xs).1[i]? =some (x.1,(thawL g' x.2).1)∧∃t,(thawT g xs).2=(thawL g' x.2).2++t
 |[],g,_=>⟨rfl,fun i x hx=>by simp at hx⟩
 |(b,ls)::xs,g,hc=>by
  simp only[List.all_cons,Bool.and_eq_true]at hc
  obtain⟨h1,h2⟩:=Dm xs (thawL g ls).2 hc.2
  simp only[thawT]
  refine⟨by simp[h1],fun i x hx=> ?_⟩
  cases i with
  |zero=>simp at hx;subst hx;exact⟨g,rfl,E5 xs _ hc.2⟩
  |succ i=>simpa using h2 i x (by simpa using hx)
theorem Gb {h:List AObj}{w':World}{r:V}{v:Value}(k:HR M0 base w ρ h)(hb:Below w.heap.size w w')(hc:r.clean=true)(rr:tK (Mu M0 ρ h) w.heap.size w' r v):VR (Mu M0 ρ h) w' ρ h (dL r) v:=by
 obtain⟨ρr,kr,vr⟩:=rr
 cases r with
 |one l=>
  obtain⟨l',h',e'⟩:=hX [] l
  simp only[thaw,e']at kr vr
  have hcl:[l].all L.clean=true:=by simpa[V.clean]using hc
  obtain⟨_,_,h3⟩:=jT [l] [] hcl
  obtain⟨l'',hl'',hcase⟩:=h3 0 l rfl
  rw[e']at hl'' hcase
  simp at hl'';subst hl''
  exact uE k hb kr hcase (by simpa using hcl) vr
 |agg ls=>
  obtain⟨cs,rfl,hl⟩:=vr
  exact⟨cs,rfl,zv k hb ⟨[],by simp[thaw]⟩ kr (by simpa[V.clean]using hc) hl⟩
 |tup xs=>
  have hcl:(xs.all fun x=>x.2.all L.clean)=true:=by simpa[V.clean]using hc
  obtain⟨vs,rfl,h1,h2⟩:=vr
  obtain⟨t1,t2⟩:=Dm xs [] hcl
  refine⟨vs,rfl,?_,fun i x u hx hu=> ?_⟩
  ·simp only[dL,List.length_map];rw[←t1];exact h1
  ·simp only[List.getElem?_map,Option.map_eq_some_iff]at hx
   obtain⟨x0,h0,rfl⟩:=hx
   obtain⟨g',e1,e2⟩:=t2 i x0 h0
   have:=h2 i _ u e1 hu
   have hx0:=(List.all_eq_true.1 hcl) x0 (List.mem_of_getElem? h0)
   obtain⟨b,ls⟩:=x0
   cases b with
   |true=>obtain⟨cs,rfl,hr'⟩:=this;exact⟨cs,rfl,zv k hb e2 kr hx0 hr'⟩
   |false=>
    match ls,this,hx0,e2 with
    |[l],this,hx0,e2=>
     obtain⟨l',h',e'⟩:=hX g' l
     simp only[e']at this
     obtain⟨_,_,h3⟩:=jT [l] g' hx0
     obtain⟨l'',hl'',hcase⟩:=h3 0 l rfl
     rw[e']at hl'' hcase
     simp at hl'';subst hl''
     obtain⟨t,ht⟩:=e2
     refine uE k hb kr ?_ (by simpa using hx0) this
     rcases hcase with⟨ob,o,q1,q2,q3⟩|hcase
     ·refine .inl ⟨ob,o,q1,q2,?_⟩
      have:(thaw [] (V.tup xs)).2=(thawT [] xs).2:=rfl
      rw[this,ht,e',List.getElem?_append_left (List.getElem?_eq_some_iff.1 q3).1]
      exact q3
     ·exact .inr hcase
    |[],this,_,_=>exact this.elim
    |l1::l2::ls',this,hx0,_=>
     have hlen:=(jT (l1::l2::ls') g' hx0).1
     revert this
     generalize (thawL g' (l1::l2::ls')).1=q at hlen
     intro this
     match q,hlen,this with
     |_::_::_,_,this=>exact this.elim
theorem vj.weak {M M':Nat→Prop}(h:∀b,M' b→M b){e:List PV}{u:Value}(r:vj M w e u):vj M' w e u:=
 r.go ⟨Nat.le_refl _,fun b _=>h b,fun _ _ _=>rfl⟩
theorem vj.arg {M:Nat→Prop}{e:List PV}{u:Value}(r:vj M w e u):VR M w [] [] (G9 e) u:=by
 obtain⟨b,o,rfl,hb,hlt,hr⟩:=r
 exact⟨b,o,rfl,hb,hlt,hr⟩
theorem iC {h:List AObj}{M:Nat→Prop}:∀{vs xz:List V}{us:List Value},ap h vs=some xz→vs.length=us.length→(∀(i:Nat)(v:V)(u:Value),vs[i]? =some v→us[i]? =some u→VR (Mu M0 ρ h) w ρ h v u)→
 (∀(v:V)(l:L)(p:PV)(u:Value),v∈vs→l∈v.cells→LR (Mu M0 ρ h) w ρ h l u→l.view h=some p→ak M w p u)→(∀e u,vj (Mu M0 ρ h) w e u→vj M w e u)→oW M w xz us
 |[],xz,us,e,hl,_,_,_=>by
  simp[ap]at e;subst e
  exact⟨hl,fun i x u hx=>by simp at hx⟩
 |v::vs,xz,[],e,hl,_,_,_=>by simp at hl
 |v::vs,xz,u::us,e,hl,hvr,hrd,hcap=>by
  unfold ap at e
  split at e
  ·rename_i p ps h1 h2
   cases e
   obtain⟨i1,i2⟩:=iC h2 (by simpa using hl) (fun i v' u' hv hu=>hvr (i+1) v' u' (by simpa using hv) (by simpa using hu)) (fun v' l p u' hv=>hrd v' l p u' (by simp[hv])) hcap
   refine⟨by simp[i1],fun i x u' hx hu=> ?_⟩
   cases i with
   |succ i=>exact i2 i x u' (by simpa using hx) (by simpa using hu)
   |zero=>
    simp at hx hu
    subst hx;subst hu
    have r:=hvr 0 v u rfl rfl
    cases v with
    |one l=>
     by_cases hfn:∃k caps,l= .fn k caps
     ·obtain⟨k,caps,rfl⟩:=hfn
      simp only[V.view]at h1
      cases h1
      obtain⟨f,cs,rfl,hk,hl2,hc⟩:=r
      refine⟨f,cs,rfl,hk,hl2,fun i e u' he hu'=> ?_⟩
      exact hcap _ _ (hc i e u' he hu')
     ·have h1':(match l.view h with|some p=>some (V.one (.pv p))|none=>none)=some p:=by
       cases l with
       |fn k caps=>exact absurd ⟨k,caps,rfl⟩ hfn
       |_=>exact h1
      split at h1'
      ·rename_i q hq
       cases h1'
       exact hrd (.one l) l q u (by simp) (by simp[V.cells]) r hq
      ·cases h1'
    |agg ls=>
     simp only[V.view]at h1
     split at h1
     ·rename_i qs hqs
      cases h1
      obtain⟨cs,rfl,hls⟩:=r
      obtain⟨e1,e2⟩:=lG hqs
      refine⟨cs,rfl,by rw[List.length_map,e1];exact hls.1,fun j l c hl' hc=> ?_⟩
      simp only[List.getElem?_map,Option.map_eq_some_iff]at hl'
      obtain⟨q,hq,rfl⟩:=hl'
      have hj:j<ls.length:=by rw[←e1];exact(List.getElem?_eq_some_iff.1 hq).1
      have hlj:ls[j]? =some ls[j]:=by simp[hj]
      obtain⟨q',hq',hv'⟩:=e2 j _ hlj
      rw[hq]at hq';cases hq'
      exact hrd (.agg ls) ls[j] q c (by simp) (List.getElem_mem hj) (hls.2 j _ c hlj hc) hv'
     ·cases h1
    |tup xs=>cases h1
  ·cases e
theorem Mu.nil (b:Nat):Mu M0 [] [] b↔M0 b:=by simp[Mu]
theorem Ig {fn:AFn}{xz:List V}{vals:Array Value}(hG:Γ.G w)(h0:∀b,M0 b→b<w.heap.size)(ha:oW M0 w xz vals.toList):
 SR Γ M0 w.heap.size (bu fn xz) {tmps:=vals++Array.replicate (fn.ntmps-vals.size) undef,defers:=[]} w []:=by
 have hl:xz.length=vals.size:=by rw[ha.1];simp
 refine⟨⟨⟨rfl,fun b hb=>⟨h0 b hb,fun o ob ho=>by simp[bu]at ho⟩,Nat.le_refl _,fun o ob r ho=>by simp[bu]at ho,fun o o' ob ob' b ho=>by simp[bu]at ho⟩,fun _=>[],⟨fun o ob b ho=>by simp[bu]at ho,fun o ob z es b ho=>by simp[bu]at ho⟩,fun _ _=>rfl,nofun⟩,⟨rfl,by simp[bu,hl],fun i v u hv hu=> ?_⟩,hG,Γ.size w hG⟩
 have weak:∀{x:V}{u:Value},VR M0 w [] [] x u→VR (Mu M0 [] []) w [] [] x u:=fun r=>r.ch ⟨⟨Nat.le_refl _,fun b _ hm=>(Mu.nil b).1 hm,fun _ _ _=>rfl⟩,fun _ cur hr=>⟨cur,hr,rfl⟩,fun o r ob hr=>by simp at hr,fun o b z es c v hr=>by simp at hr⟩
 simp only[bu]at hv
 by_cases hi:i<xz.length
 ·rw[List.getElem?_append_left hi]at hv
  rw[Array.getElem?_append_left (by omega)]at hu
  exact weak (ha.2 i v u hv (by simpa using hu))
 ·rw[List.getElem?_append_right (by omega)]at hv
  rw[Array.getElem?_append_right (by omega)]at hu
  have e1:v= .tup []:=by
   have:=(List.getElem?_eq_some_iff.1 hv).2
   simp at this;exact this.symm
  have e2:u=undef:=by
   have:=(Array.getElem?_eq_some_iff.1 hu).2
   simp at this;exact this.symm
  rw[e1,e2]
  exact VR.undef
end
end Gi
