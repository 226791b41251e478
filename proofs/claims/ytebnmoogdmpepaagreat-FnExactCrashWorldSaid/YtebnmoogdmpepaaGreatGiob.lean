/- Of this proof. -/
import Derived.Test.YtebnmoogdmpepaaGreatGild
import Derived.Test.YtebnmoogdmpepaaGreatGilg
import Derived.Test.YtebnmoogdmpepaaGreatGilh
set_option linter.unusedSimpArgs false
set_option linter.unusedVariables false
namespace Gi
open Go Go.RowKit
variable {KI:KF}
section
variable {Γ:Ctx}{P:Program}{M0:Nat→Prop}{base:Nat}{σ:St}{a:Act}{w:World}{ρ:List (Option Nat)}{h:List AObj}{κ:Nat→List Nat}
def inM (κ:Nat→List Nat)(os:List Nat)(b:Nat):Prop:=∃(q o c:Nat)(τ:List Nat),os[q]? =some o∧κ b=o::c::τ
theorem Ru {os:List Nat}(hn:os.Nodup){i o:Nat}(hi:os[i]? =some o):os.findIdx? (· ==o)=some i:=by
 obtain⟨hlt,e⟩:=Zb.1 hi
 rw[Yg]
 refine⟨hlt,by simp[e],fun j hj=> ?_⟩
 simp only[beq_iff_eq,ne_eq,Bool.not_eq_true,beq_eq_false_iff_ne]
 intro e2
 have h1:os[j]? =some o:=Zb.2 ⟨by omega,e2⟩
 have:=(List.getElem?_inj (by omega) hn).1 (h1.trans hi.symm)
 omega
theorem Rv {os:List Nat}{i o:Nat}(h:os.findIdx? (· ==o)=some i):os[i]? =some o:=by
 rw[Yg]at h
 obtain⟨hlt,h1,_⟩:=h
 simp only[beq_iff_eq]at h1
 simp[hlt,h1]
theorem HR.subZ (k:HR0 M0 base w ρ h)(d:Deep κ base w ρ h)(n:Zon κ M0 w h){os:List Nat}(ho:∀o∈os,∃z es,h[o]? =some (.zarr z es))(hn:os.Nodup):
 HR (inM κ os) base w (os.map (jy ρ)) (os.map (fP h)):=by
 have get:∀{i:Nat}{x:AObj}{r:Option Nat},(os.map (fP h))[i]? =some x→(os.map (jy ρ))[i]? =some r→∃o,os[i]? =some o∧h[o]? =some x∧(∃z es,x= .zarr z es)∧ρ[o]? =some r:=by
  intro i x r hx hr
  simp only[Zp,Zj]at hx hr
  obtain⟨o,h1,rfl⟩:=hx
  obtain⟨o',h2,rfl⟩:=hr
  rw[h1]at h2;cases h2
  obtain⟨z,es,hz⟩:=ho o (Zk h1)
  obtain⟨r,hr⟩:=k.mem hz
  have e:fP h o= .zarr z es:=by simp[fP,hz]
  exact⟨o,h1,by rw[e];exact hz,⟨z,es,e⟩,by simp[jy,hr]⟩
 refine⟨⟨by simp,fun b hm=>⟨?_,fun i x hi hx hri=> ?_⟩,k.le,fun i x r hi hr=> ?_,fun i i' x x' b h1 h2 m1 m2 r1 r2=> ?_⟩,fun b=>match κ b with
  |o::τ=>(match os.findIdx? (· ==o)with
   |some q=>q::τ
   |none=>[])
  |[]=>[],⟨fun i x b hi hx hri=> ?_,fun i x z es b hi hd hri=> ?_⟩,fun b hb=>by simp only[n.new b hb],fun b q c τ z es e hi=> ?_⟩
 ·obtain⟨q,o,c,τ,_,e⟩:=hm
  by_cases hlt:b<w.heap.size
  ·exact hlt
  ·rw[n.new b (by omega)]at e;cases e
 ·obtain⟨q,o,c,τ,_,e⟩:=hm
  obtain⟨o',_,h1,_,h2⟩:=get hi hri
  rw[d.root o' x b h1 hx h2]at e
  cases e
 ·obtain⟨o,_,h1,⟨z,es,rfl⟩,h2⟩:=get hi hr
  exact k.objs o _ r h1 h2
 ·obtain⟨o,p1,q1,_,s1⟩:=get h1 r1
  obtain⟨o',p2,q2,_,s2⟩:=get h2 r2
  have e:=k.apart o o' x x' b q1 q2 m1 m2 s1 s2
  subst e
  exact(List.getElem?_inj (Zb.1 p1).1 hn).1 (p1.trans p2.symm)
 ·obtain⟨o,h0,h1,_,h2⟩:=get hi hri
  simp only[d.root o x b h1 hx h2,Ru hn h0]
 ·obtain⟨o,h0,h1,_,h2⟩:=get hi hri
  exact(d.tree o x z es b h1 hd h2).go (Zl _) (fun _ _=>rfl) ((k.objs o x _ h1 h2).rows hd).2 (fun c b' τ _ e=>⟨by simp only[e,Zf,Zi,Ru hn h0],rfl⟩)
 ·split at e
  ·rename_i o τ0 hκ
   split at e
   ·rename_i q' hq
    cases e
    exact⟨q,o,c,τ,Rv hq,hκ⟩
   ·cases e
  ·cases e
theorem HR.rejoin (k:HR0 M0 base w ρ h)(d:Deep κ base w ρ h)(n:Zon κ M0 w h){os:List Nat}(ho:∀o∈os,∃z es,h[o]? =some (.zarr z es))(hn:os.Nodup){w':World}{h1 h':List AObj}
 (k1:HR (inM κ os) base w' (os.map (jy ρ)) h1) (c:Ch (Mu (inM κ os) (os.map (jy ρ)) (os.map (fP h))) (Mu (inM κ os) (os.map (jy ρ)) h1) w w' (os.map (jy ρ)) (os.map (jy ρ)) (os.map (fP h)) h1)
 (hlen:h'.length=h.length) (hin:∀(q o:Nat),os[q]? =some o→h'[o]? =h1[q]?) (hout:∀(i:Nat),¬i∈os→h'[i]? =h[i]?):
 HR M0 base w' ρ h'∧Ch (Mu M0 ρ h) (Mu M0 ρ h') w w' ρ ρ h h':=by
 have one:∀{q o:Nat},os[q]? =some o→∃z es es' r,h[o]? =some (.zarr z es)∧ρ[o]? =some r∧(os.map (fP h))[q]? =some (.zarr z es)∧(os.map (jy ρ))[q]? =some r∧h1[q]? =some (.zarr z es')∧es.length=es'.length∧∀p,vY z es p→vY z es' p:=by
  intro q o hq
  obtain⟨z,es,hz⟩:=ho o (Zk hq)
  obtain⟨r,hr⟩:=k.mem hz
  have e1:(os.map (fP h))[q]? =some (.zarr z es):=by simp[hq,fP,hz]
  have e2:(os.map (jy ρ))[q]? =some r:=by simp[hq,jy,hr]
  obtain⟨ob',_,h2,s⟩:=c.obj q r _ e2 e1 (by simp)
  obtain⟨es',rfl,s1,s2⟩:=s.zarr
  exact⟨z,es,es',r,hz,hr,e1,e2,h2,s1,s2⟩
 have mem:∀{i:Nat},i∈os→∃q:Nat,os[q]? =some i:=fun hi=>by
  obtain⟨q,hq,e⟩:=Yp hi
  exact⟨q,by simp[hq,e]⟩
 have inM0:∀b,inM κ os b→M0 b:=fun b⟨q,o,c,τ,hq,e⟩=>by
  obtain⟨z,es,_,_,hz,_⟩:=one hq
  exact n.zone b o c τ z es e hz
 have muc:∀b,Mu (inM κ os) (os.map (jy ρ)) (os.map (fP h)) b→Mu M0 ρ h b:=fun b hm=>by
  rcases hm with hm|⟨q,x,hx,hmx,hr⟩
  ·exact .inl (inM0 b hm)
  ·simp only[Zp,Zj]at hx hr
   obtain⟨o,hq,rfl⟩:=hx
   obtain⟨o',hq',e⟩:=hr
   rw[hq]at hq';cases hq'
   obtain⟨z,es,_,r,hz,hr,_⟩:=one hq
   refine .inr ⟨o,_,hz,rfl,?_⟩
   simp only[jy,hr,Y2]at e
   rw[hr,e]
 have frame:∀b,b<w.heap.size→¬inM κ os b→(∀o∈os,ρ[o]? ≠some (some b))→w'.heap[b]? =w.heap[b]? :=fun b hb hm hr=>c.go.block b hb fun hmc=>by
  rcases hmc with hm'|⟨q,x,hx,hmx,hr'⟩
  ·exact hm hm'
  ·simp only[Zp,Zj]at hr'
   obtain⟨o,hq,e⟩:=hr'
   obtain⟨z,es,_,r,hz,hr0,_⟩:=one hq
   refine hr o (Zk hq) ?_
   simp only[jy,hr0,Y2]at e
   rw[hr0,e]
 have other:∀{i:Nat}{x:AObj}{b:Nat},¬i∈os→h[i]? =some x→x.mut=true→ρ[i]? =some (some b)→w'.heap[b]? =w.heap[b]? :=fun{i x b}hi hx hm hr=>by
  refine frame b ((k.objs i x _ hx hr).lt (AObj.mut_live hm)) (fun⟨q,o,c,τ,_,e⟩=> ?_) (fun o ho' hr'=> ?_)
  ·rw[d.root i x b hx hm hr]at e;cases e
  ·obtain⟨q,hq⟩:=mem ho'
   obtain⟨z,es,_,_,hz,_⟩:=one hq
   exact hi (k.apart i o x _ b hx hz hm rfl hr hr'▸ho')
 have lift:∀{i:Nat}{x:AObj},h'[i]? =some x→x.mut=true→∃y,h[i]? =some y∧y.mut=true:=fun{i x}hx hm=>by
  by_cases hi:i∈os
  ·obtain⟨q,hq⟩:=mem hi
   obtain⟨z,es,_,_,hz,_⟩:=one hq
   exact⟨_,hz,rfl⟩
  ·exact⟨x,by rw[←hout i hi];exact hx,hm⟩
 have mu':∀b,Mu M0 ρ h' b→Mu M0 ρ h b:=fun b hm=>by
  rcases hm with hm|⟨i,x,hx,hmx,hr⟩
  ·exact .inl hm
  ·obtain⟨y,hy,hmy⟩:=lift hx hmx
   exact .inr ⟨i,y,hy,hmy,hr⟩
 have C:Ch (Mu M0 ρ h) (Mu M0 ρ h') w w' ρ ρ h h':=by
  refine⟨⟨c.go.size,fun b _ hm=>mu' b hm,fun b hb hm=>c.go.block b hb fun hmc=>hm (muc b hmc)⟩,c.row,fun i r x hr hx _=> ?_,fun i b z es p v hr hx hl hv=> ?_⟩
  ·by_cases hi:i∈os
   ·obtain⟨q,hq⟩:=mem hi
    obtain⟨z,es,es',_,hz,_,_,_,h2,s1,s2⟩:=one hq
    rw[hz]at hx;cases hx
    exact⟨.zarr z es',hr,by rw[hin q i hq];exact h2,rfl,s1,s2⟩
   ·exact⟨x,hr,by rw[hout i hi];exact hx,qQ.refl x⟩
  ·by_cases hi:i∈os
   ·obtain⟨q,hq⟩:=mem hi
    obtain⟨z0,es0,_,r,hz,hr0,e1,e2,_⟩:=one hq
    rw[hz]at hx;cases hx
    rw[hr]at hr0;cases hr0
    exact c.zar q b z es p v e2 e1 hl hv
   ·unfold World.cell? at hv⊢
    rw[other hi hx rfl hr]
    exact hv
 obtain⟨κ',d',n'⟩:=k1.deep
 have own:∀{q c b:Nat}{τ:List Nat},κ' b=q::c::τ→b<w'.heap.size→∀o,os[q]? =some o→inM κ os b:=fun{q c b τ}e _ o hq=>by
  obtain⟨z,es,es',_,_,_,_,_,h2,_⟩:=one hq
  exact n'.zone b q c τ z es' e h2
 have lt:∀b,inM κ os b→b<w.heap.size:=fun b⟨q,o,c,τ,_,e⟩=>by
  by_cases hlt:b<w.heap.size
  ·exact hlt
  ·rw[n.new b (by omega)]at e;cases e
 classical
 refine⟨⟨⟨by rw[hlen];exact k.len,fun b hm=>⟨Z3 (k.old b hm).1 c.go.size,fun i x hx hmx hr=> ?_⟩,k1.le,fun i x r hx hr=> ?_,fun i i' x x' b h1 h2 m1 m2 r1 r2=> ?_⟩,
  fun b=>if inM κ os b∨(∃o∈os,ρ[o]? =some (some b))then(match κ' b with
   |q::τ=>(match os[q]? with
    |some o=>o::τ
    |none=>[])
   |[]=>[])else κ b,⟨fun i x b hx hmx hr=> ?_,fun i x z es b hx hd hr=> ?_⟩,fun b hb=> ?_,fun b i c' τ z es e hx=> ?_⟩,C⟩
 ·obtain⟨y,hy,hmy⟩:=lift hx hmx
  exact(k.old b hm).2 i y hy hmy hr
 ·by_cases hi:i∈os
  ·obtain⟨q,hq⟩:=mem hi
   obtain⟨z,es,es',r0,hz,hr0,_,e2,h2,_⟩:=one hq
   rw[hin q i hq,h2]at hx;cases hx
   rw[hr0]at hr;cases hr
   exact k1.objs q _ _ h2 e2
  ·rw[hout i hi]at hx
   have kx:=k.objs i x r hx hr
   refine kx.keep C (fun b e hd=> ?_)
   subst e
   by_cases hm:x.mut=true
   ·exact other hi hx hm hr
   ·have hnm:¬Mu M0 ρ h b:=by
     cases x with
     |froz z es=>exact kx.2.2.1
     |fbox ps=>obtain⟨b1,cur1,e1,hm',_⟩:=kx;cases e1;exact hm'
     |dead=>exact absurd rfl hd
     |res=>cases kx
     |_=>exact absurd rfl hm
    exact c.go.block b (kx.lt hd) fun hmc=>hnm (muc b hmc)
 ·obtain⟨y,hy,hmy⟩:=lift h1 m1
  obtain⟨y',hy',hmy'⟩:=lift h2 m2
  exact k.apart i i' y y' b hy hy' hmy hmy' r1 r2
 ·by_cases hi:i∈os
  ·obtain⟨q,hq⟩:=mem hi
   obtain⟨z,es,es',r0,hz,hr0,_,e2,h2,_⟩:=one hq
   rw[hr]at hr0;cases hr0
   rw[if_pos (.inr ⟨i,hi,hr⟩),d'.root q _ b h2 rfl e2]
   simp only[hq]
  ·rw[hout i hi]at hx
   rw[if_neg,d.root i x b hx hmx hr]
   rintro(⟨q,o,c0,τ,_,e⟩|⟨o,ho',hr'⟩)
   ·rw[d.root i x b hx hmx hr]at e;cases e
   ·obtain⟨q,hq⟩:=mem ho'
    obtain⟨z,es,_,_,hz,_⟩:=one hq
    exact hi (k.apart i o x _ b hx hz hmx rfl hr hr'▸ho')
 ·by_cases hi:i∈os
  ·obtain⟨q,hq⟩:=mem hi
   obtain⟨z0,es0,es',r0,hz,hr0,_,e2,h2,_⟩:=one hq
   rw[hr]at hr0;cases hr0
   rw[hin q i hq,h2]at hx;cases hx
   cases hd
   exact(d'.tree q _ z es b h2 rfl e2).go (Zl _) (fun _ _=>rfl) ((k1.objs q _ _ h2 e2).rows rfl).2 (fun c0 b' τ hb' e=>by
    refine⟨?_,rfl⟩
    rw[if_pos (.inl (own e hb' i hq)),e]
    simp only[Zf,Zi,hq])
  ·rw[hout i hi]at hx
   have hmx:=AObj.deep_mut hd
   refine(d.tree i x z es b hx hd hr).go (Zl _) (fun o _=>by unfold World.cell?;rw[other hi hx hmx hr]) ((k.objs i x _ hx hr).rows hd).2 (fun c0 b' τ hb' e=> ?_)
   have h3:¬inM κ os b':=fun⟨q,o,c1,τ1,hq,e1⟩=>by
    rw[e]at e1;cases e1
    exact hi (Zk hq)
   have h4:∀o∈os,ρ[o]? ≠some (some b'):=fun o ho' hr'=>by
    obtain⟨q,hq⟩:=mem ho'
    obtain⟨z,es,_,_,hz,_⟩:=one hq
    rw[d.root o _ b' hz rfl hr']at e;cases e
   refine⟨?_,frame b' hb' h3 h4⟩
   rw[if_neg]
   ·exact e
   ·rintro(h5|⟨o,ho',hr'⟩)
    ·exact h3 h5
    ·exact h4 o ho' hr'
 ·rw[if_neg,n.new b (Zc c.go.size hb)]
  rintro(h5|⟨o,ho',hr'⟩)
  ·have:=lt b h5;have:=c.go.size;omega
  ·obtain⟨q,hq⟩:=mem ho'
   obtain⟨z,es,_,_,hz,_⟩:=one hq
   have:=(k.objs o _ _ hz hr').lt (by simp)
   have:=c.go.size
   omega
 ·split at e
  ·rename_i hcase
   split at e
   ·rename_i q τ0 hκ
    split at e
    ·rename_i o hq
     cases e
     obtain⟨z0,es0,es',_,hz,_,_,_,h2,_⟩:=one hq
     exact inM0 b (n'.zone b q c' τ z0 es' hκ h2)
    ·cases e
   ·cases e
  ·by_cases hi:i∈os
   ·obtain⟨q,hq⟩:=mem hi
    obtain⟨z0,es0,_,_,hz,_⟩:=one hq
    exact n.zone b i c' τ z0 es0 e hz
   ·rw[hout i hi]at hx
    exact n.zone b i c' τ z es e hx
def J2 (OS:List Nat):L→L→Prop
 | .pv p,l'=>p.bare=true∧l'= .pv p
 | .nil,l'=>l'= .pv (.lst [])
 | .arr o,l'=>∃q,l'= .arr q∧OS[q]? =some o
 |_,_=>False
theorem J2.mono {OS t:List Nat}{l l':L}(r:J2 OS l l'):J2 (OS++t) l l':=by
 cases l with
 |arr o=>obtain⟨q,rfl,h⟩:=r;exact⟨q,rfl,by rw[Ze (Zb.1 h).1];exact h⟩
 |_=>exact r
def Ss (h:List AObj)(o:Nat):AObj:=(fP h o).unz
def Ik (h:List AObj)(ls xs:List L)(os:List Nat):Prop:=(∀o∈al ls,∃z es,h[o]? =some (.zarr z es))∧(thawL (os.map (Ss h)) xs).2=(os++al ls).map (Ss h)∧(thawL (os.map (Ss h)) xs).1.length=ls.length∧
 ∀(i:Nat)(l:L),ls[i]? =some l→∃l',(thawL (os.map (Ss h)) xs).1[i]? =some l'∧J2 (os++al ls) l l'
theorem vw :∀(ls xs:List L)(os:List Nat),kH h ls=some xs→Ik h ls xs os
 |[],xs,os,e=>by
  simp[kH]at e;subst e
  exact⟨fun o ho=>by simp[al]at ho,by simp[al,thawL],rfl,fun i l hl=>by simp at hl⟩
 |l::ls,xs,os,e=>by
  unfold kH at e
  split at e
  ·rename_i x xs' h1 h2
   cases e
   have other:al (l::ls)=al ls→(∀g,thawL g (x::xs')=(x::(thawL g xs').1,(thawL g xs').2))→(∀OS,J2 OS l x)→Ik h (l::ls) (x::xs') os:=fun ea et er=>by
    obtain⟨i0,i1,i2,i3⟩:=vw ls xs' os h2
    unfold Ik
    rw[ea,et]
    refine⟨i0,i1,by simp[i2],fun i l1 hl1=> ?_⟩
    cases i with
    |zero=>simp at hl1;subst hl1;exact⟨x,rfl,er _⟩
    |succ i=>simpa using i3 i l1 (by simpa using hl1)
   cases l with
   |pv p=>
    simp only[wg]at h1
    split at h1
    ·rename_i hp;cases h1
     exact other rfl (fun _=>rfl) (fun _=>⟨hp,rfl⟩)
    ·cases h1
   |nil=>cases h1;exact other rfl (fun _=>rfl) (fun _=>rfl)
   |arr o=>
    simp only[wg]at h1
    split at h1
    ·rename_i z es ho
     cases h1
     obtain⟨i0,i1,i2,i3⟩:=vw ls xs' (os++[o]) h2
     have em:al (.arr o::ls)=o::al ls:=by simp[al]
     have eg:os.map (Ss h)++[AObj.darr z es]=(os++[o]).map (Ss h):=by simp[Ss,fP,ho,AObj.unz]
     have eo:os++o::al ls=os++[o]++al ls:=by simp
     unfold Ik
     rw[em,eo]
     simp only[thawL]
     rw[eg]
     refine⟨fun o' h'=> ?_,i1,by rw[Zn,Zn,i2],fun i l1 hl1=> ?_⟩
     ·rcases Yh.1 h' with rfl|h'
      ·exact⟨z,es,ho⟩
      ·exact i0 o' h'
     ·cases i with
      |zero=>
       simp at hl1;subst hl1
       exact⟨_,rfl,os.length,by simp,by simp⟩
      |succ i=>
       obtain⟨l',h3,h4⟩:=i3 i l1 (by simpa using hl1)
       exact⟨l',by rw[Xg];exact h3,h4⟩
    ·cases h1
   |_=>cases h1
  ·cases e
theorem zp :∀{os:List Nat}{outs:List (Bool×List L)}{h1 h h':List AObj},os.Nodup→(∀o∈os,o<h.length)→gM h1=some outs→jK h os outs=some h'→
 h'.length=h.length∧(∀(q o:Nat),os[q]? =some o→h'[o]? =h1[q]?)∧∀(i:Nat),¬i∈os→h'[i]? =h[i]?
 |[],outs,h1,h,h',hn,hlt,e1,e2=>by
  cases outs with
  |nil=>simp[jK]at e2;subst e2;exact⟨rfl,fun q o hq=>by simp at hq,fun _ _=>rfl⟩
  |cons x outs=>simp[jK]at e2
 |o::os,outs,h1,h,h',hn,hlt,e1,e2=>by
  obtain⟨hno,hn'⟩:=Yx.1 hn
  unfold jK at e2
  split at e2
  ·rename_i h0;cases h0
  ·rename_i o' os' z es outs' h0
   cases h0
   cases h1 with
   |nil=>simp[gM]at e1
   |cons x h1=>
    unfold gM at e1
    split at e1
    ·rename_i h3;cases h3
    ·rename_i z' es' h4 h3
     cases h3
     split at e1
     ·rename_i xs hxs
      cases e1
      obtain⟨i1,i2,i3⟩:=zp (h1:=h1) hn' (fun o1 h5=>by rw[Ym];exact hlt o1 (by simp[h5])) hxs e2
      refine⟨by rw[i1,Ym],fun q o1 hq=> ?_,fun i hi=> ?_⟩
      ·cases q with
       |zero=>
        simp at hq;subst hq
        rw[i3 _ hno,Zd (hlt _ (by simp))];rfl
       |succ q=>simpa using i2 q o1 (by simpa using hq)
      ·rw[i3 i (fun h5=>hi (by simp[h5])),Za (fun h5=>hi (by simp[h5]))]
     ·cases e1
    ·cases e1
  ·cases e2
def zQ [KF](Γ:Ctx)(P:Program)(f:FuncId)(xz:List V)(r:V):Prop:=
 ∃l outs,r= .tup ((false,[l])::outs)∧l.flat=true∧∀(M0:Nat→Prop)(base:Nat)(w:World)(ρ:List (Option Nat))(vals:Array Value),Γ.G w→Γ.B0≤base→HR M0 base w ρ ((dE [] xz).2.map AObj.zone)→(dE [] xz).1.length=vals.size→
  (∀(i:Nat)(x:V)(u:Value),(dE [] xz).1[i]? =some x→vals.toList[i]? =some u→VR (Mu M0 ρ ((dE [] xz).2.map AObj.zone)) w ρ ((dE [] xz).2.map AObj.zone) x u)→
  Calls P f vals w fun e w'=>∃v h1,e= .returned v∧Below base w w'∧(∀M ρ h,LR M w' ρ h l v)∧gM h1=some outs∧HR M0 base w' ρ h1∧Ch (Mu M0 ρ ((dE [] xz).2.map AObj.zone)) (Mu M0 ρ h1) w w' ρ ρ ((dE [] xz).2.map AObj.zone) h1
theorem MW {v a':V}{n:Int}(hl:tw h v=some a'):(∀o∈al v.cells,∃z es,h[o]? =some (.zarr z es))∧∃v',dE [] [a',aa .i64 n]=([v',aa .i64 n],(al v.cells).map (Ss h))∧
 (∀xs,v≠ .tup xs)∧v'.cells.length=v.cells.length∧(match v,v' with| .one _, .one _=>True| .agg _, .agg _=>True|_,_=>False)∧∀(i:Nat)(l:L),v.cells[i]? =some l→∃l',v'.cells[i]? =some l'∧J2 (al v.cells) l l':=by
 cases v with
 |tup xs=>cases hl
 |one l=>
  simp only[tw]at hl
  split at hl
  ·rename_i x hx
   cases hl
   have hls:kH h [l]=some [x]:=by simp[kH,hx]
   obtain⟨i0,i1,i2,i3⟩:=vw [l] [x] [] hls
   simp only[Yb,Zi]at i1 i2 i3
   obtain⟨l',h',e'⟩:=iS [] x
   rw[e']at i1 i2 i3
   refine⟨i0, .one l',?_,by simp,rfl,trivial,i3⟩
   simp only[dE,thaw,e',V.cells]
   rw[←i1]
   rfl
  ·cases hl
 |agg ls=>
  simp only[tw]at hl
  split at hl
  ·rename_i xs hx
   cases hl
   obtain⟨i0,i1,i2,i3⟩:=vw ls xs [] hx
   simp only[Yb,Zi]at i1 i2 i3
   refine⟨i0, .agg (thawL [] xs).1,?_,by simp,i2,trivial,i3⟩
   simp only[dE,thaw,V.cells]
   rw[←i1]
   rfl
  ·cases hl
theorem Sq {os:List Nat}(ho:∀o∈os,∃z es,h[o]? =some (.zarr z es)):(os.map (Ss h)).map AObj.zone=os.map (fP h):=by
 rw[List.map_map]
 apply Yf
 intro o hm
 obtain⟨z,es,e⟩:=ho o hm
 simp[Ss,fP,e,AObj.unz,AObj.zone]
theorem J2.lr {M M':Nat→Prop}{os:List Nat}{l l':L}{u:Value}(r:J2 os l l')(hl:LR M w ρ h l u):LR M' w (os.map (jy ρ)) (os.map (fP h)) l' u:=by
 cases l with
 |pv p=>
  obtain⟨hp,rfl⟩:=r
  cases p with
  |lst es=>
   cases es with
   |nil=>
    simp only[LR,ap]at hl⊢
    rcases hl with hl|⟨b,o,c,z,rfl,_⟩
    ·exact .inl hl
    ·exact .inl ⟨trivial,_,_,rfl⟩
   |cons _ _=>cases hp
  |_=>simpa only[LR,ap]using hl
 |nil=>
  obtain rfl:=(show l'= .pv (.lst [])from r)
  obtain⟨ad,rfl⟩:=hl
  simp only[LR,ap]
  exact .inl ⟨trivial,_,_,rfl⟩
 |arr o=>
  obtain⟨q,rfl,hq⟩:=r
  obtain⟨r0,ob,h1,h2,hs⟩:=hl
  exact⟨r0,ob,by simp[hq,jy,h1],by simp[hq,fP,h2],hs⟩
 |_=>exact r.elim
theorem UP (s:SR Γ M0 base σ a w ρ){x a':V}{ux:Value}{n:Int}(rx:VR (Mu M0 ρ σ.h) w ρ σ.h x ux)(hn:(al x.cells).Nodup)(hl:tw σ.h x=some a'){f:FuncId}{outs:List (Bool×List L)}{l:L}{h':List AObj}
 (hs:zQ Γ P f [a',aa .i64 n] (.tup ((false,[l])::outs))) (hp:jK σ.h (al x.cells) outs=some h'):
 Calls P f #[ux, .int .i64 n] w fun e w'=>∃v,e= .returned v∧Below base w w'∧HR M0 base w' ρ h'∧Ch (Mu M0 ρ σ.h) (Mu M0 ρ h') w w' ρ ρ σ.h h'∧VR (Mu M0 ρ h') w' ρ h' (.one l) v:=by
 obtain⟨ho,v',et,hnt,hlen,hsame,hrel⟩:=MW (n:=n) hl
 obtain⟨l0,outs0,e0,hfl,hs⟩:=hs
 cases e0
 rw[et]at hs
 simp only[Sq ho]at hs
 obtain⟨κ,d,nz⟩:=s.hr.deep
 have hcells:=rx.cells hnt
 refine(hs (inM κ (al x.cells)) base w ((al x.cells).map (jy ρ)) #[ux, .int .i64 n] s.inv s.b0 (HR.subZ s.hr.toHR0 d nz ho hn) rfl (fun i y u hy hu=> ?_)).mono fun e w'⟨v,h1,he,hb,hlr,hout,k1,c1⟩=> ?_
 ·match i,hy,hu with
  |0,hy,hu=>
   simp at hy hu
   subst hy;subst hu
   cases x with
   |tup xs=>exact absurd rfl (hnt xs)
   |one lx=>
    cases v' with
    |one lx'=>
     obtain⟨l',e1,e2⟩:=hrel 0 lx rfl
     simp[V.cells]at e1;subst e1
     exact e2.lr rx
    |_=>exact hsame.elim
   |agg ls=>
    cases v' with
    |agg ls'=>
     obtain⟨cs,rfl,hls⟩:=rx
     refine⟨cs,rfl,by rw[show ls'.length=ls.length from hlen];exact hls.1,fun j lj c hlj hc=> ?_⟩
     have hj:j<ls.length:=by rw[←show ls'.length=ls.length from hlen];exact(Zb.1 hlj).1
     obtain⟨l',e1,e2⟩:=hrel j ls[j] (by simp[V.cells,hj])
     rw[show(V.agg ls').cells=ls' from rfl,hlj]at e1;cases e1
     exact e2.lr (hls.2 j _ c (by simp[hj]) hc)
    |_=>exact hsame.elim
  |1,hy,hu=>
   simp at hy hu
   subst hy;subst hu
   exact VR.mkInt _ _
  |i+2,hy,hu=>simp at hy
 ·obtain⟨p1,p2,p3⟩:=zp hn (fun o h5=>by obtain⟨z,es,hz⟩:=ho o h5;exact(Zb.1 hz).1) hout hp
  obtain⟨g1,g2⟩:=HR.rejoin s.hr.toHR0 d nz ho hn k1 c1 p1 p2 p3
  exact⟨v,he,hb,g1,g2,hlr _ _ _⟩
theorem M8 {h1:List AObj}{z:Nat}{l1:List (List PV)}(e:gM h1=some [(false,[.down z l1])]):h1=[.zarr z l1]:=by
 unfold gM at e
 split at e
 ·cases e
 ·rename_i z' es' h2
  split at e
  ·rename_i xs hxs
   cases e
   unfold gM at hxs
   split at hxs
   ·rfl
   ·split at hxs<;>cases hxs
   ·cases hxs
  ·cases e
 ·cases e
theorem BJ {z:Nat}{es:List (List PV)}{c:Nat}{p:PV}(h:wz z es c=some p):∃e,es[c/z]? =some e∧e[c%z]? =some p:=by
 unfold wz at h
 split at h
 ·rename_i e he;exact⟨e,he,h⟩
 ·cases h
theorem uk (c z:Nat):c/z*z+c%z=c:=by rw[Yy];exact Nat.div_add_mod c z
theorem Lj {z:Nat}{es:List (List PV)}{c:Nat}{p:PV}{e:List PV}(hz:0<z)(hes:∀e∈es,e.length=z)(he:es[c/z]? =some e){i j:Nat}{e1:List PV}{p1:PV}(h1:(ff z es c p)[i]? =some e1)(h2:e1[j]? =some p1):
 (i*z+j=c∧p1=p)∨(i*z+j≠c∧∃e0,es[i]? =some e0∧e0[j]? =some p1):=by
 unfold ff at h1
 rw[he]at h1
 have hlt:c%z<e.length:=by rw[hes e (Zk he)];exact Nat.mod_lt _ hz
 have hp:=uk c z
 by_cases hi:c/z=i
 ·subst hi
  rw[Zd (Zb.1 he).1]at h1
  cases h1
  simp only[Y2]at h2
  by_cases hj:c%z=j
  ·subst hj
   rw[Zd hlt]at h2
   cases h2
   exact .inl ⟨hp,rfl⟩
  ·rw[Za hj]at h2
   exact .inr ⟨by omega,e,he,h2⟩
 ·rw[Za hi]at h1
  refine .inr ⟨fun e'=>hi ?_,e1,h1,h2⟩
  have hj:j<z:=by rw[←hes e1 (Zk h1)];exact(Zb.1 h2).1
  exact(uz (Nat.mod_lt _ hz) hj (hp.trans e'.symm)).1
theorem Nb {z:Nat}{es:List (List PV)}{c:Nat}{p:PV}{e:List PV}(hz:0<z)(hes:∀e∈es,e.length=z)(he:es[c/z]? =some e):∃e1,(ff z es c p)[c/z]? =some e1∧e1[c%z]? =some p:=by
 have hlt:c%z<e.length:=by rw[hes e (Zk he)];exact Nat.mod_lt _ hz
 unfold ff
 rw[he]
 exact⟨_,Zd (Zb.1 he).1,by simp only[Y2];exact Zd hlt⟩
theorem Ll {z:Nat}{es:List (List PV)}{c:Nat}{p:PV}{i j:Nat}{e0:List PV}{p1:PV}(hes:∀e∈es,e.length=z)(h1:es[i]? =some e0)(h2:e0[j]? =some p1)(hne:i*z+j≠c):∃e1,(ff z es c p)[i]? =some e1∧e1[j]? =some p1:=by
 have hp:=uk c z
 unfold ff
 by_cases hi:c/z=i
 ·subst hi
  rw[h1]
  exact⟨_,Zd (Zb.1 h1).1,by simp only[Y2];rw[Za fun e=>hne (by omega)];exact h2⟩
 ·rw[Za hi]
  exact⟨e0,h1,h2⟩
theorem Lk {z:Nat}{es:List (List PV)}{c:Nat}{p:PV}{e:List PV}(hes:∀e∈es,e.length=z)(he:es[c/z]? =some e):(ff z es c p).length=es.length∧∀e∈ff z es c p,e.length=z:=by
 unfold ff
 rw[he]
 refine⟨by simp,fun e1 h1=> ?_⟩
 rcases Xn h1 with h2|rfl
 ·exact hes e1 h2
 ·simpa using hes e (Zk he)
theorem S5 (s:SR Γ M0 base σ a w ρ){o c z:Nat}{es l0 l1:List (List PV)}{ux:Value}{n:Int}(rx:LR (Mu M0 ρ σ.h) w ρ σ.h (.sub o c) ux)(hob:σ.h[o]? =some (.zarr z es))(hcell:wz z es c=some (.lst l0))(hne:l0≠[]){f:FuncId}{l:L}
 (hs:zQ Γ P f [.one (.down (wid l0) l0),aa .i64 n] (.tup [(false,[l]),(false,[.down (wid l0) l1])])):
 Calls P f #[ux, .int .i64 n] w fun e w'=>∃v,e= .returned v∧Below base w w'∧HR M0 base w' ρ (σ.h.set o (.zarr z (ff z es c (.lst l1))))∧Ch (Mu M0 ρ σ.h) (Mu M0 ρ (σ.h.set o (.zarr z (ff z es c (.lst l1))))) w w' ρ ρ σ.h (σ.h.set o (.zarr z (ff z es c (.lst l1))))∧
  VR (Mu M0 ρ (σ.h.set o (.zarr z (ff z es c (.lst l1))))) w' ρ (σ.h.set o (.zarr z (ff z es c (.lst l1)))) (.one l) v:=by
 obtain⟨hone,b,z',es',hr,ho',hla,hv⟩:=rx
 rw[hob]at ho';cases ho'
 obtain⟨κ,d,nz⟩:=s.hr.deep
 have k:=s.hr.toHR0
 obtain⟨e,hi,hj⟩:=BJ hcell
 obtain⟨hz,hes,hbase,pcur,pcap,prow,q1,q2,q3⟩:=k.objs o _ (some b) hob hr
 have hT:=d.tree o _ z es b hob rfl hr
 obtain⟨v,hv',ht⟩:=hT (c/z) e (c%z) _ hi hj
 rw[uk]at hv' ht
 rw[hv]at hv';cases hv'
 simp only[eE]at ht
 rcases ht with⟨h0,_⟩|⟨b1,cp,z1,cur,e1,hlo,hκ,hz1,hrow,g1,g2,g3,htl⟩
 ·exact absurd h0 hne
 have hw:wid l0=z1:=by
  cases l0 with
  |nil=>exact absurd rfl hne
  |cons e0 l=>simp only[dY]at htl;exact htl.1
 rw[hw]at hs
 have hκ':κ b1=[o,c]:=hκ
 have lz:∀e∈l0,e.length=z1:=fun e0 h0=>by
  obtain⟨i,hi,rfl⟩:=Yp h0
  exact(htl.at (by simp[hi]:l0[i]? =some l0[i])).1
 have hrootne:∀{i:Nat}{x:AObj},σ.h[i]? =some x→x.mut=true→ρ[i]? ≠some (some b1):=fun{i x}hx hm hr'=>by
  rw[d.root i x b1 hx hm hr']at hκ';cases hκ'
 obtain⟨M1,hM1⟩:∃M1:Nat→Prop,∀b,M1 b↔∃c1 τ,κ b=o::c::c1::τ:=⟨_,fun b=>Iff.rfl⟩
 have lt:∀{b x τ},κ b=x::τ→b<w.heap.size:=fun{b x τ}e=>by
  by_cases hlt:b<w.heap.size
  ·exact hlt
  ·rw[nz.new b (by omega)]at e;cases e
 have M10:∀b,M1 b→M0 b:=fun b hm=>by
  obtain⟨c1,τ,e⟩:=(hM1 b).1 hm
  exact nz.zone b o c (c1::τ) z es e hob
 have b10:M0 b1:=nz.zone b1 o c [] z es hκ' hob
 have K1:HR M1 base w [some b1] [.zarr z1 l0]:=by
  refine⟨⟨rfl,fun b hm=> ?_,k.le,fun i x r hi hri=> ?_,fun i i' x x' b h1 h2 m1 m2 r1 r2=> ?_⟩,fun b=>match κ b with
   |o'::c'::τ=>if o'=o∧c'=c then 0::τ else []
   |_=>[],⟨fun i x b hi hm hri=> ?_,fun i x z2 es2 b hi hd hri=> ?_⟩,fun b hb=>by simp only[nz.new b hb],fun b q c1 τ z2 es2 e hi=> ?_⟩
  ·obtain⟨c1,τ,e⟩:=(hM1 b).1 hm
   refine⟨lt e,fun i x hi hx hri=> ?_⟩
   cases i with
   |zero=>simp at hri;subst hri;rw[hκ']at e;cases e
   |succ i=>simp at hi
  ·cases i with
   |zero=>simp at hi hri;subst hi;subst hri;exact⟨hz1,lz,hlo,cur,cp,hrow,g1,g2,g3⟩
   |succ i=>simp at hi
  ·cases i<;>cases i'<;>simp at h1 h2⊢
  ·cases i with
   |zero=>simp at hi hri;subst hri;simp[hκ']
   |succ i=>simp at hi
  ·cases i with
   |zero=>
    simp at hi hri;subst hi;subst hri
    cases hd
    exact htl.cells.go (Zl _) (fun _ _=>rfl) lz (fun c1 b' τ _ e=>⟨by simp[e],rfl⟩)
   |succ i=>simp at hi
  ·split at e
   ·rename_i o' c' τ0 hk
    split at e
    ·rename_i hoc
     obtain⟨rfl,rfl⟩:=hoc
     cases e
     exact(hM1 b).2 ⟨c1,τ,hk⟩
    ·cases e
   ·cases e
 obtain⟨l2,outs,e0,hfl,hs⟩:=hs
 cases e0
 refine(hs M1 base w [some b1] #[ux, .int .i64 n] s.inv s.b0 K1 rfl (fun i y u hy hu=> ?_)).mono fun e2 w'⟨v2,h1,he,hb,hlr,hout,k1,c1⟩=> ?_
 ·match i,hy,hu with
  |0,hy,hu=>
   simp[dE,thaw,thawL]at hy
   simp at hu
   subst hy;subst hu
   exact⟨some b1, .zarr z1 l0,rfl,rfl,cur,cp,hrow,g1,g2,g3,e1⟩
  |1,hy,hu=>
   simp[dE,thaw,thawL]at hy
   simp at hu
   subst hy;subst hu
   exact VR.mkInt _ _
  |i+2,hy,hu=>simp[dE]at hy
 obtain rfl:=M8 hout
 have C0:Ch (Mu M1 [some b1] [.zarr z1 l0]) (Mu M1 [some b1] [.zarr z1 l1]) w w' [some b1] [some b1] [.zarr z1 l0] [.zarr z1 l1]:=c1
 obtain⟨ob',_,h2,sm⟩:=C0.obj 0 (some b1) (.zarr z1 l0) rfl rfl (by simp)
 obtain⟨es2,e3,hll,hat⟩:=sm.zarr
 simp at h2
 rw[←h2]at e3;cases e3
 obtain⟨κ',d',n'⟩:=k1.deep
 have frame:∀b',b'<w.heap.size→¬M1 b'→b'≠b1→w'.heap[b']? =w.heap[b']? :=fun b' hlt hm hne'=>C0.go.block b' hlt fun hmc=>by
  rcases hmc with hmc|⟨i,x,hx,hmx,hr'⟩
  ·exact hm hmc
  ·cases i with
   |zero=>simp at hr';exact hne' hr'.symm
   |succ i=>simp at hx
 have hroot:∀{i:Nat}{x:AObj}{b':Nat},σ.h[i]? =some x→x.mut=true→ρ[i]? =some (some b')→w'.heap[b']? =w.heap[b']? :=fun{i x b'}hx hm hr'=>by
  refine frame b' ((k.objs i x _ hx hr').lt (AObj.mut_live hm)) (fun hM=> ?_) (fun e4=> ?_)
  ·obtain⟨c1,τ,e4⟩:=(hM1 b').1 hM
   rw[d.root i x b' hx hm hr']at e4;cases e4
  ·subst e4;exact hrootne hx hm hr'
 have hol:o<σ.h.length:=(Zb.1 hob).1
 have get:∀{i:Nat}{x:AObj},(σ.h.set o (.zarr z (ff z es c (.lst l1))))[i]? =some x→(i=o∧x= .zarr z (ff z es c (.lst l1)))∨(i≠o∧σ.h[i]? =some x):=fun{i x}e4=>by
  by_cases hi':o=i
  ·subst hi'
   rw[Zd hol]at e4
   cases e4
   exact .inl ⟨rfl,rfl⟩
  ·rw[Za hi']at e4
   exact .inr ⟨fun e5=>hi' e5.symm,e4⟩
 have lift:∀{i:Nat}{x:AObj},(σ.h.set o (.zarr z (ff z es c (.lst l1))))[i]? =some x→x.mut=true→∃y,σ.h[i]? =some y∧y.mut=true:=fun{i x}hx hm=>by
  rcases get hx with⟨rfl,rfl⟩|⟨_,hx'⟩
  ·exact⟨_,hob,rfl⟩
  ·exact⟨x,hx',hm⟩
 have muc:∀b',Mu M1 [some b1] [.zarr z1 l0] b'→M0 b':=fun b' hm=>by
  rcases hm with hm|⟨i,x,hx,hmx,hr'⟩
  ·exact M10 b' hm
  ·cases i with
   |zero=>simp at hr';subst hr';exact b10
   |succ i=>simp at hx
 have mu':∀b',Mu M0 ρ (σ.h.set o (.zarr z (ff z es c (.lst l1)))) b'→Mu M0 ρ σ.h b':=fun b' hm=>by
  rcases hm with hm|⟨i,x,hx,hmx,hr'⟩
  ·exact .inl hm
  ·obtain⟨y,hy,hmy⟩:=lift hx hmx
   exact .inr ⟨i,y,hy,hmy,hr'⟩
 have hpl:=Lk (p:= .lst l1) hes hi
 have C:Ch (Mu M0 ρ σ.h) (Mu M0 ρ (σ.h.set o (.zarr z (ff z es c (.lst l1))))) w w' ρ ρ σ.h (σ.h.set o (.zarr z (ff z es c (.lst l1)))):=by
  refine⟨⟨C0.go.size,fun b' _ hm=>mu' b' hm,fun b' hb' hm=>C0.go.block b' hb' fun hmc=>hm (.inl (muc b' hmc))⟩,C0.row,fun i r x hr' hx _=> ?_,fun i b' z2 es2 p v3 hr' hx hl hv3=> ?_⟩
  ·by_cases hi':o=i
   ·subst hi'
    rw[hob]at hx;cases hx
    refine⟨_,hr',Zd hol,rfl,hpl.1.symm,fun p⟨i1,e1,j1,ll,h4,h5,h6⟩=> ?_⟩
    by_cases hp:i1*z+j1=c
    ·obtain⟨e4,q4,q5⟩:=Nb (p:= .lst l1) hz hes hi
     exact⟨c/z,e4,c%z,l1,q4,q5,by rw[uk];omega⟩
    ·obtain⟨e4,q4,q5⟩:=Ll (p:= .lst l1) hes h4 h5 hp
     exact⟨i1,e4,j1,ll,q4,q5,h6⟩
   ·exact⟨x,hr',by rw[Za hi'];exact hx,qQ.refl x⟩
  ·unfold World.cell? at hv3⊢
   rw[hroot hx rfl hr']
   exact hv3
 have hMb:∀b',M1 b'→b'≠b1:=fun b' hm e4=>by
  subst e4
  obtain⟨c1,τ,e5⟩:=(hM1 b').1 hm
  rw[hκ']at e5;cases e5
 classical
 refine⟨v2,he,hb,⟨⟨by rw[Ym];exact k.len,fun b' hm=>⟨Z3 (k.old b' hm).1 C0.go.size,fun i x hx hmx hr'=> ?_⟩,k1.le,fun i x r hx hr'=> ?_,fun i i' x x' b' x1 x2 m1 m2 r1 r2=> ?_⟩,
  fun b'=>if M1 b'∨b'=b1 then(match κ' b' with
   |_::τ=>o::c::τ
   |[]=>[])else κ b',⟨fun i x b' hx hmx hr'=> ?_,fun i x z2 es2 b' hx hd hr'=> ?_⟩,fun b' hb'=> ?_,fun b' i c' τ z2 es2 e4 hx=> ?_⟩,C,hlr _ _ _⟩
 ·obtain⟨y,hy,hmy⟩:=lift hx hmx
  exact(k.old b' hm).2 i y hy hmy hr'
 ·rcases get hx with⟨rfl,rfl⟩|⟨hne',hx'⟩
  ·rw[hr]at hr';cases hr'
   refine⟨hz,hpl.2,hbase,pcur,pcap,?_,q1,by rw[hpl.1];exact q2,q3⟩
   obtain⟨T,hT'⟩:=prow
   exact⟨T,(hroot hob rfl hr).trans hT'⟩
  ·have kx:=k.objs i x r hx' hr'
   refine kx.keep C (fun b' e4 hd=> ?_)
   subst e4
   by_cases hm:x.mut=true
   ·exact hroot hx' hm hr'
   ·have hnm:¬Mu M0 ρ σ.h b':=by
     cases x with
     |froz z es=>exact kx.2.2.1
     |fbox ps=>obtain⟨b2,cur2,e5,hm',_⟩:=kx;cases e5;exact hm'
     |dead=>exact absurd rfl hd
     |res=>cases kx
     |_=>exact absurd rfl hm
    exact C0.go.block b' (kx.lt hd) fun hmc=>hnm (.inl (muc b' hmc))
 ·obtain⟨y,hy,hmy⟩:=lift x1 m1
  obtain⟨y',hy',hmy'⟩:=lift x2 m2
  exact k.apart i i' y y' b' hy hy' hmy hmy' r1 r2
 ·obtain⟨y,hy,hmy⟩:=lift hx hmx
  rw[if_neg,d.root i y b' hy hmy hr']
  rintro(hM|rfl)
  ·obtain⟨c1,τ,e4⟩:=(hM1 b').1 hM
   rw[d.root i y b' hy hmy hr']at e4;cases e4
  ·exact hrootne hy hmy hr'
 ·
  have stay:∀{b2 i2 c2:Nat}{τ:List Nat},b2<w.heap.size→κ b2=i2::c2::τ→¬(i2=o∧c2=c)→¬M1 b2∧b2≠b1:=fun{b2 i2 c2 τ}_ e4 hne'=>⟨fun hM=>by
   obtain⟨c3,τ3,e5⟩:=(hM1 b2).1 hM
   rw[e4]at e5;cases e5
   exact hne' ⟨rfl,rfl⟩,fun e5=>by
   subst e5
   rw[hκ']at e4;cases e4
   exact hne' ⟨rfl,rfl⟩⟩
  rcases get hx with⟨rfl,rfl⟩|⟨hne',hx'⟩
  ·rw[hr]at hr';cases hr'
   cases hd
   intro i1 e4 j1 p1 hi1 hj1
   have hcell':∀p,w'.cell? ⟨b,p,none⟩=w.cell? ⟨b,p,none⟩:=fun p=>by unfold World.cell?;rw[hroot hob rfl hr]
   rcases Lj hz hes hi hi1 hj1 with⟨hp,rfl⟩|⟨hp,e5,q4,q5⟩
   ·rw[hp]
    refine⟨ux,(hcell' c).trans hv,?_⟩
    simp only[eE]
    obtain⟨_,_,_,cur2,cap2,hrow2,r1,r2,r3⟩:=k1.objs 0 _ (some b1) rfl rfl
    obtain⟨cur3,hrow3,hs3⟩:=C0.row b1 cur hrow
    cases hrow2.inj hrow3
    have hcap:cap2=cp:=Yi hz1 (by rw[←r1,hs3,g1])
    subst hcap
    refine .inr ⟨b1,cap2,z1,cur2,by rw[e1,hll],hlo,?_,hz1,hrow2,r1,r2,r3,?_⟩
    ·rw[if_pos (.inr rfl),d'.root 0 _ b1 rfl rfl rfl];rfl
    ·have T:=d'.tree 0 _ z1 l1 b1 rfl rfl rfl
     refine qA.ll ((k1.objs 0 _ (some b1) rfl rfl).rows rfl).2 (T.go (Zl _) (fun _ _=>rfl) ((k1.objs 0 _ (some b1) rfl rfl).rows rfl).2 (fun c2 b2 τ hb2 e6=>⟨?_,rfl⟩))
     rw[if_pos (.inl (n'.zone b2 0 c2 τ z1 l1 e6 rfl)),e6]
     rfl
   ·obtain⟨v4,hv4,ht4⟩:=hT i1 e5 j1 p1 q4 q5
    refine⟨v4,(hcell' _).trans hv4,eE.go (Zl _) p1 _ _ v4 (fun b2 τ hb2 e6=> ?_) ht4⟩
    obtain⟨h7,h8⟩:=stay hb2 e6 (fun h=>hp h.2)
    exact⟨by rw[if_neg (fun h=>h.elim h7 h8)];exact e6,frame b2 hb2 h7 h8⟩
  ·have hmx:=AObj.deep_mut hd
   refine(d.tree i x z2 es2 b' hx' hd hr').go (Zl _) (fun p _=>by unfold World.cell?;rw[hroot hx' hmx hr']) ((k.objs i x _ hx' hr').rows hd).2 (fun c2 b2 τ hb2 e6=> ?_)
   obtain⟨h7,h8⟩:=stay hb2 e6 (fun h=>hne' h.1)
   exact⟨by rw[if_neg (fun h=>h.elim h7 h8)];exact e6,frame b2 hb2 h7 h8⟩
 ·have:=C0.go.size
  rw[if_neg,nz.new b' (by omega)]
  rintro(hM|rfl)
  ·obtain⟨c1,τ,e4⟩:=(hM1 b').1 hM
   have:=lt e4;omega
  ·have:=lt hκ';omega
 ·split at e4
  ·rename_i hcase
   split at e4
   ·rename_i q0 τ0 hk
    cases e4
    rcases hcase with hM|e5
    ·exact M10 b' hM
    ·rw[e5];exact b10
   ·cases e4
  ·rcases get hx with⟨rfl,_⟩|⟨_,hx'⟩
   ·exact nz.zone b' i c' τ z es e4 hob
   ·exact nz.zone b' i c' τ z2 es2 e4 hx'
theorem S4 (s:SR Γ M0 base σ a w ρ){o c z:Nat}{es:List (List PV)}{ux:Value}{n:Int}(rx:LR (Mu M0 ρ σ.h) w ρ σ.h (.sub o c) ux)(hob:σ.h[o]? =some (.zarr z es))(hcell:wz z es c=some (.lst [])){f:FuncId}{l:L}
 (hs:zQ Γ P f [ba [],aa .i64 n] (.tup [(false,[l])])):
 Calls P f #[ux, .int .i64 n] w fun e w'=>∃v,e= .returned v∧Below base w w'∧HR M0 base w' ρ σ.h∧Ch (Mu M0 ρ σ.h) (Mu M0 ρ σ.h) w w' ρ ρ σ.h σ.h∧VR (Mu M0 ρ σ.h) w' ρ σ.h (.one l) v:=by
 obtain⟨hone,b,z',es',hr,ho',hla,hv⟩:=rx
 rw[hob]at ho';cases ho'
 obtain⟨κ,d,nz⟩:=s.hr.deep
 obtain⟨e,hi,hj⟩:=BJ hcell
 obtain⟨v,hv',ht⟩:=d.tree o _ z es b hob rfl hr (c/z) e (c%z) _ hi hj
 rw[uk]at hv' ht
 rw[hv]at hv';cases hv'
 have hsl:∃a' c',ux= .slice a' 0 c':=by
  simp only[eE]at ht
  rcases ht with⟨_,h⟩|⟨b1,cp,z1,cur,e1,_⟩
  ·exact h
  ·exact⟨_,_,e1⟩
 obtain⟨l2,outs,e0,hfl,hs⟩:=hs
 cases e0
 have K1:HR (fun _=>False) base w [] []:=⟨⟨rfl,fun b h=>h.elim,s.hr.le,fun i x r hi=>by simp at hi,fun i i' x x' b h1=>by simp at h1⟩,fun _=>[],⟨fun i x b hi=>by simp at hi,fun i x z2 es2 b hi=>by simp at hi⟩,fun _ _=>rfl,nofun⟩
 refine(hs (fun _=>False) base w [] #[ux, .int .i64 n] s.inv s.b0 K1 rfl (fun i y u hy hu=> ?_)).mono fun e2 w'⟨v2,h1,he,hb,hlr,hout,k1,c1⟩=> ?_
 ·match i,hy,hu with
  |0,hy,hu=>
   simp[dE,thaw,thawL]at hy
   simp at hu
   subst hy;subst hu
   obtain⟨a',c',rfl⟩:=hsl
   simp only[VR,LR,ap]
   exact .inl ⟨by trivial,_,_,rfl⟩
  |1,hy,hu=>
   simp[dE,thaw,thawL]at hy
   simp at hu
   subst hy;subst hu
   exact VR.mkInt _ _
  |i+2,hy,hu=>simp[dE]at hy
 ·obtain⟨g1,g2⟩:=s.hr.world c1.go.size (fun b hlt=>c1.go.block b hlt fun hm=>by
   rcases hm with hm|⟨i,x,hx,_⟩
   ·exact hm
   ·simp[dE,thaw,thawL]at hx)
  exact⟨v2,he,hb,g1,g2,hlr _ _ _⟩
end
end Gi
