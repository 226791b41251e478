/- Of this proof. -/
import Derived.Test.YtebnmoogdmpepaaGreatGib
set_option linter.unusedSimpArgs false
set_option linter.unusedVariables false
namespace Gi
open Go
variable {KI:KF}
theorem wu.keep {M M':Nat→Prop}{base:Nat}{w w':World}{ρ ρ':List (Option Nat)}{h h':List AObj}{r:Option Nat}{ob:AObj}
 (k:wu M base w ρ h r ob) (c:Ch M M' w w' ρ ρ' h h') (hb:∀b,r=some b→ob≠ .dead→w'.heap[b]? =w.heap[b]?):wu M' base w' ρ' h' r ob:=by
 have row:∀{b cur},r=some b→ob≠ .dead→gg w b cur→gg w' b cur:=fun e hd⟨T,hr⟩=>⟨T,by rw[hb _ e hd];exact hr⟩
 cases ob with
 |box cs=>
  obtain⟨b,cur,rfl,hbase,hr,hl⟩:=k
  exact⟨b,cur,rfl,hbase,row rfl (by simp) hr,hl.ch c⟩
 |arr z es=>
  obtain⟨hz,hes,k⟩:=k
  refine⟨hz,hes,?_⟩
  cases r with
  |none=>exact k
  |some b=>
   obtain⟨hbase,cur,cap,hr,h1,h2,h3,h4⟩:=k
   refine⟨hbase,cur,cap,row rfl (by simp) hr,h1,h2,h3,fun i e j p he hp=> ?_⟩
   obtain⟨v,hv,hr⟩:=h4 i e j p he hp
   exact⟨v,hv,ap.go c.go p v hr⟩
 |froz z es=>
  obtain⟨hz,hes,k⟩:=k
  refine⟨hz,hes,?_⟩
  cases r with
  |none=>exact k
  |some b=>
   obtain⟨hm,cur,cap,hr,h1,h2,h3,h4⟩:=k
   refine⟨fun hm'=>hm (c.go.cls b hr.lt hm'),cur,cap,row rfl (by simp) hr,h1,h2,h3,fun i e j p he hp=> ?_⟩
   obtain⟨v,hv,hr⟩:=h4 i e j p he hp
   exact⟨v,hv,ap.go c.go p v hr⟩
 |darr z es=>
  obtain⟨hz,hes,k⟩:=k
  refine⟨hz,hes,?_⟩
  cases r with
  |none=>exact k
  |some b=>
   obtain⟨hbase,cur,cap,hr,h1,h2,h3,h4⟩:=k
   refine⟨hbase,cur,cap,row rfl (by simp) hr,h1,h2,h3,fun i e j p he hp=> ?_⟩
   obtain⟨v,hv,hr⟩:=h4 i e j p he hp
   exact⟨v,hv,ap.go c.go p v hr⟩
 |zarr z es=>
  obtain⟨hz,hes,k⟩:=k
  refine⟨hz,hes,?_⟩
  cases r with
  |none=>exact k
  |some b=>
   obtain⟨hbase,cur,cap,hr,h1,h2,h3⟩:=k
   exact⟨hbase,cur,cap,row rfl (by simp) hr,h1,h2,h3⟩
 |fbox ps=>
  obtain⟨b,cur,rfl,hm,hr,hl,h4⟩:=k
  refine⟨b,cur,rfl,fun hm'=>hm (c.go.cls b hr.lt hm'),row rfl (by simp) hr,hl,fun j p hp=> ?_⟩
  obtain⟨v,hv,hr⟩:=h4 j p hp
  exact⟨v,hv,ap.go c.go p v hr⟩
 |tbox n=>
  obtain⟨b,cur,rfl,hbase,hr,hn⟩:=k
  exact⟨b,cur,rfl,hbase,row rfl (by simp) hr,hn⟩
 |dead=>trivial
 |res=>exact k
theorem wu.lt {M:Nat→Prop}{base:Nat}{w:World}{ρ:List (Option Nat)}{h:List AObj}{b:Nat}{ob:AObj}
 (k:wu M base w ρ h (some b) ob) (hd:ob≠ .dead):b<w.heap.size:=by
 cases ob with
 |box cs=>obtain⟨b',cur,e,_,hr,_⟩:=k;cases e;exact hr.lt
 |arr z es=>obtain⟨_,_,_,cur,cap,hr,_⟩:=k;exact hr.lt
 |froz z es=>obtain⟨_,_,_,cur,cap,hr,_⟩:=k;exact hr.lt
 |darr z es=>obtain⟨_,_,_,cur,cap,hr,_⟩:=k;exact hr.lt
 |zarr z es=>obtain⟨_,_,_,cur,cap,hr,_⟩:=k;exact hr.lt
 |fbox ps=>obtain⟨b',cur,e,_,hr,_⟩:=k;cases e;exact hr.lt
 |tbox n=>obtain⟨b',cur,e,_,hr,_⟩:=k;cases e;exact hr.lt
 |dead=>exact absurd rfl hd
 |res=>cases k
theorem wu.base {M:Nat→Prop}{base:Nat}{w:World}{ρ:List (Option Nat)}{h:List AObj}{b:Nat}{ob:AObj}
 (k:wu M base w ρ h (some b) ob) (hd:ob.mut=true):base≤b:=by
 cases ob with
 |box cs=>obtain⟨b',cur,e,hb,hr,_⟩:=k;cases e;exact hb
 |arr z es=>obtain⟨_,_,hb,_⟩:=k;exact hb
 |froz z es=>cases hd
 |darr z es=>obtain⟨_,_,hb,_⟩:=k;exact hb
 |zarr z es=>obtain⟨_,_,hb,_⟩:=k;exact hb
 |fbox ps=>cases hd
 |tbox n=>obtain⟨b',cur,e,hb,_⟩:=k;cases e;exact hb
 |dead=>cases hd
 |res=>cases hd
theorem AObj.mut_live {ob:AObj}(h:ob.mut=true):ob≠ .dead:=by rintro rfl;cases h
theorem wu.rows {M:Nat→Prop}{base:Nat}{w:World}{ρ:List (Option Nat)}{h:List AObj}{r:Option Nat}{ob:AObj}(k:wu M base w ρ h r ob){z:Nat}{es:List (List PV)}(hd:ob.deep=some (z,es)):0<z∧∀e∈es,e.length=z:=by
 cases ob<;>cases hd
 ·exact⟨k.1,k.2.1⟩
 ·exact⟨k.1,k.2.1⟩
theorem AObj.deep_mut {ob:AObj}{x:Nat×List (List PV)}(h:ob.deep=some x):ob.mut=true:=by cases ob<;>first|rfl|cases h
theorem HR0.mem {M0:Nat→Prop}{base:Nat}{w:World}{ρ:List (Option Nat)}{h:List AObj}(k:HR0 M0 base w ρ h){o:Nat}{ob:AObj}(ho:h[o]? =some ob):∃r,ρ[o]? =some r:=by
 have:o<h.length:=(Zb.1 ho).1
 exact⟨ρ[o]'(by rw[k.len];exact this),by simp[k.len,this]⟩
theorem HR0.world {M0:Nat→Prop}{base:Nat}{w w':World}{ρ:List (Option Nat)}{h:List AObj}(k:HR0 M0 base w ρ h)
 (hs:w.heap.size≤w'.heap.size) (hb:∀b,b<w.heap.size→w'.heap[b]? =w.heap[b]?):
 HR0 M0 base w' ρ h∧Ch (Mu M0 ρ h) (Mu M0 ρ h) w w' ρ ρ h h:=by
 have c:Ch (Mu M0 ρ h) (Mu M0 ρ h) w w' ρ ρ h h:=
  ⟨⟨hs,fun _ _ x=>x,fun b hlt _=>hb b hlt⟩,fun b cur hr=>⟨cur,by obtain⟨T,hr'⟩:=hr;exact⟨T,by rw[hb b (gg.lt ⟨T,hr'⟩)];exact hr'⟩,rfl⟩,
    fun o r ob h1 h2 _=>⟨ob,h1,h2,qQ.refl ob⟩,fun o b z es c v hr ho _ hv=>by unfold World.cell? at hv⊢;rw[hb b ((k.objs o _ _ ho hr).lt (by simp))];exact hv⟩
 refine⟨⟨k.len,fun b hb=>⟨Z3 (k.old b hb).1 hs,(k.old b hb).2⟩,Zc k.le hs,fun o ob r ho hr=> ?_,k.apart⟩,c⟩
 have:=k.objs o ob r ho hr
 exact this.keep c (fun b e hd=>hb b (by subst e;exact this.lt hd))
theorem HR0.push {M0:Nat→Prop}{base:Nat}{w w':World}{ρ:List (Option Nat)}{h:List AObj}(k:HR0 M0 base w ρ h)
 (hs:w.heap.size≤w'.heap.size) (hb:∀b,b<w.heap.size→w'.heap[b]? =w.heap[b]?) (r:Option Nat) (ob:AObj) (hr:∀b,r=some b→w.heap.size≤b)
 (hob:Ch (Mu M0 ρ h) (Mu M0 (ρ++[r]) (h++[ob])) w w' ρ (ρ++[r]) h (h++[ob])→wu (Mu M0 (ρ++[r]) (h++[ob])) base w' (ρ++[r]) (h++[ob]) r ob):
 HR0 M0 base w' (ρ++[r]) (h++[ob])∧Ch (Mu M0 ρ h) (Mu M0 (ρ++[r]) (h++[ob])) w w' ρ (ρ++[r]) h (h++[ob]):=by
 have old:∀{o:Nat}{x:AObj},(h++[ob])[o]? =some x→o<h.length→h[o]? =some x:=fun e hlt=>by rwa[Ze hlt]at e
 have oldr:∀{o:Nat}{x:Option Nat},(ρ++[r])[o]? =some x→o<h.length→ρ[o]? =some x:=fun e hlt=>by rwa[Ze (by rw[k.len];exact hlt)]at e
 have new:∀{o:Nat}{x:AObj},(h++[ob])[o]? =some x→¬o<h.length→o=h.length∧x=ob:=fun{o x}e hlt=>by
  rw[Zh (by omega)]at e
  have:o-h.length=0:=by
   have:=(Zb.1 e).1
   simp at this;omega
  rw[this]at e
  simp at e
  exact⟨by omega,e.symm⟩
 have newr:∀{x:Option Nat},(ρ++[r])[h.length]? =some x→x=r:=fun e=>by
  rw[←k.len,Zh (Zl _)]at e
  simpa using e.symm
 have c:Ch (Mu M0 ρ h) (Mu M0 (ρ++[r]) (h++[ob])) w w' ρ (ρ++[r]) h (h++[ob]):=by
  refine⟨⟨hs,fun b hlt hm=> ?_,fun b hlt _=>hb b hlt⟩,fun b cur hr=>⟨cur,by obtain⟨T,hr'⟩:=hr;exact⟨T,by rw[hb b (gg.lt ⟨T,hr'⟩)];exact hr'⟩,rfl⟩,fun o r' ob' h1 h2 _=> ?_,fun o b z es c v hr' ho _ hv=>by unfold World.cell? at hv⊢;rw[hb b ((k.objs o _ _ ho hr').lt (by simp))];exact hv⟩
  ·rcases hm with hm|⟨o,x,ho,hmut,hro⟩
   ·exact .inl hm
   ·by_cases hlt':o<h.length
    ·exact .inr ⟨o,x,old ho hlt',hmut,oldr hro hlt'⟩
    ·obtain⟨rfl,rfl⟩:=new ho hlt'
     have:=hr b (newr hro).symm
     omega
  ·have hlt:o<h.length:=(Zb.1 h2).1
   exact⟨ob',by rw[Ze (by rw[k.len];exact hlt)];exact h1,by rw[Ze hlt];exact h2,qQ.refl _⟩
 refine⟨⟨by simp[k.len],fun b hm=>⟨Z3 (k.old b hm).1 hs,fun o x ho hx hro=> ?_⟩,Zc k.le hs,fun o x r' ho hr'=> ?_,fun o o' x x' b h1 h2 m1 m2 r1 r2=> ?_⟩,c⟩
 ·by_cases hlt:o<h.length
  ·exact(k.old b hm).2 o x (old ho hlt) hx (oldr hro hlt)
  ·obtain⟨rfl,rfl⟩:=new ho hlt
   have:=hr b (newr hro).symm
   have:=(k.old b hm).1
   omega
 ·by_cases hlt:o<h.length
  ·have:=k.objs o x r' (old ho hlt) (oldr hr' hlt)
   exact this.keep c (fun b e hd=>hb b (by subst e;exact this.lt hd))
  ·obtain⟨rfl,rfl⟩:=new ho hlt
   rw[newr hr']
   exact hob c
 ·by_cases l1:o<h.length<;>by_cases l2:o'<h.length
  ·exact k.apart o o' x x' b (old h1 l1) (old h2 l2) m1 m2 (oldr r1 l1) (oldr r2 l2)
  ·obtain⟨rfl,rfl⟩:=new h2 l2
   have hb1:=hr b (newr r2).symm
   have:=(k.objs o x _ (old h1 l1) (oldr r1 l1)).lt (AObj.mut_live m1)
   omega
  ·obtain⟨rfl,rfl⟩:=new h1 l1
   have hb1:=hr b (newr r1).symm
   have:=(k.objs o' x' _ (old h2 l2) (oldr r2 l2)).lt (AObj.mut_live m2)
   omega
  ·exact(new h1 l1).1.trans (new h2 l2).1.symm
theorem HR0.upd {M0:Nat→Prop}{base:Nat}{w w':World}{ρ:List (Option Nat)}{h:List AObj}(k:HR0 M0 base w ρ h){o:Nat}{ob ob':AObj}{r:Option Nat}
 (ho:h[o]? =some ob) (hr:ρ[o]? =some r) (hmut:ob.mut=true) (hsim:qQ ob ob')
 (hs:w.heap.size=w'.heap.size) (hb:∀b,r≠some b→w'.heap[b]? =w.heap[b]?)
 (hrow:∀b cur,r=some b→gg w b cur→∃cur',gg w' b cur'∧cur'.size=cur.size)
 (hob:Ch (Mu M0 ρ h) (Mu M0 ρ (h.set o ob')) w w' ρ ρ h (h.set o ob')→wu (Mu M0 ρ (h.set o ob')) base w' ρ (h.set o ob') r ob')
 (hzr:∀z es b c v,ob= .zarr z es→r=some b→vY z es c→w.cell? ⟨b,c,none⟩=some v→w'.cell? ⟨b,c,none⟩=some v:=by first|(intro _ _ _ _ _ e;cases e;done)|(intro _ _ _ _ _ _ _ _ h;exact h)):
 HR0 M0 base w' ρ (h.set o ob')∧Ch (Mu M0 ρ h) (Mu M0 ρ (h.set o ob')) w w' ρ ρ h (h.set o ob'):=by
 have hlt:o<h.length:=(Zb.1 ho).1
 have get:∀{i:Nat}{x:AObj},(h.set o ob')[i]? =some x→(i=o∧x=ob')∨(i≠o∧h[i]? =some x):=fun{i x}e=>by
  by_cases hi:o=i
  ·subst hi
   rw[Zd hlt]at e
   cases e
   exact .inl ⟨rfl,rfl⟩
  ·rw[Za hi]at e
   exact .inr ⟨fun e'=>hi e'.symm,e⟩
 have mu:∀b,Mu M0 ρ (h.set o ob') b→Mu M0 ρ h b:=fun b hm=>by
  rcases hm with hm|⟨i,x,hi,hx,hri⟩
  ·exact .inl hm
  ·rcases get hi with⟨rfl,rfl⟩|⟨_,hi'⟩
   ·exact .inr ⟨_,ob,ho,hmut,hri⟩
   ·exact .inr ⟨i,x,hi',hx,hri⟩
 have inM:∀b,r=some b→Mu M0 ρ h b:=fun b e=> .inr ⟨o,ob,ho,hmut,by rw[hr,e]⟩
 have c:Ch (Mu M0 ρ h) (Mu M0 ρ (h.set o ob')) w w' ρ ρ h (h.set o ob'):=by
  refine⟨⟨by omega,fun b _ hm=>mu b hm,fun b _ hm=>hb b (fun e=>hm (inM b e))⟩,fun b cur hrw=> ?_,fun i r' x h1 h2 _=> ?_,fun i b z es p v h1 h2 hl hv=> ?_⟩
  ·by_cases e:r=some b
   ·exact hrow b cur e hrw
   ·obtain⟨T,hr'⟩:=hrw
    exact⟨cur,⟨T,by rw[hb b e];exact hr'⟩,rfl⟩
  ·by_cases hi:o=i
   ·subst hi
    rw[ho]at h2;cases h2
    exact⟨ob',h1,Zd hlt,hsim⟩
   ·exact⟨x,h1,by rw[Za hi];exact h2,qQ.refl x⟩
  ·by_cases hi:o=i
   ·subst hi
    rw[ho]at h2;cases h2
    rw[hr]at h1;cases h1
    exact hzr z es b p v rfl rfl hl hv
   ·unfold World.cell? at hv⊢
    rw[hb b fun e=>hi (k.apart o i ob _ b ho h2 hmut rfl (by rw[hr,e]) h1)]
    exact hv
 refine⟨⟨by simp[k.len],fun b hm=>⟨by rw[←hs];exact(k.old b hm).1,fun i x hi hx hri=> ?_⟩,by rw[←hs];exact k.le,fun i x r' hi hri=> ?_,fun i i' x x' b h1 h2 m1 m2 r1 r2=> ?_⟩,c⟩
 ·rcases get hi with⟨rfl,rfl⟩|⟨_,hi'⟩
  ·exact(k.old b hm).2 _ ob ho hmut hri
  ·exact(k.old b hm).2 i x hi' hx hri
 ·rcases get hi with⟨rfl,rfl⟩|⟨hne,hi'⟩
  ·rw[hr]at hri;cases hri
   exact hob c
  ·have kx:=k.objs i x r' hi' hri
   refine kx.keep c (fun b e hd=>hb b (fun e'=> ?_))
   subst e
   by_cases hxm:x.mut=true
   ·exact hne (k.apart i o x ob b hi' ho hxm hmut hri (by rw[hr,e']))
   ·cases x with
    |box cs=>exact hxm rfl
    |arr z es=>exact hxm rfl
    |tbox n=>exact hxm rfl
    |darr z es=>exact hxm rfl
    |zarr z es=>exact hxm rfl
    |froz z es=>obtain⟨_,_,hm,_⟩:=kx;exact hm (inM b e')
    |fbox ps=>obtain⟨b1,cur1,e1,hm,_⟩:=kx;cases e1;exact hm (inM b e')
    |dead=>exact hd rfl
    |res=>subst e';cases kx
 ·have lift:∀{i:Nat}{x:AObj},(h.set o ob')[i]? =some x→x.mut=true→∃y,h[i]? =some y∧y.mut=true:=fun{i x}e m=>by
   rcases get e with⟨rfl,rfl⟩|⟨_,e'⟩
   ·exact⟨ob,ho,hmut⟩
   ·exact⟨x,e',m⟩
  obtain⟨y,hy,my⟩:=lift h1 m1
  obtain⟨y',hy',my'⟩:=lift h2 m2
  exact k.apart i i' y y' b hy hy' my my' r1 r2
theorem Deep.push {κ:Nat→List Nat}{M0:Nat→Prop}{base:Nat}{w w':World}{ρ:List (Option Nat)}{h:List AObj}(k:HR0 M0 base w ρ h)(d:Deep κ base w ρ h)
 (hb:∀b,b<w.heap.size→w'.heap[b]? =w.heap[b]?) (r:Option Nat) (ob:AObj) (hr:∀b,r=some b→w.heap.size≤b) (hnd:ob.deep=none):∃κ',Deep κ' base w' (ρ++[r]) (h++[ob])∧∀b,κ' b=if r=some b then [h.length]else κ b:=by
 refine⟨fun b=>if r=some b then [h.length]else κ b,⟨fun o x b ho hx hro=> ?_,fun o x z es b ho hd hro=> ?_⟩,fun b=>rfl⟩
 ·by_cases hlt:o<h.length
  ·rw[Ze hlt]at ho
   rw[Ze (by rw[k.len];exact hlt)]at hro
   have hl:=(k.objs o x _ ho hro).lt (AObj.mut_live hx)
   rw[if_neg fun e=>by have:=hr b e;omega]
   exact d.root o x b ho hx hro
  ·have ho':=(Zb.1 ho).1
   simp at ho'
   obtain rfl:o=h.length:=by omega
   rw[←k.len]at hro
   simp at hro
   rw[if_pos hro]
 ·by_cases hlt:o<h.length
  ·rw[Ze hlt]at ho
   rw[Ze (by rw[k.len];exact hlt)]at hro
   have hl:=(k.objs o x _ ho hro).lt (AObj.mut_live (AObj.deep_mut hd))
   exact(d.tree o x z es b ho hd hro).go (Zl _) (fun o _=>by unfold World.cell?;rw[hb b hl]) ((k.objs o x _ ho hro).rows hd).2 (fun c b' τ hlt' e=>⟨by rw[if_neg fun e'=>by have:=hr b' e';omega];exact e,hb b' hlt'⟩)
  ·have ho':=(Zb.1 ho).1
   simp at ho'
   obtain rfl:o=h.length:=by omega
   simp at ho
   rw[ho,hd]at hnd
   cases hnd
theorem HR.world {M0:Nat→Prop}{base:Nat}{w w':World}{ρ:List (Option Nat)}{h:List AObj}(k:HR M0 base w ρ h)
 (hs:w.heap.size≤w'.heap.size) (hb:∀b,b<w.heap.size→w'.heap[b]? =w.heap[b]?):
 HR M0 base w' ρ h∧Ch (Mu M0 ρ h) (Mu M0 ρ h) w w' ρ ρ h h:=by
 obtain⟨a,c⟩:=k.toHR0.world hs hb
 obtain⟨κ,d,n⟩:=k.deep
 refine⟨⟨a,κ,⟨d.root,fun o ob z es b ho hd hr=> ?_⟩,fun b hb'=>n.new b (by omega),n.zone⟩,c⟩
 have hlt:=(k.objs o ob _ ho hr).lt (AObj.mut_live (AObj.deep_mut hd))
 exact(d.tree o ob z es b ho hd hr).go (Zl _) (fun o _=>by unfold World.cell?;rw[hb b hlt]) ((k.objs o ob _ ho hr).rows hd).2 (fun c b τ hlt e=>⟨e,hb b hlt⟩)
theorem HR.push {M0:Nat→Prop}{base:Nat}{w w':World}{ρ:List (Option Nat)}{h:List AObj}(k:HR M0 base w ρ h)
 (hs:w.heap.size≤w'.heap.size) (hb:∀b,b<w.heap.size→w'.heap[b]? =w.heap[b]?) (r:Option Nat) (ob:AObj) (hr:∀b,r=some b→w.heap.size≤b)
 (hob:Ch (Mu M0 ρ h) (Mu M0 (ρ++[r]) (h++[ob])) w w' ρ (ρ++[r]) h (h++[ob])→wu (Mu M0 (ρ++[r]) (h++[ob])) base w' (ρ++[r]) (h++[ob]) r ob) (hnd:ob.deep=none:=by rfl) (hdd:ob= .dead→r=none:=by first|nofun|(intro h;cases h;done)):
 HR M0 base w' (ρ++[r]) (h++[ob])∧Ch (Mu M0 ρ h) (Mu M0 (ρ++[r]) (h++[ob])) w w' ρ (ρ++[r]) h (h++[ob]):=by
 obtain⟨a,c⟩:=k.toHR0.push hs hb r ob hr hob
 obtain⟨κ,d,n⟩:=k.deep
 obtain⟨κ',d',e'⟩:=d.push k.toHR0 hb r ob hr hnd
 refine⟨⟨a,κ',d',fun b hb'=> ?_,fun b o c τ z es e ho=> ?_⟩,c⟩
 ·rw[e']
  split
  ·rename_i hrb
   have h1:(h++[ob])[h.length]? =some ob:=by simp
   have h2:(ρ++[r])[h.length]? =some (some b):=by rw[←k.len,←hrb];simp
   by_cases hd:ob= .dead
   ·subst hd
    exact absurd (hdd rfl) (by rw[hrb];simp)
   ·have:=(a.objs _ _ _ h1 h2).lt hd
    omega
  ·exact n.new b (by omega)
 ·rw[e']at e
  split at e
  ·cases e
  ·by_cases hlt:o<h.length
   ·rw[Ze hlt]at ho
    exact n.zone b o c τ z es e ho
   ·have ho':=(Zb.1 ho).1
    simp at ho'
    obtain rfl:o=h.length:=by omega
    simp at ho
    rw[ho]at hnd
    cases hnd
theorem Deep.upd {κ:Nat→List Nat}{M0:Nat→Prop}{base:Nat}{w w':World}{ρ:List (Option Nat)}{h:List AObj}(k:HR0 M0 base w ρ h)(d:Deep κ base w ρ h){o:Nat}{ob ob':AObj}{r:Option Nat}
 (ho:h[o]? =some ob) (hr:ρ[o]? =some r) (hmut:ob.mut=true) (hb:∀b,r≠some b→w'.heap[b]? =w.heap[b]?)
 (ht:∀z es b,ob'.deep=some (z,es)→r=some b→qA κ base w' z es [o] b):Deep κ base w' ρ (h.set o ob'):=by
 have hlt:o<h.length:=(Zb.1 ho).1
 have get:∀{i:Nat}{x:AObj},(h.set o ob')[i]? =some x→(i=o∧x=ob')∨(i≠o∧h[i]? =some x):=fun{i x}e=>by
  by_cases hi:o=i
  ·subst hi
   rw[Zd hlt]at e
   cases e
   exact .inl ⟨rfl,rfl⟩
  ·rw[Za hi]at e
   exact .inr ⟨fun e'=>hi e'.symm,e⟩
 refine⟨fun i x b hi hx hri=> ?_,fun i x z es b hi hd hri=> ?_⟩
 ·rcases get hi with⟨rfl,rfl⟩|⟨_,hi'⟩
  ·exact d.root _ ob b ho hmut hri
  ·exact d.root i x b hi' hx hri
 ·rcases get hi with⟨rfl,rfl⟩|⟨hne,hi'⟩
  ·rw[hr]at hri
   cases hri
   exact ht z es b hd rfl
  ·have hbne:r≠some b:=fun e=>hne (k.apart i o x ob b hi' ho (AObj.deep_mut hd) hmut hri (by rw[hr,e]))
   refine(d.tree i x z es b hi' hd hri).go (Zl _) (fun c _=>by unfold World.cell?;rw[hb b hbne]) ((k.objs i x _ hi' hri).rows hd).2 (fun c b' τ hlt' e=>⟨e,hb b' fun e'=> ?_⟩)
   have:=d.root o ob b' ho hmut (by rw[hr,e'])
   rw[e]at this
   simp at this
theorem HR.upd {M0:Nat→Prop}{base:Nat}{w w':World}{ρ:List (Option Nat)}{h:List AObj}(k:HR M0 base w ρ h){o:Nat}{ob ob':AObj}{r:Option Nat}
 (ho:h[o]? =some ob) (hr:ρ[o]? =some r) (hmut:ob.mut=true) (hsim:qQ ob ob')
 (hs:w.heap.size=w'.heap.size) (hb:∀b,r≠some b→w'.heap[b]? =w.heap[b]?)
 (hrow:∀b cur,r=some b→gg w b cur→∃cur',gg w' b cur'∧cur'.size=cur.size)
 (hob:Ch (Mu M0 ρ h) (Mu M0 ρ (h.set o ob')) w w' ρ ρ h (h.set o ob')→wu (Mu M0 ρ (h.set o ob')) base w' ρ (h.set o ob') r ob') (hnd:ob'.deep=none:=by rfl)
 (hzr:∀z es b c v,ob= .zarr z es→r=some b→vY z es c→w.cell? ⟨b,c,none⟩=some v→w'.cell? ⟨b,c,none⟩=some v:=by first|(intro _ _ _ _ _ e;cases e;done)|(intro _ _ _ _ _ _ _ _ h;exact h)):
 HR M0 base w' ρ (h.set o ob')∧Ch (Mu M0 ρ h) (Mu M0 ρ (h.set o ob')) w w' ρ ρ h (h.set o ob'):=by
 obtain⟨a,c⟩:=k.toHR0.upd ho hr hmut hsim hs hb hrow hob hzr
 obtain⟨κ,d,n⟩:=k.deep
 refine⟨⟨a,κ,d.upd k.toHR0 ho hr hmut hb (fun z es b e=>by rw[hnd]at e;cases e),fun b hb'=>n.new b (by omega),fun b i c τ z es e hi=> ?_⟩,c⟩
 by_cases hi':o=i
 ·subst hi'
  rw[Zd (Zb.1 ho).1]at hi
  cases hi;cases hnd
 ·rw[Za hi']at hi
  exact n.zone b i c τ z es e hi
theorem HR.freezeO {M0:Nat→Prop}{base:Nat}{w:World}{ρ:List (Option Nat)}{h:List AObj}(k:HR M0 base w ρ h){o z:Nat}{es:List (List PV)}{ob:AObj}
 (ho:h[o]? =some ob) (hob:ob= .arr z es∨ob= .darr z es):HR M0 base w ρ (h.set o (.froz z es))∧Ch (Mu M0 ρ h) (Mu M0 ρ (h.set o (.froz z es))) w w ρ ρ h (h.set o (.froz z es)):=by
 have hlt:o<h.length:=(Zb.1 ho).1
 obtain⟨r,hr⟩:=k.mem ho
 have hmut:ob.mut=true:=by rcases hob with rfl|rfl<;>rfl
 refine k.upd ho hr hmut (by rcases hob with rfl|rfl<;>exact⟨rfl,rfl⟩) rfl (fun _ _=>rfl) (fun b cur _ hr=>⟨cur,hr,rfl⟩) (fun c=> ?_)
 have kx0:=k.objs o _ r ho hr
 have kx1:wu (Mu M0 ρ h) base w ρ h r (.arr z es):=by
  rcases hob with rfl|rfl<;>exact kx0
 obtain⟨hz,hes,kx⟩:=kx1
 refine⟨hz,hes,?_⟩
 cases r with
 |none=>exact kx
 |some b=>
  obtain⟨hbase,cur,cap,hrw,h1,h2,h3,h4⟩:=kx
  refine⟨fun hm=> ?_,cur,cap,hrw,h1,h2,h3,fun i e j p he hp=> ?_⟩
  ·rcases hm with hm|⟨i,x,hi,hx,hri⟩
   ·exact(k.old b hm).2 o ob ho hmut hr
   ·by_cases e:o=i
    ·subst e
     rw[Zd hlt]at hi
     cases hi;cases hx
    ·rw[Za e]at hi
     exact e (k.apart o i _ x b ho hi hmut hx hr hri)
  ·obtain⟨v,hv,hrd⟩:=h4 i e j p he hp
   exact⟨v,hv,ap.go c.go p v hrd⟩
theorem HR.freeze {M0:Nat→Prop}{base:Nat}{w:World}{ρ:List (Option Nat)}{h:List AObj}(k:HR M0 base w ρ h){o z:Nat}{es:List (List PV)}
 (ho:h[o]? =some (.arr z es)):HR M0 base w ρ (h.set o (.froz z es))∧Ch (Mu M0 ρ h) (Mu M0 ρ (h.set o (.froz z es))) w w ρ ρ h (h.set o (.froz z es)):=k.freezeO ho (.inl rfl)
theorem HR.fbox {M0:Nat→Prop}{base:Nat}{w:World}{ρ:List (Option Nat)}{h:List AObj}(k:HR M0 base w ρ h){o:Nat}{cs:List L}{ps:List PV}
 (ho:h[o]? =some (.box cs)) (hv:∀us,ru (Mu M0 ρ h) w ρ h cs us→ps.length=us.length∧∀(j:Nat)p,ps[j]? =some p→∃v,us[j]? =some v∧ap (Mu M0 ρ h) w p v):
 HR M0 base w ρ (h.set o (.fbox ps))∧Ch (Mu M0 ρ h) (Mu M0 ρ (h.set o (.fbox ps))) w w ρ ρ h (h.set o (.fbox ps)):=by
 have hlt:o<h.length:=(Zb.1 ho).1
 obtain⟨r,hr⟩:=k.mem ho
 refine k.upd ho hr rfl trivial rfl (fun _ _=>rfl) (fun b cur _ hr=>⟨cur,hr,rfl⟩) (fun c=> ?_)
 obtain⟨b,cur,rfl,hbase,hrow,hls⟩:=k.objs o _ r ho hr
 obtain⟨hl,hrd⟩:=hv _ hls
 refine⟨b,cur,rfl,fun hm=> ?_,hrow,by simpa using hl,fun j p hp=> ?_⟩
 ·rcases hm with hm|⟨i,x,hi,hx,hri⟩
  ·exact(k.old b hm).2 o _ ho rfl hr
  ·by_cases e:o=i
   ·subst e
    rw[Zd hlt]at hi
    cases hi;cases hx
   ·rw[Za e]at hi
    exact e (k.apart o i _ x b ho hi rfl hx hr hri)
 ·obtain⟨v,hv,hrd⟩:=hrd j p hp
  exact⟨v,by simpa using hv,ap.go c.go p v hrd⟩
theorem HR.freezeL {M0:Nat→Prop}{base:Nat}{w:World}{ρ:List (Option Nat)}{h:List AObj}(k:HR M0 base w ρ h)(l:L):
 HR M0 base w ρ (freezeL h l)∧Ch (Mu M0 ρ h) (Mu M0 ρ (freezeL h l)) w w ρ ρ h (freezeL h l):=by
 cases l with
 |arr o=>
  simp only[Gi.freezeL]
  split
  ·rename_i z es ho
   exact k.freeze ho
  ·rename_i z es ho
   exact k.freezeO ho (.inr rfl)
  ·exact⟨k,Ch.refl _ _ _ _⟩
 |_=>exact⟨k,Ch.refl _ _ _ _⟩
theorem HR.freezeLs {M0:Nat→Prop}{base:Nat}{w:World}{ρ:List (Option Nat)}:∀{h:List AObj}(_:HR M0 base w ρ h)(ls:List L),
 HR M0 base w ρ (freezeLs h ls)∧Ch (Mu M0 ρ h) (Mu M0 ρ (freezeLs h ls)) w w ρ ρ h (freezeLs h ls)
 |_,k,[]=>⟨k,Ch.refl _ _ _ _⟩
 |h,k,l::ls=>by
  obtain⟨k1,c1⟩:=k.freezeL l
  obtain⟨k2,c2⟩:=HR.freezeLs k1 ls
  exact⟨k2,c1.trans c2⟩
theorem HR.freezeVs {M0:Nat→Prop}{base:Nat}{w:World}{ρ:List (Option Nat)}:∀{h:List AObj}(_:HR M0 base w ρ h)(vs:List V),
 HR M0 base w ρ (freezeVs h vs)∧Ch (Mu M0 ρ h) (Mu M0 ρ (freezeVs h vs)) w w ρ ρ h (freezeVs h vs)
 |_,k,[]=>⟨k,Ch.refl _ _ _ _⟩
 |h,k,v::vs=>by
  obtain⟨k1,c1⟩:=k.freezeLs v.cells
  obtain⟨k2,c2⟩:=HR.freezeVs k1 vs
  exact⟨k2,c1.trans c2⟩
theorem HR.fill {M0:Nat→Prop}{base:Nat}{w w':World}{ρ:List (Option Nat)}{h:List AObj}(k:HR M0 base w ρ h){i:Nat}(hi:h[i]? =some .res)
 (hs:w.heap.size≤w'.heap.size) (hb:∀b,b<w.heap.size→w'.heap[b]? =w.heap[b]?) {b0:Nat} (hb0:w.heap.size≤b0) {cs:List L}
 (hob:Ch (Mu M0 ρ h) (Mu M0 (ρ.set i (some b0)) (h.set i (.box cs))) w w' ρ (ρ.set i (some b0)) h (h.set i (.box cs))→wu (Mu M0 (ρ.set i (some b0)) (h.set i (.box cs))) base w' (ρ.set i (some b0)) (h.set i (.box cs)) (some b0) (.box cs)):
 HR M0 base w' (ρ.set i (some b0)) (h.set i (.box cs))∧Ch (Mu M0 ρ h) (Mu M0 (ρ.set i (some b0)) (h.set i (.box cs))) w w' ρ (ρ.set i (some b0)) h (h.set i (.box cs)):=by
 have hlt:i<h.length:=(Zb.1 hi).1
 have hlr:i<ρ.length:=by rw[k.len];exact hlt
 have get:∀{j:Nat}{x:AObj},(h.set i (.box cs))[j]? =some x→(j=i∧x= .box cs)∨(j≠i∧h[j]? =some x):=fun{j x}e=>by
  by_cases q:i=j
  ·subst q
   rw[Zd hlt]at e
   cases e
   exact .inl ⟨rfl,rfl⟩
  ·rw[Za q]at e
   exact .inr ⟨fun e'=>q e'.symm,e⟩
 have getr:∀{j:Nat}{r:Option Nat},(ρ.set i (some b0))[j]? =some r→(j=i∧r=some b0)∨(j≠i∧ρ[j]? =some r):=fun{j r}e=>by
  by_cases q:i=j
  ·subst q
   rw[Zd hlr]at e
   cases e
   exact .inl ⟨rfl,rfl⟩
  ·rw[Za q]at e
   exact .inr ⟨fun e'=>q e'.symm,e⟩
 have mu:∀b,b<w.heap.size→Mu M0 (ρ.set i (some b0)) (h.set i (.box cs)) b→Mu M0 ρ h b:=fun b hl hm=>by
  rcases hm with hm|⟨j,x,hj,hx,hrj⟩
  ·exact .inl hm
  ·rcases getr hrj with⟨rfl,e⟩|⟨q,hrj'⟩
   ·cases e;omega
   ·rcases get hj with⟨e,_⟩|⟨_,hj'⟩
    ·exact absurd e q
    ·exact .inr ⟨j,x,hj',hx,hrj'⟩
 have c:Ch (Mu M0 ρ h) (Mu M0 (ρ.set i (some b0)) (h.set i (.box cs))) w w' ρ (ρ.set i (some b0)) h (h.set i (.box cs)):=by
  refine⟨⟨hs,mu,fun b hl _=>hb b hl⟩,fun b cur hr=>⟨cur,by obtain⟨T,hr'⟩:=hr;exact⟨T,by rw[hb b (gg.lt ⟨T,hr'⟩)];exact hr'⟩,rfl⟩,fun j r x h1 h2 hn=> ?_,fun j b z es p v hr ho _ hv=>by unfold World.cell? at hv⊢;rw[hb b ((k.objs j _ _ ho hr).lt (by simp))];exact hv⟩
  have q:i≠j:=by
   rintro rfl
   rw[hi]at h2;cases h2
   exact hn rfl
  exact⟨x,by rw[Za q];exact h1,by rw[Za q];exact h2,qQ.refl x⟩
 have live:∀{j:Nat}{x:AObj}{b:Nat},h[j]? =some x→x.mut=true→ρ[j]? =some (some b)→b<w.heap.size:=fun{j x b}e m r=>(k.objs j x _ e r).lt (AObj.mut_live m)
 obtain⟨κ,d,n⟩:=k.deep
 refine⟨⟨⟨by simp[k.len],fun b hm=>⟨Z3 (k.old b hm).1 hs,fun j x hj hx hrj=> ?_⟩,Zc k.le hs,fun j x r hj hrj=> ?_,fun j j' x x' b h1 h2 m1 m2 r1 r2=> ?_⟩,fun b=>if b=b0 then [i]else κ b,⟨fun j x b hj hx hrj=> ?_,fun j x z es b hj hd hrj=> ?_⟩,fun b hb'=> ?_,fun b o p τ z es e ho=> ?_⟩,c⟩
 ·rcases getr hrj with⟨rfl,e⟩|⟨q,hrj'⟩
  ·cases e
   have:=(k.old _ hm).1
   omega
  ·rcases get hj with⟨e,_⟩|⟨_,hj'⟩
   ·exact q e
   ·exact(k.old b hm).2 j x hj' hx hrj'
 ·rcases getr hrj with⟨rfl,rfl⟩|⟨q,hrj'⟩
  ·rcases get hj with⟨_,rfl⟩|⟨q,_⟩
   ·exact hob c
   ·exact absurd rfl q
  ·rcases get hj with⟨e,_⟩|⟨_,hj'⟩
   ·exact absurd e q
   ·have kx:=k.objs j x r hj' hrj'
    exact kx.keep c (fun b e hd=>hb b (by subst e;exact kx.lt hd))
 ·rcases getr r1 with⟨rfl,e1⟩|⟨q1,r1'⟩
  ·cases e1
   rcases getr r2 with⟨rfl,_⟩|⟨q2,r2'⟩
   ·rfl
   ·rcases get h2 with⟨e,_⟩|⟨_,h2'⟩
    ·exact absurd e q2
    ·have:=live h2' m2 r2'
     omega
  ·rcases get h1 with⟨e,_⟩|⟨_,h1'⟩
   ·exact absurd e q1
   ·rcases getr r2 with⟨rfl,e2⟩|⟨q2,r2'⟩
    ·cases e2
     have:=live h1' m1 r1'
     omega
    ·rcases get h2 with⟨e,_⟩|⟨_,h2'⟩
     ·exact absurd e q2
     ·exact k.apart j j' x x' b h1' h2' m1 m2 r1' r2'
 ·rcases getr hrj with⟨rfl,e⟩|⟨q,hrj'⟩
  ·cases e
   simp
  ·rcases get hj with⟨e,_⟩|⟨_,hj'⟩
   ·exact absurd e q
   ·have:=live hj' hx hrj'
    show(if b=b0 then [i]else κ b)=[j]
    rw[if_neg (by omega)]
    exact d.root j x b hj' hx hrj'
 ·rcases get hj with⟨_,rfl⟩|⟨q,hj'⟩
  ·cases hd
  ·rcases getr hrj with⟨e,_⟩|⟨_,hrj'⟩
   ·exact absurd e q
   ·have hl:=live hj' (AObj.deep_mut hd) hrj'
    exact(d.tree j x z es b hj' hd hrj').go (Zl _) (fun o _=>by unfold World.cell?;rw[hb b hl]) ((k.objs j x _ hj' hrj').rows hd).2 (fun p b' τ hlt' e=>⟨by show(if b'=b0 then [i]else κ b')=_;rw[if_neg (by omega)];exact e,hb b' hlt'⟩)
 ·show(if b=b0 then [i]else κ b)=[]
  split
  ·rename_i e
   subst e
   have kx:=hob c
   have:=kx.lt (by simp)
   omega
  ·exact n.new b (by omega)
 ·have e:(if b=b0 then [i]else κ b)=o::p::τ:=e
  split at e
  ·cases e
  ·rcases get ho with⟨_,e'⟩|⟨_,ho'⟩
   ·cases e'
   ·exact n.zone b o p τ z es e ho'
end Gi
