/- A part. -/
import Derived.Test.YtndiampmpmbfoaaGreatGib
set_option linter.all false
namespace Gi
open Go
variable {KI:KF}
def xX.keep {M M':Nat->Prop}{base:Nat}{w w':World}{J J':List (Option Nat)}{h h':List Y0}{r:Option Nat}{ob:Y0}
 (k:xX M base w J h r ob) (c:Ch M M' w w' J J' h h') (hb:∀b,r=some b->ob≠ .dead->w'.heap[b]? =w.heap[b]?):xX M' base w' J' h' r ob:=by
 have row:∀{b cur},r=some b->ob≠ .dead->fO w b cur->fO w' b cur:=fun e hd⟨T,hr⟩=>⟨T,by rw[hb _ e hd];exact hr⟩
 cases ob with
 |box cs=>
  obtain⟨b,cur,rfl,a5,hr,hl⟩:=k
  exact⟨b,cur,rfl,a5,row rfl (by simp) hr,hl.ch c⟩
 |arr z es=>
  obtain⟨hz,ak,k⟩:=k
  refine⟨hz,ak,?_⟩
  cases r with
  |none=>exact k
  |some b=>
   obtain⟨a5,cur,cap,hr,h1,h2,h3,h4⟩:=k
   refine⟨a5,cur,cap,row rfl (by simp) hr,h1,h2,h3,fun i e j p he hp=> ?_⟩
   obtain⟨v,hv,hr⟩:=h4 i e j p he hp
   exact⟨v,hv,aq.go c.go p v hr⟩
 |bH z es=>
  obtain⟨hz,ak,k⟩:=k
  refine⟨hz,ak,?_⟩
  cases r with
  |none=>exact k
  |some b=>
   obtain⟨hm,cur,cap,hr,h1,h2,h3,h4⟩:=k
   refine⟨fun aw=>hm (c.go.cls b hr.lt aw),cur,cap,row rfl (by simp) hr,h1,h2,h3,fun i e j p he hp=> ?_⟩
   obtain⟨v,hv,hr⟩:=h4 i e j p he hp
   exact⟨v,hv,aq.go c.go p v hr⟩
 |bA z es=>
  obtain⟨hz,ak,k⟩:=k
  refine⟨hz,ak,?_⟩
  cases r with
  |none=>exact k
  |some b=>
   obtain⟨a5,cur,cap,hr,h1,h2,h3,h4⟩:=k
   refine⟨a5,cur,cap,row rfl (by simp) hr,h1,h2,h3,fun i e j p he hp=> ?_⟩
   obtain⟨v,hv,hr⟩:=h4 i e j p he hp
   exact⟨v,hv,aq.go c.go p v hr⟩
 |bB z es=>
  obtain⟨hz,ak,k⟩:=k
  refine⟨hz,ak,?_⟩
  cases r with
  |none=>exact k
  |some b=>
   obtain⟨a5,cur,cap,hr,h1,h2,h3⟩:=k
   exact⟨a5,cur,cap,row rfl (by simp) hr,h1,h2,h3⟩
 |bL ps=>
  obtain⟨b,cur,rfl,hm,hr,hl,h4⟩:=k
  refine⟨b,cur,rfl,fun aw=>hm (c.go.cls b hr.lt aw),row rfl (by simp) hr,hl,fun j p hp=> ?_⟩
  obtain⟨v,hv,hr⟩:=h4 j p hp
  exact⟨v,hv,aq.go c.go p v hr⟩
 |bT n=>
  obtain⟨b,cur,rfl,a5,hr,hn⟩:=k
  exact⟨b,cur,rfl,a5,row rfl (by simp) hr,hn⟩
 |dead=>trivial
 |res=>exact k
def xX.lt {M:Nat->Prop}{base:Nat}{w:World}{J:List (Option Nat)}{h:List Y0}{b:Nat}{ob:Y0}
 (k:xX M base w J h (some b) ob) (hd:ob≠ .dead):b<w.heap.size:=by
 cases ob with
 |box cs=>obtain⟨b',cur,e,_,hr,_⟩:=k;cases e;exact hr.lt
 |arr z es=>obtain⟨_,_,_,cur,cap,hr,_⟩:=k;exact hr.lt
 |bH z es=>obtain⟨_,_,_,cur,cap,hr,_⟩:=k;exact hr.lt
 |bA z es=>obtain⟨_,_,_,cur,cap,hr,_⟩:=k;exact hr.lt
 |bB z es=>obtain⟨_,_,_,cur,cap,hr,_⟩:=k;exact hr.lt
 |bL ps=>obtain⟨b',cur,e,_,hr,_⟩:=k;cases e;exact hr.lt
 |bT n=>obtain⟨b',cur,e,_,hr,_⟩:=k;cases e;exact hr.lt
 |dead=>exact absurd rfl hd
 |res=>cases k
def xX.base {M:Nat->Prop}{base:Nat}{w:World}{J:List (Option Nat)}{h:List Y0}{b:Nat}{ob:Y0}
 (k:xX M base w J h (some b) ob) (hd:ob.mut=true):base<=b:=by
 cases ob with
 |box cs=>obtain⟨b',cur,e,hb,hr,_⟩:=k;cases e;exact hb
 |arr z es=>obtain⟨_,_,hb,_⟩:=k;exact hb
 |bH z es=>cases hd
 |bA z es=>obtain⟨_,_,hb,_⟩:=k;exact hb
 |bB z es=>obtain⟨_,_,hb,_⟩:=k;exact hb
 |bL ps=>cases hd
 |bT n=>obtain⟨b',cur,e,hb,_⟩:=k;cases e;exact hb
 |dead=>cases hd
 |res=>cases hd
def Y0.bE {ob:Y0}(h:ob.mut=true):ob≠ .dead:=by rintro rfl;cases h
def xX.rows {M:Nat->Prop}{base:Nat}{w:World}{J:List (Option Nat)}{h:List Y0}{r:Option Nat}{ob:Y0}(k:xX M base w J h r ob){z:Nat}{es:List (List PV)}(hd:ob.deep=some (z,es)):0<z/\ ∀e∈es,e.length=z:=by
 cases ob<;>cases hd
 ·exact⟨k.1,k.2.1⟩
 ·exact⟨k.1,k.2.1⟩
def Y0.bP {ob:Y0}{x:Nat×List (List PV)}(h:ob.deep=some x):ob.mut=true:=by cases ob<;>first|rfl|cases h
def HR0.mem {M0:Nat->Prop}{base:Nat}{w:World}{J:List (Option Nat)}{h:List Y0}(k:HR0 M0 base w J h){o:Nat}{ob:Y0}(ho:h[o]? =some ob):∃r,J[o]? =some r:=by
 have:o<h.length:=(Zb.1 ho).1
 exact⟨J[o]'(by rw[k.len];exact this),by simp[k.len,this]⟩
def HR0.world {M0:Nat->Prop}{base:Nat}{w w':World}{J:List (Option Nat)}{h:List Y0}(k:HR0 M0 base w J h)
 (hs:w.heap.size<=w'.heap.size) (hb:∀b,b<w.heap.size->w'.heap[b]? =w.heap[b]?):
 HR0 M0 base w' J h/\ Ch (Mu M0 J h) (Mu M0 J h) w w' J J h h:=by
 have c:Ch (Mu M0 J h) (Mu M0 J h) w w' J J h h:=
  ⟨⟨hs,fun _ _ x=>x,fun b a1 _=>hb b a1⟩,fun b cur hr=>⟨cur,by obtain⟨T,ad⟩:=hr;exact⟨T,by rw[hb b (fO.lt ⟨T,ad⟩)];exact ad⟩,rfl⟩,
    fun o r ob h1 h2 _=>⟨ob,h1,h2,sI.refl ob⟩,fun o b z es c v hr ho _ hv=>by unfold World.cell? at hv⊢;rw[hb b ((k.objs o _ _ ho hr).lt (by simp))];exact hv⟩
 refine⟨⟨k.len,fun b hb=>⟨ZG (k.old b hb).1 hs,(k.old b hb).2⟩,Zc k.le hs,fun o ob r ho hr=> ?_,k.apart⟩,c⟩
 have:=k.objs o ob r ho hr
 exact this.keep c (fun b e hd=>hb b (by subst e;exact this.lt hd))
def HR0.push {M0:Nat->Prop}{base:Nat}{w w':World}{J:List (Option Nat)}{h:List Y0}(k:HR0 M0 base w J h)
 (hs:w.heap.size<=w'.heap.size) (hb:∀b,b<w.heap.size->w'.heap[b]? =w.heap[b]?) (r:Option Nat) (ob:Y0) (hr:∀b,r=some b->w.heap.size<=b)
 (ag:Ch (Mu M0 J h) (Mu M0 (J++[r]) (h++[ob])) w w' J (J++[r]) h (h++[ob])->xX (Mu M0 (J++[r]) (h++[ob])) base w' (J++[r]) (h++[ob]) r ob):
 HR0 M0 base w' (J++[r]) (h++[ob])/\ Ch (Mu M0 J h) (Mu M0 (J++[r]) (h++[ob])) w w' J (J++[r]) h (h++[ob]):=by
 have old:∀{o:Nat}{x:Y0},(h++[ob])[o]? =some x->o<h.length->h[o]? =some x:=fun e a1=>by rwa[Ze a1]at e
 have ae:∀{o:Nat}{x:Option Nat},(J++[r])[o]? =some x->o<h.length->J[o]? =some x:=fun e a1=>by rwa[Ze (by rw[k.len];exact a1)]at e
 have new:∀{o:Nat}{x:Y0},(h++[ob])[o]? =some x->¬o<h.length->o=h.length/\ x=ob:=fun{o x}e a1=>by
  rw[Zk (by omega)]at e
  have:o-h.length=0:=by
   have:=(Zb.1 e).1
   simp at this;omega
  rw[this]at e
  simp at e
  exact⟨by omega,e.symm⟩
 have ai:∀{x:Option Nat},(J++[r])[h.length]? =some x->x=r:=fun e=>by
  rw[<-k.len,Zk (Zn _)]at e
  simpa using e.symm
 have c:Ch (Mu M0 J h) (Mu M0 (J++[r]) (h++[ob])) w w' J (J++[r]) h (h++[ob]):=by
  refine⟨⟨hs,fun b a1 hm=> ?_,fun b a1 _=>hb b a1⟩,fun b cur hr=>⟨cur,by obtain⟨T,ad⟩:=hr;exact⟨T,by rw[hb b (fO.lt ⟨T,ad⟩)];exact ad⟩,rfl⟩,fun o r' ob' h1 h2 _=> ?_,fun o b z es c v ad ho _ hv=>by unfold World.cell? at hv⊢;rw[hb b ((k.objs o _ _ ho ad).lt (by simp))];exact hv⟩
  ·rcases hm with hm|⟨o,x,ho,a2,a8⟩
   ·exact .inl hm
   ·by_cases aa:o<h.length
    ·exact .inr ⟨o,x,old ho aa,a2,ae a8 aa⟩
    ·obtain⟨rfl,rfl⟩:=new ho aa
     have:=hr b (ai a8).symm
     omega
  ·have a1:o<h.length:=(Zb.1 h2).1
   exact⟨ob',by rw[Ze (by rw[k.len];exact a1)];exact h1,by rw[Ze a1];exact h2,sI.refl _⟩
 refine⟨⟨by simp[k.len],fun b hm=>⟨ZG (k.old b hm).1 hs,fun o x ho hx a8=> ?_⟩,Zc k.le hs,fun o x r' ho ad=> ?_,fun o o' x x' b h1 h2 m1 m2 r1 r2=> ?_⟩,c⟩
 ·by_cases a1:o<h.length
  ·exact(k.old b hm).2 o x (old ho a1) hx (ae a8 a1)
  ·obtain⟨rfl,rfl⟩:=new ho a1
   have:=hr b (ai a8).symm
   have:=(k.old b hm).1
   omega
 ·by_cases a1:o<h.length
  ·have:=k.objs o x r' (old ho a1) (ae ad a1)
   exact this.keep c (fun b e hd=>hb b (by subst e;exact this.lt hd))
  ·obtain⟨rfl,rfl⟩:=new ho a1
   rw[ai ad]
   exact ag c
 ·by_cases l1:o<h.length<;>by_cases l2:o'<h.length
  ·exact k.apart o o' x x' b (old h1 l1) (old h2 l2) m1 m2 (ae r1 l1) (ae r2 l2)
  ·obtain⟨rfl,rfl⟩:=new h2 l2
   have aG:=hr b (ai r2).symm
   have:=(k.objs o x _ (old h1 l1) (ae r1 l1)).lt (Y0.bE m1)
   omega
  ·obtain⟨rfl,rfl⟩:=new h1 l1
   have aG:=hr b (ai r1).symm
   have:=(k.objs o' x' _ (old h2 l2) (ae r2 l2)).lt (Y0.bE m2)
   omega
  ·exact(new h1 l1).1.trans (new h2 l2).1.symm
def HR0.c0 {M0:Nat->Prop}{base:Nat}{w w':World}{J:List (Option Nat)}{h:List Y0}(k:HR0 M0 base w J h){o:Nat}{ob ob':Y0}{r:Option Nat}
 (ho:h[o]? =some ob) (hr:J[o]? =some r) (a2:ob.mut=true) (ao:sI ob ob')
 (hs:w.heap.size=w'.heap.size) (hb:∀b,r≠some b->w'.heap[b]? =w.heap[b]?)
 (aj:∀b cur,r=some b->fO w b cur->∃cur',fO w' b cur'/\ cur'.size=cur.size)
 (ag:Ch (Mu M0 J h) (Mu M0 J (h.set o ob')) w w' J J h (h.set o ob')->xX (Mu M0 J (h.set o ob')) base w' J (h.set o ob') r ob')
 (ax:∀z es b c v,ob= .bB z es->r=some b->xA z es c->w.cell? ⟨b,c,none⟩=some v->w'.cell? ⟨b,c,none⟩=some v:=by first|(intro _ _ _ _ _ e;cases e;done)|(intro _ _ _ _ _ _ _ _ h;exact h)):
 HR0 M0 base w' J (h.set o ob')/\ Ch (Mu M0 J h) (Mu M0 J (h.set o ob')) w w' J J h (h.set o ob'):=by
 have a1:o<h.length:=(Zb.1 ho).1
 have get:∀{i:Nat}{x:Y0},(h.set o ob')[i]? =some x->(i=o/\ x=ob') \/(i≠o/\ h[i]? =some x):=fun{i x}e=>by
  by_cases hi:o=i
  ·subst hi
   rw[Zd a1]at e
   cases e
   exact .inl ⟨rfl,rfl⟩
  ·rw[Za hi]at e
   exact .inr ⟨fun e'=>hi e'.symm,e⟩
 have mu:∀b,Mu M0 J (h.set o ob') b->Mu M0 J h b:=fun b hm=>by
  rcases hm with hm|⟨i,x,hi,hx,a7⟩
  ·exact .inl hm
  ·rcases get hi with⟨rfl,rfl⟩|⟨_,af⟩
   ·exact .inr ⟨_,ob,ho,a2,a7⟩
   ·exact .inr ⟨i,x,af,hx,a7⟩
 have inM:∀b,r=some b->Mu M0 J h b:=fun b e=> .inr ⟨o,ob,ho,a2,by rw[hr,e]⟩
 have c:Ch (Mu M0 J h) (Mu M0 J (h.set o ob')) w w' J J h (h.set o ob'):=by
  refine⟨⟨by omega,fun b _ hm=>mu b hm,fun b _ hm=>hb b (fun e=>hm (inM b e))⟩,fun b cur av=> ?_,fun i r' x h1 h2 _=> ?_,fun i b z es p v h1 h2 hl hv=> ?_⟩
  ·by_cases e:r=some b
   ·exact aj b cur e av
   ·obtain⟨T,ad⟩:=av
    exact⟨cur,⟨T,by rw[hb b e];exact ad⟩,rfl⟩
  ·by_cases hi:o=i
   ·subst hi
    rw[ho]at h2;cases h2
    exact⟨ob',h1,Zd a1,ao⟩
   ·exact⟨x,h1,by rw[Za hi];exact h2,sI.refl x⟩
  ·by_cases hi:o=i
   ·subst hi
    rw[ho]at h2;cases h2
    rw[hr]at h1;cases h1
    exact ax z es b p v rfl rfl hl hv
   ·unfold World.cell? at hv⊢
    rw[hb b fun e=>hi (k.apart o i ob _ b ho h2 a2 rfl (by rw[hr,e]) h1)]
    exact hv
 refine⟨⟨by simp[k.len],fun b hm=>⟨by rw[<-hs];exact(k.old b hm).1,fun i x hi hx a7=> ?_⟩,by rw[<-hs];exact k.le,fun i x r' hi a7=> ?_,fun i i' x x' b h1 h2 m1 m2 r1 r2=> ?_⟩,c⟩
 ·rcases get hi with⟨rfl,rfl⟩|⟨_,af⟩
  ·exact(k.old b hm).2 _ ob ho a2 a7
  ·exact(k.old b hm).2 i x af hx a7
 ·rcases get hi with⟨rfl,rfl⟩|⟨ay,af⟩
  ·rw[hr]at a7;cases a7
   exact ag c
  ·have kx:=k.objs i x r' af a7
   refine kx.keep c (fun b e hd=>hb b (fun e'=> ?_))
   subst e
   by_cases ar:x.mut=true
   ·exact ay (k.apart i o x ob b af ho ar a2 a7 (by rw[hr,e']))
   ·cases x with
    |box cs=>exact ar rfl
    |arr z es=>exact ar rfl
    |bT n=>exact ar rfl
    |bA z es=>exact ar rfl
    |bB z es=>exact ar rfl
    |bH z es=>obtain⟨_,_,hm,_⟩:=kx;exact hm (inM b e')
    |bL ps=>obtain⟨b1,aH,e1,hm,_⟩:=kx;cases e1;exact hm (inM b e')
    |dead=>exact hd rfl
    |res=>subst e';cases kx
 ·have lift:∀{i:Nat}{x:Y0},(h.set o ob')[i]? =some x->x.mut=true->∃y,h[i]? =some y/\ y.mut=true:=fun{i x}e m=>by
   rcases get e with⟨rfl,rfl⟩|⟨_,e'⟩
   ·exact⟨ob,ho,a2⟩
   ·exact⟨x,e',m⟩
  obtain⟨y,hy,my⟩:=lift h1 m1
  obtain⟨y',aI,aJ⟩:=lift h2 m2
  exact k.apart i i' y y' b hy aI my aJ r1 r2
def Deep.push {κ:Nat->List Nat}{M0:Nat->Prop}{base:Nat}{w w':World}{J:List (Option Nat)}{h:List Y0}(k:HR0 M0 base w J h)(d:Deep κ base w J h)
 (hb:∀b,b<w.heap.size->w'.heap[b]? =w.heap[b]?) (r:Option Nat) (ob:Y0) (hr:∀b,r=some b->w.heap.size<=b) (al:ob.deep=none):∃κ',Deep κ' base w' (J++[r]) (h++[ob])/\ ∀b,κ' b=if r=some b then [h.length]else κ b:=by
 refine⟨fun b=>if r=some b then [h.length]else κ b,⟨fun o x b ho hx a8=> ?_,fun o x z es b ho hd a8=> ?_⟩,fun b=>rfl⟩
 ·by_cases a1:o<h.length
  ·rw[Ze a1]at ho
   rw[Ze (by rw[k.len];exact a1)]at a8
   have hl:=(k.objs o x _ ho a8).lt (Y0.bE hx)
   rw[if_neg fun e=>by have:=hr b e;omega]
   exact d.root o x b ho hx a8
  ·have ho':=(Zb.1 ho).1
   simp at ho'
   obtain rfl:o=h.length:=by omega
   rw[<-k.len]at a8
   simp at a8
   rw[if_pos a8]
 ·by_cases a1:o<h.length
  ·rw[Ze a1]at ho
   rw[Ze (by rw[k.len];exact a1)]at a8
   have hl:=(k.objs o x _ ho a8).lt (Y0.bE (Y0.bP hd))
   exact(d.tree o x z es b ho hd a8).go (Zn _) (fun o _=>by unfold World.cell?;rw[hb b hl]) ((k.objs o x _ ho a8).rows hd).2 (fun c b' X aa e=>⟨by rw[if_neg fun e'=>by have:=hr b' e';omega];exact e,hb b' aa⟩)
  ·have ho':=(Zb.1 ho).1
   simp at ho'
   obtain rfl:o=h.length:=by omega
   simp at ho
   rw[ho,hd]at al
   cases al
def HR.world {M0:Nat->Prop}{base:Nat}{w w':World}{J:List (Option Nat)}{h:List Y0}(k:HR M0 base w J h)
 (hs:w.heap.size<=w'.heap.size) (hb:∀b,b<w.heap.size->w'.heap[b]? =w.heap[b]?):
 HR M0 base w' J h/\ Ch (Mu M0 J h) (Mu M0 J h) w w' J J h h:=by
 obtain⟨a,c⟩:=k.toHR0.world hs hb
 obtain⟨κ,d,n⟩:=k.deep
 refine⟨⟨a,κ,⟨d.root,fun o ob z es b ho hd hr=> ?_⟩,fun b az=>n.new b (by omega),n.zone⟩,c⟩
 have a1:=(k.objs o ob _ ho hr).lt (Y0.bE (Y0.bP hd))
 exact(d.tree o ob z es b ho hd hr).go (Zn _) (fun o _=>by unfold World.cell?;rw[hb b a1]) ((k.objs o ob _ ho hr).rows hd).2 (fun c b X a1 e=>⟨e,hb b a1⟩)
def HR.push {M0:Nat->Prop}{base:Nat}{w w':World}{J:List (Option Nat)}{h:List Y0}(k:HR M0 base w J h)
 (hs:w.heap.size<=w'.heap.size) (hb:∀b,b<w.heap.size->w'.heap[b]? =w.heap[b]?) (r:Option Nat) (ob:Y0) (hr:∀b,r=some b->w.heap.size<=b)
 (ag:Ch (Mu M0 J h) (Mu M0 (J++[r]) (h++[ob])) w w' J (J++[r]) h (h++[ob])->xX (Mu M0 (J++[r]) (h++[ob])) base w' (J++[r]) (h++[ob]) r ob) (al:ob.deep=none:=by rfl) (aK:ob= .dead->r=none:=by first|nofun|(intro h;cases h;done)):
 HR M0 base w' (J++[r]) (h++[ob])/\ Ch (Mu M0 J h) (Mu M0 (J++[r]) (h++[ob])) w w' J (J++[r]) h (h++[ob]):=by
 obtain⟨a,c⟩:=k.toHR0.push hs hb r ob hr ag
 obtain⟨κ,d,n⟩:=k.deep
 obtain⟨κ',d',e'⟩:=d.push k.toHR0 hb r ob hr al
 refine⟨⟨a,κ',d',fun b az=> ?_,fun b o c X z es e ho=> ?_⟩,c⟩
 ·rw[e']
  split
  ·rename_i aD
   have h1:(h++[ob])[h.length]? =some ob:=by simp
   have h2:(J++[r])[h.length]? =some (some b):=by rw[<-k.len,<-aD];simp
   by_cases hd:ob= .dead
   ·subst hd
    exact absurd (aK rfl) (by rw[aD];simp)
   ·have:=(a.objs _ _ _ h1 h2).lt hd
    omega
  ·exact n.new b (by omega)
 ·rw[e']at e
  split at e
  ·cases e
  ·by_cases a1:o<h.length
   ·rw[Ze a1]at ho
    exact n.zone b o c X z es e ho
   ·have ho':=(Zb.1 ho).1
    simp at ho'
    obtain rfl:o=h.length:=by omega
    simp at ho
    rw[ho]at al
    cases al
def Deep.c0 {κ:Nat->List Nat}{M0:Nat->Prop}{base:Nat}{w w':World}{J:List (Option Nat)}{h:List Y0}(k:HR0 M0 base w J h)(d:Deep κ base w J h){o:Nat}{ob ob':Y0}{r:Option Nat}
 (ho:h[o]? =some ob) (hr:J[o]? =some r) (a2:ob.mut=true) (hb:∀b,r≠some b->w'.heap[b]? =w.heap[b]?)
 (ht:∀z es b,ob'.deep=some (z,es)->r=some b->rU κ base w' z es [o] b):Deep κ base w' J (h.set o ob'):=by
 have a1:o<h.length:=(Zb.1 ho).1
 have get:∀{i:Nat}{x:Y0},(h.set o ob')[i]? =some x->(i=o/\ x=ob') \/(i≠o/\ h[i]? =some x):=fun{i x}e=>by
  by_cases hi:o=i
  ·subst hi
   rw[Zd a1]at e
   cases e
   exact .inl ⟨rfl,rfl⟩
  ·rw[Za hi]at e
   exact .inr ⟨fun e'=>hi e'.symm,e⟩
 refine⟨fun i x b hi hx a7=> ?_,fun i x z es b hi hd a7=> ?_⟩
 ·rcases get hi with⟨rfl,rfl⟩|⟨_,af⟩
  ·exact d.root _ ob b ho a2 a7
  ·exact d.root i x b af hx a7
 ·rcases get hi with⟨rfl,rfl⟩|⟨ay,af⟩
  ·rw[hr]at a7
   cases a7
   exact ht z es b hd rfl
  ·have aA:r≠some b:=fun e=>ay (k.apart i o x ob b af ho (Y0.bP hd) a2 a7 (by rw[hr,e]))
   refine(d.tree i x z es b af hd a7).go (Zn _) (fun c _=>by unfold World.cell?;rw[hb b aA]) ((k.objs i x _ af a7).rows hd).2 (fun c b' X aa e=>⟨e,hb b' fun e'=> ?_⟩)
   have:=d.root o ob b' ho a2 (by rw[hr,e'])
   rw[e]at this
   simp at this
def HR.c0 {M0:Nat->Prop}{base:Nat}{w w':World}{J:List (Option Nat)}{h:List Y0}(k:HR M0 base w J h){o:Nat}{ob ob':Y0}{r:Option Nat}
 (ho:h[o]? =some ob) (hr:J[o]? =some r) (a2:ob.mut=true) (ao:sI ob ob')
 (hs:w.heap.size=w'.heap.size) (hb:∀b,r≠some b->w'.heap[b]? =w.heap[b]?)
 (aj:∀b cur,r=some b->fO w b cur->∃cur',fO w' b cur'/\ cur'.size=cur.size)
 (ag:Ch (Mu M0 J h) (Mu M0 J (h.set o ob')) w w' J J h (h.set o ob')->xX (Mu M0 J (h.set o ob')) base w' J (h.set o ob') r ob') (al:ob'.deep=none:=by rfl)
 (ax:∀z es b c v,ob= .bB z es->r=some b->xA z es c->w.cell? ⟨b,c,none⟩=some v->w'.cell? ⟨b,c,none⟩=some v:=by first|(intro _ _ _ _ _ e;cases e;done)|(intro _ _ _ _ _ _ _ _ h;exact h)):
 HR M0 base w' J (h.set o ob')/\ Ch (Mu M0 J h) (Mu M0 J (h.set o ob')) w w' J J h (h.set o ob'):=by
 obtain⟨a,c⟩:=k.toHR0.c0 ho hr a2 ao hs hb aj ag ax
 obtain⟨κ,d,n⟩:=k.deep
 refine⟨⟨a,κ,d.c0 k.toHR0 ho hr a2 hb (fun z es b e=>by rw[al]at e;cases e),fun b az=>n.new b (by omega),fun b i c X z es e hi=> ?_⟩,c⟩
 by_cases af:o=i
 ·subst af
  rw[Zd (Zb.1 ho).1]at hi
  cases hi;cases al
 ·rw[Za af]at hi
  exact n.zone b i c X z es e hi
def HR.cM {M0:Nat->Prop}{base:Nat}{w:World}{J:List (Option Nat)}{h:List Y0}(k:HR M0 base w J h){o z:Nat}{es:List (List PV)}{ob:Y0}
 (ho:h[o]? =some ob) (ag:ob= .arr z es \/ob= .bA z es):HR M0 base w J (h.set o (.bH z es))/\ Ch (Mu M0 J h) (Mu M0 J (h.set o (.bH z es))) w w J J h (h.set o (.bH z es)):=by
 have a1:o<h.length:=(Zb.1 ho).1
 obtain⟨r,hr⟩:=k.mem ho
 have a2:ob.mut=true:=by rcases ag with rfl|rfl<;>rfl
 refine k.c0 ho hr a2 (by rcases ag with rfl|rfl<;>exact⟨rfl,rfl⟩) rfl (fun _ _=>rfl) (fun b cur _ hr=>⟨cur,hr,rfl⟩) (fun c=> ?_)
 have aL:=k.objs o _ r ho hr
 have aM:xX (Mu M0 J h) base w J h r (.arr z es):=by
  rcases ag with rfl|rfl<;>exact aL
 obtain⟨hz,ak,kx⟩:=aM
 refine⟨hz,ak,?_⟩
 cases r with
 |none=>exact kx
 |some b=>
  obtain⟨a5,cur,cap,av,h1,h2,h3,h4⟩:=kx
  refine⟨fun hm=> ?_,cur,cap,av,h1,h2,h3,fun i e j p he hp=> ?_⟩
  ·rcases hm with hm|⟨i,x,hi,hx,a7⟩
   ·exact(k.old b hm).2 o ob ho a2 hr
   ·by_cases e:o=i
    ·subst e
     rw[Zd a1]at hi
     cases hi;cases hx
    ·rw[Za e]at hi
     exact e (k.apart o i _ x b ho hi a2 hx hr a7)
  ·obtain⟨v,hv,au⟩:=h4 i e j p he hp
   exact⟨v,hv,aq.go c.go p v au⟩
def HR.freeze {M0:Nat->Prop}{base:Nat}{w:World}{J:List (Option Nat)}{h:List Y0}(k:HR M0 base w J h){o z:Nat}{es:List (List PV)}
 (ho:h[o]? =some (.arr z es)):HR M0 base w J (h.set o (.bH z es))/\ Ch (Mu M0 J h) (Mu M0 J (h.set o (.bH z es))) w w J J h (h.set o (.bH z es)):=k.cM ho (.inl rfl)
def HR.bL {M0:Nat->Prop}{base:Nat}{w:World}{J:List (Option Nat)}{h:List Y0}(k:HR M0 base w J h){o:Nat}{cs:List L}{ps:List PV}
 (ho:h[o]? =some (.box cs)) (hv:∀us,tg (Mu M0 J h) w J h cs us->ps.length=us.length/\ ∀(j:Nat)p,ps[j]? =some p->∃v,us[j]? =some v/\ aq (Mu M0 J h) w p v):
 HR M0 base w J (h.set o (.bL ps))/\ Ch (Mu M0 J h) (Mu M0 J (h.set o (.bL ps))) w w J J h (h.set o (.bL ps)):=by
 have a1:o<h.length:=(Zb.1 ho).1
 obtain⟨r,hr⟩:=k.mem ho
 refine k.c0 ho hr rfl trivial rfl (fun _ _=>rfl) (fun b cur _ hr=>⟨cur,hr,rfl⟩) (fun c=> ?_)
 obtain⟨b,cur,rfl,a5,aj,aN⟩:=k.objs o _ r ho hr
 obtain⟨hl,au⟩:=hv _ aN
 refine⟨b,cur,rfl,fun hm=> ?_,aj,by simpa using hl,fun j p hp=> ?_⟩
 ·rcases hm with hm|⟨i,x,hi,hx,a7⟩
  ·exact(k.old b hm).2 o _ ho rfl hr
  ·by_cases e:o=i
   ·subst e
    rw[Zd a1]at hi
    cases hi;cases hx
   ·rw[Za e]at hi
    exact e (k.apart o i _ x b ho hi rfl hx hr a7)
 ·obtain⟨v,hv,au⟩:=au j p hp
  exact⟨v,by simpa using hv,aq.go c.go p v au⟩
def HR.freezeL {M0:Nat->Prop}{base:Nat}{w:World}{J:List (Option Nat)}{h:List Y0}(k:HR M0 base w J h)(l:L):
 HR M0 base w J (freezeL h l)/\ Ch (Mu M0 J h) (Mu M0 J (freezeL h l)) w w J J h (freezeL h l):=by
 cases l with
 |arr o=>
  simp only[Gi.freezeL]
  split
  ·rename_i z es ho
   exact k.freeze ho
  ·rename_i z es ho
   exact k.cM ho (.inr rfl)
  ·exact⟨k,Ch.refl _ _ _ _⟩
 |_=>exact⟨k,Ch.refl _ _ _ _⟩
def HR.freezeLs {M0:Nat->Prop}{base:Nat}{w:World}{J:List (Option Nat)}:∀{h:List Y0}(_:HR M0 base w J h)(ls:List L),
 HR M0 base w J (freezeLs h ls)/\ Ch (Mu M0 J h) (Mu M0 J (freezeLs h ls)) w w J J h (freezeLs h ls)
 |_,k,[]=>⟨k,Ch.refl _ _ _ _⟩
 |h,k,l::ls=>by
  obtain⟨k1,c1⟩:=k.freezeL l
  obtain⟨k2,c2⟩:=HR.freezeLs k1 ls
  exact⟨k2,c1.trans c2⟩
def HR.freezeVs {M0:Nat->Prop}{base:Nat}{w:World}{J:List (Option Nat)}:∀{h:List Y0}(_:HR M0 base w J h)(vs:List V),
 HR M0 base w J (freezeVs h vs)/\ Ch (Mu M0 J h) (Mu M0 J (freezeVs h vs)) w w J J h (freezeVs h vs)
 |_,k,[]=>⟨k,Ch.refl _ _ _ _⟩
 |h,k,v::vs=>by
  obtain⟨k1,c1⟩:=k.freezeLs v.cells
  obtain⟨k2,c2⟩:=HR.freezeVs k1 vs
  exact⟨k2,c1.trans c2⟩
def HR.fill {M0:Nat->Prop}{base:Nat}{w w':World}{J:List (Option Nat)}{h:List Y0}(k:HR M0 base w J h){i:Nat}(hi:h[i]? =some .res)
 (hs:w.heap.size<=w'.heap.size) (hb:∀b,b<w.heap.size->w'.heap[b]? =w.heap[b]?) {b0:Nat} (aP:w.heap.size<=b0) {cs:List L}
 (ag:Ch (Mu M0 J h) (Mu M0 (J.set i (some b0)) (h.set i (.box cs))) w w' J (J.set i (some b0)) h (h.set i (.box cs))->xX (Mu M0 (J.set i (some b0)) (h.set i (.box cs))) base w' (J.set i (some b0)) (h.set i (.box cs)) (some b0) (.box cs)):
 HR M0 base w' (J.set i (some b0)) (h.set i (.box cs))/\ Ch (Mu M0 J h) (Mu M0 (J.set i (some b0)) (h.set i (.box cs))) w w' J (J.set i (some b0)) h (h.set i (.box cs)):=by
 have a1:i<h.length:=(Zb.1 hi).1
 have aO:i<J.length:=by rw[k.len];exact a1
 have get:∀{j:Nat}{x:Y0},(h.set i (.box cs))[j]? =some x->(j=i/\ x= .box cs) \/(j≠i/\ h[j]? =some x):=fun{j x}e=>by
  by_cases q:i=j
  ·subst q
   rw[Zd a1]at e
   cases e
   exact .inl ⟨rfl,rfl⟩
  ·rw[Za q]at e
   exact .inr ⟨fun e'=>q e'.symm,e⟩
 have ab:∀{j:Nat}{r:Option Nat},(J.set i (some b0))[j]? =some r->(j=i/\ r=some b0) \/(j≠i/\ J[j]? =some r):=fun{j r}e=>by
  by_cases q:i=j
  ·subst q
   rw[Zd aO]at e
   cases e
   exact .inl ⟨rfl,rfl⟩
  ·rw[Za q]at e
   exact .inr ⟨fun e'=>q e'.symm,e⟩
 have mu:∀b,b<w.heap.size->Mu M0 (J.set i (some b0)) (h.set i (.box cs)) b->Mu M0 J h b:=fun b hl hm=>by
  rcases hm with hm|⟨j,x,hj,hx,an⟩
  ·exact .inl hm
  ·rcases ab an with⟨rfl,e⟩|⟨q,a6⟩
   ·cases e;omega
   ·rcases get hj with⟨e,_⟩|⟨_,ah⟩
    ·exact absurd e q
    ·exact .inr ⟨j,x,ah,hx,a6⟩
 have c:Ch (Mu M0 J h) (Mu M0 (J.set i (some b0)) (h.set i (.box cs))) w w' J (J.set i (some b0)) h (h.set i (.box cs)):=by
  refine⟨⟨hs,mu,fun b hl _=>hb b hl⟩,fun b cur hr=>⟨cur,by obtain⟨T,ad⟩:=hr;exact⟨T,by rw[hb b (fO.lt ⟨T,ad⟩)];exact ad⟩,rfl⟩,fun j r x h1 h2 hn=> ?_,fun j b z es p v hr ho _ hv=>by unfold World.cell? at hv⊢;rw[hb b ((k.objs j _ _ ho hr).lt (by simp))];exact hv⟩
  have q:i≠j:=by
   rintro rfl
   rw[hi]at h2;cases h2
   exact hn rfl
  exact⟨x,by rw[Za q];exact h1,by rw[Za q];exact h2,sI.refl x⟩
 have live:∀{j:Nat}{x:Y0}{b:Nat},h[j]? =some x->x.mut=true->J[j]? =some (some b)->b<w.heap.size:=fun{j x b}e m r=>(k.objs j x _ e r).lt (Y0.bE m)
 obtain⟨κ,d,n⟩:=k.deep
 refine⟨⟨⟨by simp[k.len],fun b hm=>⟨ZG (k.old b hm).1 hs,fun j x hj hx an=> ?_⟩,Zc k.le hs,fun j x r hj an=> ?_,fun j j' x x' b h1 h2 m1 m2 r1 r2=> ?_⟩,fun b=>if b=b0 then [i]else κ b,⟨fun j x b hj hx an=> ?_,fun j x z es b hj hd an=> ?_⟩,fun b az=> ?_,fun b o p X z es e ho=> ?_⟩,c⟩
 ·rcases ab an with⟨rfl,e⟩|⟨q,a6⟩
  ·cases e
   have:=(k.old _ hm).1
   omega
  ·rcases get hj with⟨e,_⟩|⟨_,ah⟩
   ·exact q e
   ·exact(k.old b hm).2 j x ah hx a6
 ·rcases ab an with⟨rfl,rfl⟩|⟨q,a6⟩
  ·rcases get hj with⟨_,rfl⟩|⟨q,_⟩
   ·exact ag c
   ·exact absurd rfl q
  ·rcases get hj with⟨e,_⟩|⟨_,ah⟩
   ·exact absurd e q
   ·have kx:=k.objs j x r ah a6
    exact kx.keep c (fun b e hd=>hb b (by subst e;exact kx.lt hd))
 ·rcases ab r1 with⟨rfl,e1⟩|⟨q1,aE⟩
  ·cases e1
   rcases ab r2 with⟨rfl,_⟩|⟨q2,aB⟩
   ·rfl
   ·rcases get h2 with⟨e,_⟩|⟨_,aC⟩
    ·exact absurd e q2
    ·have:=live aC m2 aB
     omega
  ·rcases get h1 with⟨e,_⟩|⟨_,aF⟩
   ·exact absurd e q1
   ·rcases ab r2 with⟨rfl,e2⟩|⟨q2,aB⟩
    ·cases e2
     have:=live aF m1 aE
     omega
    ·rcases get h2 with⟨e,_⟩|⟨_,aC⟩
     ·exact absurd e q2
     ·exact k.apart j j' x x' b aF aC m1 m2 aE aB
 ·rcases ab an with⟨rfl,e⟩|⟨q,a6⟩
  ·cases e
   simp
  ·rcases get hj with⟨e,_⟩|⟨_,ah⟩
   ·exact absurd e q
   ·have:=live ah hx a6
    show(if b=b0 then [i]else κ b)=[j]
    rw[if_neg (by omega)]
    exact d.root j x b ah hx a6
 ·rcases get hj with⟨_,rfl⟩|⟨q,ah⟩
  ·cases hd
  ·rcases ab an with⟨e,_⟩|⟨_,a6⟩
   ·exact absurd e q
   ·have hl:=live ah (Y0.bP hd) a6
    exact(d.tree j x z es b ah hd a6).go (Zn _) (fun o _=>by unfold World.cell?;rw[hb b hl]) ((k.objs j x _ ah a6).rows hd).2 (fun p b' X aa e=>⟨by show(if b'=b0 then [i]else κ b')=_;rw[if_neg (by omega)];exact e,hb b' aa⟩)
 ·show(if b=b0 then [i]else κ b)=[]
  split
  ·rename_i e
   subst e
   have kx:=ag c
   have:=kx.lt (by simp)
   omega
  ·exact n.new b (by omega)
 ·have e:(if b=b0 then [i]else κ b)=o::p::X:=e
  split at e
  ·cases e
  ·rcases get ho with⟨_,e'⟩|⟨_,ho'⟩
   ·cases e'
   ·exact n.zone b o p X z es e ho'
end Gi
