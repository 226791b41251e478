/- Of this proof. -/
import Derived.Test.YtpnolnkjijmfjaaGreatGib
set_option linter.all false
namespace Gi
open Go
variable {KI:KF}
def BI.keep {M M':Nat->Prop}{base:Nat}{w w':World}{J J':List (Option Nat)}{h h':List Q0}{r:Option Nat}{ob:Q0}
 (k:BI M base w J h r ob) (c:Ch M M' w w' J J' h h') (hb:∀b,r=some b->ob≠ .dead->w'.heap[b]? =w.heap[b]?):BI M' base w' J' h' r ob:=by
 have row:∀{b cur},r=some b->ob≠ .dead->jb w b cur->jb w' b cur:=fun e hd⟨T,hr⟩=>⟨T,by rw[hb _ e hd];exact hr⟩;cases ob with
 |box cs=>obtain⟨b,cur,rfl,a2,hr,hl⟩:=k;exact⟨b,cur,rfl,a2,row rfl (by simp) hr,hl.ch c⟩
 |arr z es=>
  obtain⟨hz,aj,k⟩:=k;refine⟨hz,aj,?_⟩;cases r with
  |none=>exact k
  |some b=>obtain⟨a2,cur,cap,hr,h1,h2,h3,h4⟩:=k;refine⟨a2,cur,cap,row rfl (by simp) hr,h1,h2,h3,fun i e j p he hp=> ?_⟩;obtain⟨v,hv,hr⟩:=h4 i e j p he hp;exact⟨v,hv,cG.go c.go p v hr⟩
 |bI z es=>
  obtain⟨hz,aj,k⟩:=k;refine⟨hz,aj,?_⟩;cases r with
  |none=>exact k
  |some b=>obtain⟨hm,cur,cap,hr,h1,h2,h3,h4⟩:=k;refine⟨fun au=>hm (c.go.cls b hr.lt au),cur,cap,row rfl (by simp) hr,h1,h2,h3,fun i e j p he hp=> ?_⟩;obtain⟨v,hv,hr⟩:=h4 i e j p he hp;exact⟨v,hv,cG.go c.go p v hr⟩
 |bA z es=>
  obtain⟨hz,aj,k⟩:=k;refine⟨hz,aj,?_⟩;cases r with
  |none=>exact k
  |some b=>obtain⟨a2,cur,cap,hr,h1,h2,h3,h4⟩:=k;refine⟨a2,cur,cap,row rfl (by simp) hr,h1,h2,h3,fun i e j p he hp=> ?_⟩;obtain⟨v,hv,hr⟩:=h4 i e j p he hp;exact⟨v,hv,cG.go c.go p v hr⟩
 |bC z es=>
  obtain⟨hz,aj,k⟩:=k;refine⟨hz,aj,?_⟩;cases r with
  |none=>exact k
  |some b=>obtain⟨a2,cur,cap,hr,h1,h2,h3⟩:=k;exact⟨a2,cur,cap,row rfl (by simp) hr,h1,h2,h3⟩
 |bM ps=>obtain⟨b,cur,rfl,hm,hr,hl,h4⟩:=k;refine⟨b,cur,rfl,fun au=>hm (c.go.cls b hr.lt au),row rfl (by simp) hr,hl,fun j p hp=> ?_⟩;obtain⟨v,hv,hr⟩:=h4 j p hp;exact⟨v,hv,cG.go c.go p v hr⟩
 |bU n=>obtain⟨b,cur,rfl,a2,hr,hn⟩:=k;exact⟨b,cur,rfl,a2,row rfl (by simp) hr,hn⟩
 |dead=>trivial
 |res=>exact k
def BI.lt {M:Nat->Prop}{base:Nat}{w:World}{J:List (Option Nat)}{h:List Q0}{b:Nat}{ob:Q0}
 (k:BI M base w J h (some b) ob) (hd:ob≠ .dead):b<w.heap.size:=by
 cases ob with
 |box cs=>obtain⟨b',cur,e,_,hr,_⟩:=k;cases e;exact hr.lt
 |arr z es=>obtain⟨_,_,_,cur,cap,hr,_⟩:=k;exact hr.lt
 |bI z es=>obtain⟨_,_,_,cur,cap,hr,_⟩:=k;exact hr.lt
 |bA z es=>obtain⟨_,_,_,cur,cap,hr,_⟩:=k;exact hr.lt
 |bC z es=>obtain⟨_,_,_,cur,cap,hr,_⟩:=k;exact hr.lt
 |bM ps=>obtain⟨b',cur,e,_,hr,_⟩:=k;cases e;exact hr.lt
 |bU n=>obtain⟨b',cur,e,_,hr,_⟩:=k;cases e;exact hr.lt
 |dead=>exact absurd rfl hd
 |res=>cases k
def BI.base {M:Nat->Prop}{base:Nat}{w:World}{J:List (Option Nat)}{h:List Q0}{b:Nat}{ob:Q0}
 (k:BI M base w J h (some b) ob) (hd:ob.mut=true):base<=b:=by
 cases ob with
 |box cs=>obtain⟨b',cur,e,hb,hr,_⟩:=k;cases e;exact hb
 |arr z es=>obtain⟨_,_,hb,_⟩:=k;exact hb
 |bI z es=>cases hd
 |bA z es=>obtain⟨_,_,hb,_⟩:=k;exact hb
 |bC z es=>obtain⟨_,_,hb,_⟩:=k;exact hb
 |bM ps=>cases hd
 |bU n=>obtain⟨b',cur,e,hb,_⟩:=k;cases e;exact hb
 |dead=>cases hd
 |res=>cases hd
def Q0.bF {ob:Q0}(h:ob.mut=true):ob≠ .dead:=by rintro rfl;cases h
def BI.rows {M:Nat->Prop}{base:Nat}{w:World}{J:List (Option Nat)}{h:List Q0}{r:Option Nat}{ob:Q0}(k:BI M base w J h r ob){z:Nat}{es:List (List PV)}(hd:ob.deep=some (z,es)):0<z/\ ∀e∈es,e.length=z:=by cases ob<;>cases hd;exact⟨k.1,k.2.1⟩;exact⟨k.1,k.2.1⟩
def Q0.bQ {ob:Q0}{x:Nat×List (List PV)}(h:ob.deep=some x):ob.mut=true:=by cases ob<;>first|rfl|cases h
def HR0.mem {M0:Nat->Prop}{base:Nat}{w:World}{J:List (Option Nat)}{h:List Q0}(k:HR0 M0 base w J h){o:Nat}{ob:Q0}(ho:h[o]? =some ob):∃r,J[o]? =some r:=by have:o<h.length:=(Zb.1 ho).1;exact⟨J[o]'(by rw[k.len];exact this),by simp[k.len,this]⟩
def HR0.world {M0:Nat->Prop}{base:Nat}{w w':World}{J:List (Option Nat)}{h:List Q0}(k:HR0 M0 base w J h)
 (hs:w.heap.size<=w'.heap.size) (hb:∀b,b<w.heap.size->w'.heap[b]? =w.heap[b]?):
 HR0 M0 base w' J h/\ Ch (Mu M0 J h) (Mu M0 J h) w w' J J h h:=by
 have c:Ch (Mu M0 J h) (Mu M0 J h) w w' J J h h:=
  ⟨⟨hs,fun _ _ x=>x,fun b hlt _=>hb b hlt⟩,fun b cur hr=>⟨cur,by obtain⟨T,ab⟩:=hr;exact⟨T,by rw[hb b (jb.lt ⟨T,ab⟩)];exact ab⟩,rfl⟩,
    fun o r ob h1 h2 _=>⟨ob,h1,h2,wx.refl ob⟩,fun o b z es c v hr ho _ hv=>by unfold World.cell? at hv⊢;rw[hb b ((k.objs o _ _ ho hr).lt (by simp))];exact hv⟩
 refine⟨⟨k.len,fun b hb=>⟨ZD (k.old b hb).1 hs,(k.old b hb).2⟩,Zc k.le hs,fun o ob r ho hr=> ?_,k.apart⟩,c⟩;have:=k.objs o ob r ho hr;exact this.keep c (fun b e hd=>hb b (by subst e;exact this.lt hd))
def HR0.push {M0:Nat->Prop}{base:Nat}{w w':World}{J:List (Option Nat)}{h:List Q0}(k:HR0 M0 base w J h)
 (hs:w.heap.size<=w'.heap.size) (hb:∀b,b<w.heap.size->w'.heap[b]? =w.heap[b]?) (r:Option Nat) (ob:Q0) (hr:∀b,r=some b->w.heap.size<=b)
 (af:Ch (Mu M0 J h) (Mu M0 (J++[r]) (h++[ob])) w w' J (J++[r]) h (h++[ob])->BI (Mu M0 (J++[r]) (h++[ob])) base w' (J++[r]) (h++[ob]) r ob):
 HR0 M0 base w' (J++[r]) (h++[ob])/\ Ch (Mu M0 J h) (Mu M0 (J++[r]) (h++[ob])) w w' J (J++[r]) h (h++[ob]):=by
 have old:∀{o:Nat}{x:Q0},(h++[ob])[o]? =some x->o<h.length->h[o]? =some x:=fun e hlt=>by rwa[Ze hlt]at e
 have ad:∀{o:Nat}{x:Option Nat},(J++[r])[o]? =some x->o<h.length->J[o]? =some x:=fun e hlt=>by rwa[Ze (by rw[k.len];exact hlt)]at e
 have new:∀{o:Nat}{x:Q0},(h++[ob])[o]? =some x->¬o<h.length->o=h.length/\ x=ob:=fun{o x}e hlt=>by
  rw[Zm (by omega)]at e;have:o-h.length=0:=by have:=(Zb.1 e).1;simp at this;omega
  rw[this]at e;simp at e;exact⟨by omega,e.symm⟩
 have ah:∀{x:Option Nat},(J++[r])[h.length]? =some x->x=r:=fun e=>by rw[<-k.len,Zm (Zi _)]at e;simpa using e.symm
 have c:Ch (Mu M0 J h) (Mu M0 (J++[r]) (h++[ob])) w w' J (J++[r]) h (h++[ob]):=by refine⟨⟨hs,fun b hlt hm=> ?_,fun b hlt _=>hb b hlt⟩,fun b cur hr=>⟨cur,by obtain⟨T,ab⟩:=hr;exact⟨T,by rw[hb b (jb.lt ⟨T,ab⟩)];exact ab⟩,rfl⟩,fun o r' ob' h1 h2 _=> ?_,fun o b z es c v ab ho _ hv=>by unfold World.cell? at hv⊢;rw[hb b ((k.objs o _ _ ho ab).lt (by simp))];exact hv⟩;rcases hm with hm|⟨o,x,ho,a1,a7⟩;exact .inl hm;by_cases a8:o<h.length;exact .inr ⟨o,x,old ho a8,a1,ad a7 a8⟩;obtain⟨rfl,rfl⟩:=new ho a8;have:=hr b (ah a7).symm;omega;have hlt:o<h.length:=(Zb.1 h2).1;exact⟨ob',by rw[Ze (by rw[k.len];exact hlt)];exact h1,by rw[Ze hlt];exact h2,wx.refl _⟩
 refine⟨⟨by simp[k.len],fun b hm=>⟨ZD (k.old b hm).1 hs,fun o x ho hx a7=> ?_⟩,Zc k.le hs,fun o x r' ho ab=> ?_,fun o o' x x' b h1 h2 m1 m2 r1 r2=> ?_⟩,c⟩;by_cases hlt:o<h.length;exact(k.old b hm).2 o x (old ho hlt) hx (ad a7 hlt);obtain⟨rfl,rfl⟩:=new ho hlt;have:=hr b (ah a7).symm;have:=(k.old b hm).1;omega;by_cases hlt:o<h.length;have:=k.objs o x r' (old ho hlt) (ad ab hlt);exact this.keep c (fun b e hd=>hb b (by subst e;exact this.lt hd));obtain⟨rfl,rfl⟩:=new ho hlt;rw[ah ab];exact af c;by_cases l1:o<h.length<;>by_cases l2:o'<h.length;exact k.apart o o' x x' b (old h1 l1) (old h2 l2) m1 m2 (ad r1 l1) (ad r2 l2);obtain⟨rfl,rfl⟩:=new h2 l2;have aE:=hr b (ah r2).symm;have:=(k.objs o x _ (old h1 l1) (ad r1 l1)).lt (Q0.bF m1);omega;obtain⟨rfl,rfl⟩:=new h1 l1;have aE:=hr b (ah r1).symm;have:=(k.objs o' x' _ (old h2 l2) (ad r2 l2)).lt (Q0.bF m2);omega;exact(new h1 l1).1.trans (new h2 l2).1.symm
def HR0.c6 {M0:Nat->Prop}{base:Nat}{w w':World}{J:List (Option Nat)}{h:List Q0}(k:HR0 M0 base w J h){o:Nat}{ob ob':Q0}{r:Option Nat}
 (ho:h[o]? =some ob) (hr:J[o]? =some r) (a1:ob.mut=true) (an:wx ob ob')
 (hs:w.heap.size=w'.heap.size) (hb:∀b,r≠some b->w'.heap[b]? =w.heap[b]?)
 (ai:∀b cur,r=some b->jb w b cur->∃cur',jb w' b cur'/\ cur'.size=cur.size)
 (af:Ch (Mu M0 J h) (Mu M0 J (h.set o ob')) w w' J J h (h.set o ob')->BI (Mu M0 J (h.set o ob')) base w' J (h.set o ob') r ob')
 (av:∀z es b c v,ob= .bC z es->r=some b->Bm z es c->w.cell? ⟨b,c,none⟩=some v->w'.cell? ⟨b,c,none⟩=some v:=by first|(intro _ _ _ _ _ e;cases e;done)|(intro _ _ _ _ _ _ _ _ h;exact h)):
 HR0 M0 base w' J (h.set o ob')/\ Ch (Mu M0 J h) (Mu M0 J (h.set o ob')) w w' J J h (h.set o ob'):=by
 have hlt:o<h.length:=(Zb.1 ho).1;have get:∀{i:Nat}{x:Q0},(h.set o ob')[i]? =some x->(i=o/\ x=ob') \/(i≠o/\ h[i]? =some x):=fun{i x}e=>by by_cases hi:o=i;subst hi;rw[Zd hlt]at e;cases e;exact .inl ⟨rfl,rfl⟩;rw[Za hi]at e;exact .inr ⟨fun e'=>hi e'.symm,e⟩
 have mu:∀b,Mu M0 J (h.set o ob') b->Mu M0 J h b:=fun b hm=>by rcases hm with hm|⟨i,x,hi,hx,a6⟩;exact .inl hm;rcases get hi with⟨rfl,rfl⟩|⟨_,ae⟩;exact .inr ⟨_,ob,ho,a1,a6⟩;exact .inr ⟨i,x,ae,hx,a6⟩
 have inM:∀b,r=some b->Mu M0 J h b:=fun b e=> .inr ⟨o,ob,ho,a1,by rw[hr,e]⟩;have c:Ch (Mu M0 J h) (Mu M0 J (h.set o ob')) w w' J J h (h.set o ob'):=by refine⟨⟨by omega,fun b _ hm=>mu b hm,fun b _ hm=>hb b (fun e=>hm (inM b e))⟩,fun b cur ar=> ?_,fun i r' x h1 h2 _=> ?_,fun i b z es p v h1 h2 hl hv=> ?_⟩;by_cases e:r=some b;exact ai b cur e ar;obtain⟨T,ab⟩:=ar;exact⟨cur,⟨T,by rw[hb b e];exact ab⟩,rfl⟩;by_cases hi:o=i;subst hi;rw[ho]at h2;cases h2;exact⟨ob',h1,Zd hlt,an⟩;exact⟨x,h1,by rw[Za hi];exact h2,wx.refl x⟩;by_cases hi:o=i;subst hi;rw[ho]at h2;cases h2;rw[hr]at h1;cases h1;exact av z es b p v rfl rfl hl hv;unfold World.cell? at hv⊢;rw[hb b fun e=>hi (k.apart o i ob _ b ho h2 a1 rfl (by rw[hr,e]) h1)];exact hv
 refine⟨⟨by simp[k.len],fun b hm=>⟨by rw[<-hs];exact(k.old b hm).1,fun i x hi hx a6=> ?_⟩,by rw[<-hs];exact k.le,fun i x r' hi a6=> ?_,fun i i' x x' b h1 h2 m1 m2 r1 r2=> ?_⟩,c⟩;rcases get hi with⟨rfl,rfl⟩|⟨_,ae⟩;exact(k.old b hm).2 _ ob ho a1 a6;exact(k.old b hm).2 i x ae hx a6;rcases get hi with⟨rfl,rfl⟩|⟨aw,ae⟩;rw[hr]at a6;cases a6;exact af c;have kx:=k.objs i x r' ae a6;refine kx.keep c (fun b e hd=>hb b (fun e'=> ?_));subst e;by_cases ao:x.mut=true;exact aw (k.apart i o x ob b ae ho ao a1 a6 (by rw[hr,e']));cases x with
 |box cs=>exact ao rfl
 |arr z es=>exact ao rfl
 |bU n=>exact ao rfl
 |bA z es=>exact ao rfl
 |bC z es=>exact ao rfl
 |bI z es=>obtain⟨_,_,hm,_⟩:=kx;exact hm (inM b e')
 |bM ps=>obtain⟨b1,aF,e1,hm,_⟩:=kx;cases e1;exact hm (inM b e')
 |dead=>exact hd rfl
 |res=>subst e';cases kx
 have lift:∀{i:Nat}{x:Q0},(h.set o ob')[i]? =some x->x.mut=true->∃y,h[i]? =some y/\ y.mut=true:=fun{i x}e m=>by rcases get e with⟨rfl,rfl⟩|⟨_,e'⟩;exact⟨ob,ho,a1⟩;exact⟨x,e',m⟩
 obtain⟨y,hy,my⟩:=lift h1 m1;obtain⟨y',aG,aH⟩:=lift h2 m2;exact k.apart i i' y y' b hy aG my aH r1 r2
def Deep.push {κ:Nat->List Nat}{M0:Nat->Prop}{base:Nat}{w w':World}{J:List (Option Nat)}{h:List Q0}(k:HR0 M0 base w J h)(d:Deep κ base w J h)
 (hb:∀b,b<w.heap.size->w'.heap[b]? =w.heap[b]?) (r:Option Nat) (ob:Q0) (hr:∀b,r=some b->w.heap.size<=b) (ak:ob.deep=none):∃κ',Deep κ' base w' (J++[r]) (h++[ob])/\ ∀b,κ' b=if r=some b then [h.length]else κ b:=by
 refine⟨fun b=>if r=some b then [h.length]else κ b,⟨fun o x b ho hx a7=> ?_,fun o x z es b ho hd a7=> ?_⟩,fun b=>rfl⟩;by_cases hlt:o<h.length;rw[Ze hlt]at ho;rw[Ze (by rw[k.len];exact hlt)]at a7;have hl:=(k.objs o x _ ho a7).lt (Q0.bF hx);rw[if_neg fun e=>by have:=hr b e;omega];exact d.root o x b ho hx a7;have ho':=(Zb.1 ho).1;simp at ho';obtain rfl:o=h.length:=by omega
 rw[<-k.len]at a7;simp at a7;rw[if_pos a7];by_cases hlt:o<h.length;rw[Ze hlt]at ho;rw[Ze (by rw[k.len];exact hlt)]at a7;have hl:=(k.objs o x _ ho a7).lt (Q0.bF (Q0.bQ hd));exact(d.tree o x z es b ho hd a7).go (Zi _) (fun o _=>by unfold World.cell?;rw[hb b hl]) ((k.objs o x _ ho a7).rows hd).2 (fun c b' X a8 e=>⟨by rw[if_neg fun e'=>by have:=hr b' e';omega];exact e,hb b' a8⟩);have ho':=(Zb.1 ho).1;simp at ho';obtain rfl:o=h.length:=by omega
 simp at ho;rw[ho,hd]at ak;cases ak
def HR.world {M0:Nat->Prop}{base:Nat}{w w':World}{J:List (Option Nat)}{h:List Q0}(k:HR M0 base w J h)
 (hs:w.heap.size<=w'.heap.size) (hb:∀b,b<w.heap.size->w'.heap[b]? =w.heap[b]?):
 HR M0 base w' J h/\ Ch (Mu M0 J h) (Mu M0 J h) w w' J J h h:=by obtain⟨a,c⟩:=k.toHR0.world hs hb;obtain⟨κ,d,n⟩:=k.deep;refine⟨⟨a,κ,⟨d.root,fun o ob z es b ho hd hr=> ?_⟩,fun b ax=>n.new b (by omega),n.zone⟩,c⟩;have hlt:=(k.objs o ob _ ho hr).lt (Q0.bF (Q0.bQ hd));exact(d.tree o ob z es b ho hd hr).go (Zi _) (fun o _=>by unfold World.cell?;rw[hb b hlt]) ((k.objs o ob _ ho hr).rows hd).2 (fun c b X hlt e=>⟨e,hb b hlt⟩)
def HR.push {M0:Nat->Prop}{base:Nat}{w w':World}{J:List (Option Nat)}{h:List Q0}(k:HR M0 base w J h)
 (hs:w.heap.size<=w'.heap.size) (hb:∀b,b<w.heap.size->w'.heap[b]? =w.heap[b]?) (r:Option Nat) (ob:Q0) (hr:∀b,r=some b->w.heap.size<=b)
 (af:Ch (Mu M0 J h) (Mu M0 (J++[r]) (h++[ob])) w w' J (J++[r]) h (h++[ob])->BI (Mu M0 (J++[r]) (h++[ob])) base w' (J++[r]) (h++[ob]) r ob) (ak:ob.deep=none:=by rfl) (aI:ob= .dead->r=none:=by first|nofun|(intro h;cases h;done)):
 HR M0 base w' (J++[r]) (h++[ob])/\ Ch (Mu M0 J h) (Mu M0 (J++[r]) (h++[ob])) w w' J (J++[r]) h (h++[ob]):=by
 obtain⟨a,c⟩:=k.toHR0.push hs hb r ob hr af;obtain⟨κ,d,n⟩:=k.deep;obtain⟨κ',d',e'⟩:=d.push k.toHR0 hb r ob hr ak;refine⟨⟨a,κ',d',fun b ax=> ?_,fun b o c X z es e ho=> ?_⟩,c⟩;rw[e'];split;rename_i aB;have h1:(h++[ob])[h.length]? =some ob:=by simp
 have h2:(J++[r])[h.length]? =some (some b):=by rw[<-k.len,<-aB];simp
 by_cases hd:ob= .dead;subst hd;exact absurd (aI rfl) (by rw[aB];simp);have:=(a.objs _ _ _ h1 h2).lt hd;omega;exact n.new b (by omega);rw[e']at e;split at e;cases e;by_cases hlt:o<h.length;rw[Ze hlt]at ho;exact n.zone b o c X z es e ho;have ho':=(Zb.1 ho).1;simp at ho';obtain rfl:o=h.length:=by omega
 simp at ho;rw[ho]at ak;cases ak
def Deep.c6 {κ:Nat->List Nat}{M0:Nat->Prop}{base:Nat}{w w':World}{J:List (Option Nat)}{h:List Q0}(k:HR0 M0 base w J h)(d:Deep κ base w J h){o:Nat}{ob ob':Q0}{r:Option Nat}
 (ho:h[o]? =some ob) (hr:J[o]? =some r) (a1:ob.mut=true) (hb:∀b,r≠some b->w'.heap[b]? =w.heap[b]?)
 (ht:∀z es b,ob'.deep=some (z,es)->r=some b->vY κ base w' z es [o] b):Deep κ base w' J (h.set o ob'):=by
 have hlt:o<h.length:=(Zb.1 ho).1;have get:∀{i:Nat}{x:Q0},(h.set o ob')[i]? =some x->(i=o/\ x=ob') \/(i≠o/\ h[i]? =some x):=fun{i x}e=>by by_cases hi:o=i;subst hi;rw[Zd hlt]at e;cases e;exact .inl ⟨rfl,rfl⟩;rw[Za hi]at e;exact .inr ⟨fun e'=>hi e'.symm,e⟩
 refine⟨fun i x b hi hx a6=> ?_,fun i x z es b hi hd a6=> ?_⟩;rcases get hi with⟨rfl,rfl⟩|⟨_,ae⟩;exact d.root _ ob b ho a1 a6;exact d.root i x b ae hx a6;rcases get hi with⟨rfl,rfl⟩|⟨aw,ae⟩;rw[hr]at a6;cases a6;exact ht z es b hd rfl;have ay:r≠some b:=fun e=>aw (k.apart i o x ob b ae ho (Q0.bQ hd) a1 a6 (by rw[hr,e]));refine(d.tree i x z es b ae hd a6).go (Zi _) (fun c _=>by unfold World.cell?;rw[hb b ay]) ((k.objs i x _ ae a6).rows hd).2 (fun c b' X a8 e=>⟨e,hb b' fun e'=> ?_⟩);have:=d.root o ob b' ho a1 (by rw[hr,e']);rw[e]at this;simp at this
def HR.c6 {M0:Nat->Prop}{base:Nat}{w w':World}{J:List (Option Nat)}{h:List Q0}(k:HR M0 base w J h){o:Nat}{ob ob':Q0}{r:Option Nat}
 (ho:h[o]? =some ob) (hr:J[o]? =some r) (a1:ob.mut=true) (an:wx ob ob')
 (hs:w.heap.size=w'.heap.size) (hb:∀b,r≠some b->w'.heap[b]? =w.heap[b]?)
 (ai:∀b cur,r=some b->jb w b cur->∃cur',jb w' b cur'/\ cur'.size=cur.size)
 (af:Ch (Mu M0 J h) (Mu M0 J (h.set o ob')) w w' J J h (h.set o ob')->BI (Mu M0 J (h.set o ob')) base w' J (h.set o ob') r ob') (ak:ob'.deep=none:=by rfl)
 (av:∀z es b c v,ob= .bC z es->r=some b->Bm z es c->w.cell? ⟨b,c,none⟩=some v->w'.cell? ⟨b,c,none⟩=some v:=by first|(intro _ _ _ _ _ e;cases e;done)|(intro _ _ _ _ _ _ _ _ h;exact h)):
 HR M0 base w' J (h.set o ob')/\ Ch (Mu M0 J h) (Mu M0 J (h.set o ob')) w w' J J h (h.set o ob'):=by obtain⟨a,c⟩:=k.toHR0.c6 ho hr a1 an hs hb ai af av;obtain⟨κ,d,n⟩:=k.deep;refine⟨⟨a,κ,d.c6 k.toHR0 ho hr a1 hb (fun z es b e=>by rw[ak]at e;cases e),fun b ax=>n.new b (by omega),fun b i c X z es e hi=> ?_⟩,c⟩;by_cases ae:o=i;subst ae;rw[Zd (Zb.1 ho).1]at hi;cases hi;cases ak;rw[Za ae]at hi;exact n.zone b i c X z es e hi
def HR.cT {M0:Nat->Prop}{base:Nat}{w:World}{J:List (Option Nat)}{h:List Q0}(k:HR M0 base w J h){o z:Nat}{es:List (List PV)}{ob:Q0}
 (ho:h[o]? =some ob) (af:ob= .arr z es \/ob= .bA z es):HR M0 base w J (h.set o (.bI z es))/\ Ch (Mu M0 J h) (Mu M0 J (h.set o (.bI z es))) w w J J h (h.set o (.bI z es)):=by
 have hlt:o<h.length:=(Zb.1 ho).1;obtain⟨r,hr⟩:=k.mem ho;have a1:ob.mut=true:=by rcases af with rfl|rfl<;>rfl
 refine k.c6 ho hr a1 (by rcases af with rfl|rfl<;>exact⟨rfl,rfl⟩) rfl (fun _ _=>rfl) (fun b cur _ hr=>⟨cur,hr,rfl⟩) (fun c=> ?_);have aJ:=k.objs o _ r ho hr;have aK:BI (Mu M0 J h) base w J h r (.arr z es):=by rcases af with rfl|rfl<;>exact aJ
 obtain⟨hz,aj,kx⟩:=aK;refine⟨hz,aj,?_⟩;cases r with
 |none=>exact kx
 |some b=>obtain⟨a2,cur,cap,ar,h1,h2,h3,h4⟩:=kx;refine⟨fun hm=> ?_,cur,cap,ar,h1,h2,h3,fun i e j p he hp=> ?_⟩;rcases hm with hm|⟨i,x,hi,hx,a6⟩;exact(k.old b hm).2 o ob ho a1 hr;by_cases e:o=i;subst e;rw[Zd hlt]at hi;cases hi;cases hx;rw[Za e]at hi;exact e (k.apart o i _ x b ho hi a1 hx hr a6);obtain⟨v,hv,aq⟩:=h4 i e j p he hp;exact⟨v,hv,cG.go c.go p v aq⟩
def HR.freeze {M0:Nat->Prop}{base:Nat}{w:World}{J:List (Option Nat)}{h:List Q0}(k:HR M0 base w J h){o z:Nat}{es:List (List PV)}
 (ho:h[o]? =some (.arr z es)):HR M0 base w J (h.set o (.bI z es))/\ Ch (Mu M0 J h) (Mu M0 J (h.set o (.bI z es))) w w J J h (h.set o (.bI z es)):=k.cT ho (.inl rfl)
def HR.bM {M0:Nat->Prop}{base:Nat}{w:World}{J:List (Option Nat)}{h:List Q0}(k:HR M0 base w J h){o:Nat}{cs:List L}{ps:List PV}
 (ho:h[o]? =some (.box cs)) (hv:∀us,xc (Mu M0 J h) w J h cs us->ps.length=us.length/\ ∀(j:Nat)p,ps[j]? =some p->∃v,us[j]? =some v/\ cG (Mu M0 J h) w p v):
 HR M0 base w J (h.set o (.bM ps))/\ Ch (Mu M0 J h) (Mu M0 J (h.set o (.bM ps))) w w J J h (h.set o (.bM ps)):=by have hlt:o<h.length:=(Zb.1 ho).1;obtain⟨r,hr⟩:=k.mem ho;refine k.c6 ho hr rfl trivial rfl (fun _ _=>rfl) (fun b cur _ hr=>⟨cur,hr,rfl⟩) (fun c=> ?_);obtain⟨b,cur,rfl,a2,ai,aL⟩:=k.objs o _ r ho hr;obtain⟨hl,aq⟩:=hv _ aL;refine⟨b,cur,rfl,fun hm=> ?_,ai,by simpa using hl,fun j p hp=> ?_⟩;rcases hm with hm|⟨i,x,hi,hx,a6⟩;exact(k.old b hm).2 o _ ho rfl hr;by_cases e:o=i;subst e;rw[Zd hlt]at hi;cases hi;cases hx;rw[Za e]at hi;exact e (k.apart o i _ x b ho hi rfl hx hr a6);obtain⟨v,hv,aq⟩:=aq j p hp;exact⟨v,by simpa using hv,cG.go c.go p v aq⟩
def HR.freezeL {M0:Nat->Prop}{base:Nat}{w:World}{J:List (Option Nat)}{h:List Q0}(k:HR M0 base w J h)(l:L):
 HR M0 base w J (freezeL h l)/\ Ch (Mu M0 J h) (Mu M0 J (freezeL h l)) w w J J h (freezeL h l):=by
 cases l with
 |arr o=>simp only[Gi.freezeL];split;rename_i z es ho;exact k.freeze ho;rename_i z es ho;exact k.cT ho (.inr rfl);exact⟨k,Ch.refl _ _ _ _⟩
 |_=>exact⟨k,Ch.refl _ _ _ _⟩
def HR.freezeLs {M0:Nat->Prop}{base:Nat}{w:World}{J:List (Option Nat)}:∀{h:List Q0}(_:HR M0 base w J h)(ls:List L),
 HR M0 base w J (freezeLs h ls)/\ Ch (Mu M0 J h) (Mu M0 J (freezeLs h ls)) w w J J h (freezeLs h ls)
 |_,k,[]=>⟨k,Ch.refl _ _ _ _⟩
 |h,k,l::ls=>by obtain⟨k1,c1⟩:=k.freezeL l;obtain⟨k2,c2⟩:=HR.freezeLs k1 ls;exact⟨k2,c1.trans c2⟩
def HR.freezeVs {M0:Nat->Prop}{base:Nat}{w:World}{J:List (Option Nat)}:∀{h:List Q0}(_:HR M0 base w J h)(vs:List V),
 HR M0 base w J (freezeVs h vs)/\ Ch (Mu M0 J h) (Mu M0 J (freezeVs h vs)) w w J J h (freezeVs h vs)
 |_,k,[]=>⟨k,Ch.refl _ _ _ _⟩
 |h,k,v::vs=>by obtain⟨k1,c1⟩:=k.freezeLs v.cells;obtain⟨k2,c2⟩:=HR.freezeVs k1 vs;exact⟨k2,c1.trans c2⟩
def HR.fill {M0:Nat->Prop}{base:Nat}{w w':World}{J:List (Option Nat)}{h:List Q0}(k:HR M0 base w J h){i:Nat}(hi:h[i]? =some .res)
 (hs:w.heap.size<=w'.heap.size) (hb:∀b,b<w.heap.size->w'.heap[b]? =w.heap[b]?) {b0:Nat} (aN:w.heap.size<=b0) {cs:List L}
 (af:Ch (Mu M0 J h) (Mu M0 (J.set i (some b0)) (h.set i (.box cs))) w w' J (J.set i (some b0)) h (h.set i (.box cs))->BI (Mu M0 (J.set i (some b0)) (h.set i (.box cs))) base w' (J.set i (some b0)) (h.set i (.box cs)) (some b0) (.box cs)):
 HR M0 base w' (J.set i (some b0)) (h.set i (.box cs))/\ Ch (Mu M0 J h) (Mu M0 (J.set i (some b0)) (h.set i (.box cs))) w w' J (J.set i (some b0)) h (h.set i (.box cs)):=by
 have hlt:i<h.length:=(Zb.1 hi).1;have aM:i<J.length:=by rw[k.len];exact hlt
 have get:∀{j:Nat}{x:Q0},(h.set i (.box cs))[j]? =some x->(j=i/\ x= .box cs) \/(j≠i/\ h[j]? =some x):=fun{j x}e=>by by_cases q:i=j;subst q;rw[Zd hlt]at e;cases e;exact .inl ⟨rfl,rfl⟩;rw[Za q]at e;exact .inr ⟨fun e'=>q e'.symm,e⟩
 have aa:∀{j:Nat}{r:Option Nat},(J.set i (some b0))[j]? =some r->(j=i/\ r=some b0) \/(j≠i/\ J[j]? =some r):=fun{j r}e=>by by_cases q:i=j;subst q;rw[Zd aM]at e;cases e;exact .inl ⟨rfl,rfl⟩;rw[Za q]at e;exact .inr ⟨fun e'=>q e'.symm,e⟩
 have mu:∀b,b<w.heap.size->Mu M0 (J.set i (some b0)) (h.set i (.box cs)) b->Mu M0 J h b:=fun b hl hm=>by rcases hm with hm|⟨j,x,hj,hx,al⟩;exact .inl hm;rcases aa al with⟨rfl,e⟩|⟨q,a5⟩;cases e;omega;rcases get hj with⟨e,_⟩|⟨_,ag⟩;exact absurd e q;exact .inr ⟨j,x,ag,hx,a5⟩
 have c:Ch (Mu M0 J h) (Mu M0 (J.set i (some b0)) (h.set i (.box cs))) w w' J (J.set i (some b0)) h (h.set i (.box cs)):=by
  refine⟨⟨hs,mu,fun b hl _=>hb b hl⟩,fun b cur hr=>⟨cur,by obtain⟨T,ab⟩:=hr;exact⟨T,by rw[hb b (jb.lt ⟨T,ab⟩)];exact ab⟩,rfl⟩,fun j r x h1 h2 hn=> ?_,fun j b z es p v hr ho _ hv=>by unfold World.cell? at hv⊢;rw[hb b ((k.objs j _ _ ho hr).lt (by simp))];exact hv⟩;have q:i≠j:=by rintro rfl;rw[hi]at h2;cases h2;exact hn rfl
  exact⟨x,by rw[Za q];exact h1,by rw[Za q];exact h2,wx.refl x⟩
 have live:∀{j:Nat}{x:Q0}{b:Nat},h[j]? =some x->x.mut=true->J[j]? =some (some b)->b<w.heap.size:=fun{j x b}e m r=>(k.objs j x _ e r).lt (Q0.bF m);obtain⟨κ,d,n⟩:=k.deep;refine⟨⟨⟨by simp[k.len],fun b hm=>⟨ZD (k.old b hm).1 hs,fun j x hj hx al=> ?_⟩,Zc k.le hs,fun j x r hj al=> ?_,fun j j' x x' b h1 h2 m1 m2 r1 r2=> ?_⟩,fun b=>if b=b0 then [i]else κ b,⟨fun j x b hj hx al=> ?_,fun j x z es b hj hd al=> ?_⟩,fun b ax=> ?_,fun b o p X z es e ho=> ?_⟩,c⟩;rcases aa al with⟨rfl,e⟩|⟨q,a5⟩;cases e;have:=(k.old _ hm).1;omega;rcases get hj with⟨e,_⟩|⟨_,ag⟩;exact q e;exact(k.old b hm).2 j x ag hx a5;rcases aa al with⟨rfl,rfl⟩|⟨q,a5⟩;rcases get hj with⟨_,rfl⟩|⟨q,_⟩;exact af c;exact absurd rfl q;rcases get hj with⟨e,_⟩|⟨_,ag⟩;exact absurd e q;have kx:=k.objs j x r ag a5;exact kx.keep c (fun b e hd=>hb b (by subst e;exact kx.lt hd));rcases aa r1 with⟨rfl,e1⟩|⟨q1,aC⟩;cases e1;rcases aa r2 with⟨rfl,_⟩|⟨q2,az⟩;rfl;rcases get h2 with⟨e,_⟩|⟨_,aA⟩;exact absurd e q2;have:=live aA m2 az;omega;rcases get h1 with⟨e,_⟩|⟨_,aD⟩;exact absurd e q1;rcases aa r2 with⟨rfl,e2⟩|⟨q2,az⟩;cases e2;have:=live aD m1 aC;omega;rcases get h2 with⟨e,_⟩|⟨_,aA⟩;exact absurd e q2;exact k.apart j j' x x' b aD aA m1 m2 aC az;rcases aa al with⟨rfl,e⟩|⟨q,a5⟩;cases e;simp;rcases get hj with⟨e,_⟩|⟨_,ag⟩;exact absurd e q;have:=live ag hx a5;show(if b=b0 then [i]else κ b)=[j];rw[if_neg (by omega)];exact d.root j x b ag hx a5;rcases get hj with⟨_,rfl⟩|⟨q,ag⟩;cases hd;rcases aa al with⟨e,_⟩|⟨_,a5⟩;exact absurd e q;have hl:=live ag (Q0.bQ hd) a5;exact(d.tree j x z es b ag hd a5).go (Zi _) (fun o _=>by unfold World.cell?;rw[hb b hl]) ((k.objs j x _ ag a5).rows hd).2 (fun p b' X a8 e=>⟨by show(if b'=b0 then [i]else κ b')=_;rw[if_neg (by omega)];exact e,hb b' a8⟩);show(if b=b0 then [i]else κ b)=[];split;rename_i e;subst e;have kx:=af c;have:=kx.lt (by simp);omega;exact n.new b (by omega);have e:(if b=b0 then [i]else κ b)=o::p::X:=e;split at e;cases e;rcases get ho with⟨_,e'⟩|⟨_,ho'⟩;cases e';exact n.zone b o p X z es e ho'
end Gi
