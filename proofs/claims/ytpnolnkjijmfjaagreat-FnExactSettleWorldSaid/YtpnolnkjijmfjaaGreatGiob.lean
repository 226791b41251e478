/- Of this proof. -/
import Derived.Test.YtpnolnkjijmfjaaGreatGild
import Derived.Test.YtpnolnkjijmfjaaGreatGilg
import Derived.Test.YtpnolnkjijmfjaaGreatGilh
set_option linter.all false
namespace Gi
open Go Go.RowKit
variable {KI:KF}
section
variable {Γ:Ctx}{P:Program}{M0:Nat->Prop}{base:Nat}{Z:St}{a:Act}{w:World}{J:List (Option Nat)}{h:List Q0}{κ:Nat->List Nat}
def inM (κ:Nat->List Nat)(os:List Nat)(b:Nat):Prop:=∃(q o c:Nat)(X:List Nat),os[q]? =some o/\ κ b=o::c::X
def abi {os:List Nat}(hn:os.Nodup){i o:Nat}(hi:os[i]? =some o):os.findIdx? (· ==o)=some i:=by obtain⟨hlt,e⟩:=Zb.1 hi;rw[ZS];refine⟨hlt,by simp[e],fun j hj=> ?_⟩;simp only[beq_iff_eq,ne_eq,Bool.not_eq_true,beq_eq_false_iff_ne];intro e2;have h1:os[j]? =some o:=Zb.2 ⟨by omega,e2⟩;have:=(Qm (by omega) hn).1 (h1.trans hi.symm);omega
def abj {os:List Nat}{i o:Nat}(h:os.findIdx? (· ==o)=some i):os[i]? =some o:=by rw[ZS]at h;obtain⟨hlt,h1,_⟩:=h;simp only[beq_iff_eq]at h1;simp[hlt,h1]
def HR.cv (k:HR0 M0 base w J h)(d:Deep κ base w J h)(n:Zon κ M0 w h){os:List Nat}(ho:∀o∈os,∃z es,h[o]? =some (.bC z es))(hn:os.Nodup):
 HR (inM κ os) base w (os.map (nk J)) (os.map (jA h)):=by
 have get:∀{i:Nat}{x:Q0}{r:Option Nat},(os.map (jA h))[i]? =some x->(os.map (nk J))[i]? =some r->∃o,os[i]? =some o/\ h[o]? =some x/\ (∃z es,x= .bC z es)/\ J[o]? =some r:=by
  intro i x r hx hr;simp only[Zp,Zl]at hx hr;obtain⟨o,h1,rfl⟩:=hx;obtain⟨o',h2,rfl⟩:=hr;rw[h1]at h2;cases h2;obtain⟨z,es,hz⟩:=ho o (Zn h1);obtain⟨r,hr⟩:=k.mem hz;have e:jA h o= .bC z es:=by simp[jA,hz]
  exact⟨o,h1,by rw[e];exact hz,⟨z,es,e⟩,by simp[nk,hr]⟩
 refine⟨⟨by simp,fun b hm=>⟨?_,fun i x hi hx a6=> ?_⟩,k.le,fun i x r hi hr=> ?_,fun i i' x x' b h1 h2 m1 m2 r1 r2=> ?_⟩,fun b=>match κ b with
  |o::X=>(match os.findIdx? (· ==o)with
   |some q=>q::X
   |none=>[])
  |[]=>[],⟨fun i x b hi hx a6=> ?_,fun i x z es b hi hd a6=> ?_⟩,fun b hb=>by simp only[n.new b hb],fun b q c X z es e hi=> ?_⟩
 obtain⟨q,o,c,X,_,e⟩:=hm;by_cases hlt:b<w.heap.size;exact hlt;rw[n.new b (by omega)]at e;cases e;obtain⟨q,o,c,X,_,e⟩:=hm;obtain⟨o',_,h1,_,h2⟩:=get hi a6;rw[d.root o' x b h1 hx h2]at e;cases e;obtain⟨o,_,h1,⟨z,es,rfl⟩,h2⟩:=get hi hr;exact k.objs o _ r h1 h2;obtain⟨o,p1,q1,_,s1⟩:=get h1 r1;obtain⟨o',p2,q2,_,s2⟩:=get h2 r2;have e:=k.apart o o' x x' b q1 q2 m1 m2 s1 s2;subst e;exact(Qm (Zb.1 p1).1 hn).1 (p1.trans p2.symm);obtain⟨o,h0,h1,_,h2⟩:=get hi a6;simp only[d.root o x b h1 hx h2,abi hn h0];obtain⟨o,h0,h1,_,h2⟩:=get hi a6;exact(d.tree o x z es b h1 hd h2).go (Zi _) (fun _ _=>rfl) ((k.objs o x _ h1 h2).rows hd).2 (fun c b' X _ e=>⟨by simp only[e,Zh,Zk,abi hn h0],rfl⟩);split at e;rename_i o τ0 hκ;split at e;rename_i q' hq;cases e;exact⟨q,o,c,X,abj hq,hκ⟩;cases e;cases e
def HR.cn (k:HR0 M0 base w J h)(d:Deep κ base w J h)(n:Zon κ M0 w h){os:List Nat}(ho:∀o∈os,∃z es,h[o]? =some (.bC z es))(hn:os.Nodup){w':World}{h1 h':List Q0}
 (k1:HR (inM κ os) base w' (os.map (nk J)) h1) (c:Ch (Mu (inM κ os) (os.map (nk J)) (os.map (jA h))) (Mu (inM κ os) (os.map (nk J)) h1) w w' (os.map (nk J)) (os.map (nk J)) (os.map (jA h)) h1)
 (hlen:h'.length=h.length) (aR:∀(q o:Nat),os[q]? =some o->h'[o]? =h1[q]?) (a2:∀(i:Nat),¬i∈os->h'[i]? =h[i]?):
 HR M0 base w' J h'/\ Ch (Mu M0 J h) (Mu M0 J h') w w' J J h h':=by
 have one:∀{q o:Nat},os[q]? =some o->∃z es es' r,h[o]? =some (.bC z es)/\ J[o]? =some r/\ (os.map (jA h))[q]? =some (.bC z es)/\ (os.map (nk J))[q]? =some r/\ h1[q]? =some (.bC z es')/\ es.length=es'.length/\ ∀p,Bm z es p->Bm z es' p:=by
  intro q o hq;obtain⟨z,es,hz⟩:=ho o (Zn hq);obtain⟨r,hr⟩:=k.mem hz;have e1:(os.map (jA h))[q]? =some (.bC z es):=by simp[hq,jA,hz]
  have e2:(os.map (nk J))[q]? =some r:=by simp[hq,nk,hr]
  obtain⟨ob',_,h2,s⟩:=c.obj q r _ e2 e1 (by simp);obtain⟨es',rfl,s1,s2⟩:=s.bC;exact⟨z,es,es',r,hz,hr,e1,e2,h2,s1,s2⟩
 have mem:∀{i:Nat},i∈os->∃q:Nat,os[q]? =some i:=fun hi=>by obtain⟨q,hq,e⟩:=Yi hi;exact⟨q,by simp[hq,e]⟩
 have aE:∀b,inM κ os b->M0 b:=fun b⟨q,o,c,X,hq,e⟩=>by obtain⟨z,es,_,_,hz,_⟩:=one hq;exact n.zone b o c X z es e hz
 have aF:∀b,Mu (inM κ os) (os.map (nk J)) (os.map (jA h)) b->Mu M0 J h b:=fun b hm=>by rcases hm with hm|⟨q,x,hx,a5,hr⟩;exact .inl (aE b hm);simp only[Zp,Zl]at hx hr;obtain⟨o,hq,rfl⟩:=hx;obtain⟨o',b7,e⟩:=hr;rw[hq]at b7;cases b7;obtain⟨z,es,_,r,hz,hr,_⟩:=one hq;refine .inr ⟨o,_,hz,rfl,?_⟩;simp only[nk,hr,Ys]at e;rw[hr,e]
 have frame:∀b,b<w.heap.size->¬inM κ os b->(∀o∈os,J[o]? ≠some (some b))->w'.heap[b]? =w.heap[b]? :=fun b hb hm hr=>c.go.block b hb fun ag=>by rcases ag with aG|⟨q,x,hx,a5,a1⟩;exact hm aG;simp only[Zp,Zl]at a1;obtain⟨o,hq,e⟩:=a1;obtain⟨z,es,_,r,hz,ah,_⟩:=one hq;refine hr o (Zn hq) ?_;simp only[nk,ah,Ys]at e;rw[ah,e]
 have other:∀{i:Nat}{x:Q0}{b:Nat},¬i∈os->h[i]? =some x->x.mut=true->J[i]? =some (some b)->w'.heap[b]? =w.heap[b]? :=fun{i x b}hi hx hm hr=>by refine frame b ((k.objs i x _ hx hr).lt (Q0.bF hm)) (fun⟨q,o,c,X,_,e⟩=> ?_) (fun o ho' a1=> ?_);rw[d.root i x b hx hm hr]at e;cases e;obtain⟨q,hq⟩:=mem ho';obtain⟨z,es,_,_,hz,_⟩:=one hq;exact hi (k.apart i o x _ b hx hz hm rfl hr a1▸ho')
 have lift:∀{i:Nat}{x:Q0},h'[i]? =some x->x.mut=true->∃y,h[i]? =some y/\ y.mut=true:=fun{i x}hx hm=>by by_cases hi:i∈os;obtain⟨q,hq⟩:=mem hi;obtain⟨z,es,_,_,hz,_⟩:=one hq;exact⟨_,hz,rfl⟩;exact⟨x,by rw[<-a2 i hi];exact hx,hm⟩
 have aS:∀b,Mu M0 J h' b->Mu M0 J h b:=fun b hm=>by rcases hm with hm|⟨i,x,hx,a5,hr⟩;exact .inl hm;obtain⟨y,hy,a8⟩:=lift hx a5;exact .inr ⟨i,y,hy,a8,hr⟩
 have C:Ch (Mu M0 J h) (Mu M0 J h') w w' J J h h':=by refine⟨⟨c.go.size,fun b _ hm=>aS b hm,fun b hb hm=>c.go.block b hb fun ag=>hm (aF b ag)⟩,c.row,fun i r x hr hx _=> ?_,fun i b z es p v hr hx hl hv=> ?_⟩;by_cases hi:i∈os;obtain⟨q,hq⟩:=mem hi;obtain⟨z,es,es',_,hz,_,_,_,h2,s1,s2⟩:=one hq;rw[hz]at hx;cases hx;exact⟨.bC z es',hr,by rw[aR q i hq];exact h2,rfl,s1,s2⟩;exact⟨x,hr,by rw[a2 i hi];exact hx,wx.refl x⟩;by_cases hi:i∈os;obtain⟨q,hq⟩:=mem hi;obtain⟨z0,aN,_,r,hz,ah,e1,e2,_⟩:=one hq;rw[hz]at hx;cases hx;rw[hr]at ah;cases ah;exact c.zar q b z es p v e2 e1 hl hv;unfold World.cell? at hv⊢;rw[other hi hx rfl hr];exact hv
 obtain⟨κ',d',n'⟩:=k1.deep;have own:∀{q c b:Nat}{X:List Nat},κ' b=q::c::X->b<w'.heap.size->∀o,os[q]? =some o->inM κ os b:=fun{q c b X}e _ o hq=>by obtain⟨z,es,es',_,_,_,_,_,h2,_⟩:=one hq;exact n'.zone b q c X z es' e h2
 have lt:∀b,inM κ os b->b<w.heap.size:=fun b⟨q,o,c,X,_,e⟩=>by by_cases hlt:b<w.heap.size;exact hlt;rw[n.new b (by omega)]at e;cases e
 classical
 refine⟨⟨⟨by rw[hlen];exact k.len,fun b hm=>⟨ZD (k.old b hm).1 c.go.size,fun i x hx a5 hr=> ?_⟩,k1.le,fun i x r hx hr=> ?_,fun i i' x x' b h1 h2 m1 m2 r1 r2=> ?_⟩,
  fun b=>if inM κ os b \/(∃o∈os,J[o]? =some (some b))then(match κ' b with
   |q::X=>(match os[q]? with
    |some o=>o::X
    |none=>[])
   |[]=>[])else κ b,⟨fun i x b hx a5 hr=> ?_,fun i x z es b hx hd hr=> ?_⟩,fun b hb=> ?_,fun b i c' X z es e hx=> ?_⟩,C⟩
 obtain⟨y,hy,a8⟩:=lift hx a5;exact(k.old b hm).2 i y hy a8 hr;by_cases hi:i∈os;obtain⟨q,hq⟩:=mem hi;obtain⟨z,es,es',r0,hz,ah,_,e2,h2,_⟩:=one hq;rw[aR q i hq,h2]at hx;cases hx;rw[ah]at hr;cases hr;exact k1.objs q _ _ h2 e2;rw[a2 i hi]at hx;have kx:=k.objs i x r hx hr;refine kx.keep C (fun b e hd=> ?_);subst e;by_cases hm:x.mut=true;exact other hi hx hm hr;have aT:¬Mu M0 J h b:=by
  cases x with
  |bI z es=>exact kx.2.2.1
  |bM ps=>obtain⟨b1,bm,e1,aG,_⟩:=kx;cases e1;exact aG
  |dead=>exact absurd rfl hd
  |res=>cases kx
  |_=>exact absurd rfl hm
 exact c.go.block b (kx.lt hd) fun ag=>aT (aF b ag);obtain⟨y,hy,a8⟩:=lift h1 m1;obtain⟨y',aU,av⟩:=lift h2 m2;exact k.apart i i' y y' b hy aU a8 av r1 r2;by_cases hi:i∈os;obtain⟨q,hq⟩:=mem hi;obtain⟨z,es,es',r0,hz,ah,_,e2,h2,_⟩:=one hq;rw[hr]at ah;cases ah;rw[if_pos (.inr ⟨i,hi,hr⟩),d'.root q _ b h2 rfl e2];simp only[hq];rw[a2 i hi]at hx;rw[if_neg,d.root i x b hx a5 hr];rintro(⟨q,o,c0,X,_,e⟩|⟨o,ho',a1⟩);rw[d.root i x b hx a5 hr]at e;cases e;obtain⟨q,hq⟩:=mem ho';obtain⟨z,es,_,_,hz,_⟩:=one hq;exact hi (k.apart i o x _ b hx hz a5 rfl hr a1▸ho');by_cases hi:i∈os;obtain⟨q,hq⟩:=mem hi;obtain⟨z0,aN,es',r0,hz,ah,_,e2,h2,_⟩:=one hq;rw[hr]at ah;cases ah;rw[aR q i hq,h2]at hx;cases hx;cases hd;exact(d'.tree q _ z es b h2 rfl e2).go (Zi _) (fun _ _=>rfl) ((k1.objs q _ _ h2 e2).rows rfl).2 (fun c0 b' X aA e=>by
  refine⟨?_,rfl⟩
  rw[if_pos (.inl (own e aA i hq)),e]
  simp only[Zh,Zk,hq])
 rw[a2 i hi]at hx;have a5:=Q0.bQ hd;refine(d.tree i x z es b hx hd hr).go (Zi _) (fun o _=>by unfold World.cell?;rw[other hi hx a5 hr]) ((k.objs i x _ hx hr).rows hd).2 (fun c0 b' X aA e=> ?_);have h3:¬inM κ os b':=fun⟨q,o,c1,τ1,hq,e1⟩=>by rw[e]at e1;cases e1;exact hi (Zn hq)
 have h4:∀o∈os,J[o]? ≠some (some b'):=fun o ho' a1=>by obtain⟨q,hq⟩:=mem ho';obtain⟨z,es,_,_,hz,_⟩:=one hq;rw[d.root o _ b' hz rfl a1]at e;cases e
 refine⟨?_,frame b' aA h3 h4⟩;rw[if_neg];exact e;rintro(h5|⟨o,ho',a1⟩);exact h3 h5;exact h4 o ho' a1;rw[if_neg,n.new b (Zc c.go.size hb)];rintro(h5|⟨o,ho',a1⟩);have:=lt b h5;have:=c.go.size;omega;obtain⟨q,hq⟩:=mem ho';obtain⟨z,es,_,_,hz,_⟩:=one hq;have:=(k.objs o _ _ hz a1).lt (by simp);have:=c.go.size;omega;split at e;rename_i an;split at e;rename_i q τ0 hκ;split at e;rename_i o hq;cases e;obtain⟨z0,aN,es',_,hz,_,_,_,h2,_⟩:=one hq;exact aE b (n'.zone b q c' X z0 es' hκ h2);cases e;cases e;by_cases hi:i∈os;obtain⟨q,hq⟩:=mem hi;obtain⟨z0,aN,_,_,hz,_⟩:=one hq;exact n.zone b i c' X z0 aN e hz;rw[a2 i hi]at hx;exact n.zone b i c' X z es e hx
def Pq (OS:List Nat):L->L->Prop
 | .pv p,l'=>p.bare=true/\ l'= .pv p
 | .nil,l'=>l'= .pv (.lst [])
 | .arr o,l'=>∃q,l'= .arr q/\ OS[q]? =some o
 |_,_=>False
def Pq.mono {OS t:List Nat}{l l':L}(r:Pq OS l l'):Pq (OS++t) l l':=by
 cases l with
 |arr o=>obtain⟨q,rfl,h⟩:=r;exact⟨q,rfl,by rw[Ze (Zb.1 h).1];exact h⟩
 |_=>exact r
def gun (h:List Q0)(o:Nat):Q0:=(jA h o).ba
def M3 (h:List Q0)(ls xs:List L)(os:List Nat):Prop:=(∀o∈cz ls,∃z es,h[o]? =some (.bC z es))/\ (thawL (os.map (gun h)) xs).2=(os++cz ls).map (gun h)/\ (thawL (os.map (gun h)) xs).1.length=ls.length/\
 ∀(i:Nat)(l:L),ls[i]? =some l->∃l',(thawL (os.map (gun h)) xs).1[i]? =some l'/\ Pq (os++cz ls) l l'
def AE :∀(ls xs:List L)(os:List Nat),pd h ls=some xs->M3 h ls xs os
 |[],xs,os,e=>by simp[pd]at e;subst e;exact⟨fun o ho=>by simp[cz]at ho,by simp[cz,thawL],rfl,fun i l hl=>by simp at hl⟩
 |l::ls,xs,os,e=>by
  unfold pd at e;split at e;rename_i x aB h1 h2;cases e;have other:cz (l::ls)=cz ls->(∀g,thawL g (x::aB)=(x::(thawL g aB).1,(thawL g aB).2))->(∀OS,Pq OS l x)->M3 h (l::ls) (x::aB) os:=fun ea et er=>by
   obtain⟨i0,i1,i2,i3⟩:=AE ls aB os h2;unfold M3;rw[ea,et];refine⟨i0,i1,by simp[i2],fun i l1 aw=> ?_⟩;cases i with
   |zero=>simp at aw;subst aw;exact⟨x,rfl,er _⟩
   |succ i=>simpa using i3 i l1 (by simpa using aw)
  cases l with
  |pv p=>simp only[Bw]at h1;split at h1;rename_i hp;cases h1;exact other rfl (fun _=>rfl) (fun _=>⟨hp,rfl⟩);cases h1
  |nil=>cases h1;exact other rfl (fun _=>rfl) (fun _=>rfl)
  |arr o=>
   simp only[Bw]at h1;split at h1;rename_i z es ho;cases h1;obtain⟨i0,i1,i2,i3⟩:=AE ls aB (os++[o]) h2;have em:cz (.arr o::ls)=o::cz ls:=by simp[cz]
   have eg:os.map (gun h)++[Q0.bA z es]=(os++[o]).map (gun h):=by simp[gun,jA,ho,Q0.ba]
   have eo:os++o::cz ls=os++[o]++cz ls:=by simp
   unfold M3;rw[em,eo];simp only[thawL];rw[eg];refine⟨fun o' h'=> ?_,i1,by rw[Zo,Zo,i2],fun i l1 aw=> ?_⟩;rcases ZG.1 h' with rfl|h';exact⟨z,es,ho⟩;exact i0 o' h';cases i with
   |zero=>simp at aw;subst aw;exact⟨_,rfl,os.length,by simp,by simp⟩
   |succ i=>obtain⟨l',h3,h4⟩:=i3 i l1 (by simpa using aw);exact⟨l',by rw[Yp];exact h3,h4⟩
   cases h1
  |_=>cases h1
  cases e
def DZ :∀{os:List Nat}{outs:List (Bool×List L)}{h1 h h':List Q0},os.Nodup->(∀o∈os,o<h.length)->kJ h1=some outs->nK h os outs=some h'->
 h'.length=h.length/\ (∀(q o:Nat),os[q]? =some o->h'[o]? =h1[q]?)/\ ∀(i:Nat),¬i∈os->h'[i]? =h[i]?
 |[],outs,h1,h,h',hn,hlt,e1,e2=>by
  cases outs with
  |nil=>simp[nK]at e2;subst e2;exact⟨rfl,fun q o hq=>by simp at hq,fun _ _=>rfl⟩
  |cons x outs=>simp[nK]at e2
 |o::os,outs,h1,h,h',hn,hlt,e1,e2=>by
  obtain⟨bn,bo⟩:=Yn.1 hn;unfold nK at e2;split at e2;rename_i h0;cases h0;rename_i o' bD z es b9 h0;cases h0;cases h1 with
  |nil=>simp[kJ]at e1
  |cons x h1=>
   unfold kJ at e1;split at e1;rename_i h3;cases h3;rename_i z' es' h4 h3;cases h3;split at e1;rename_i xs ax;cases e1;obtain⟨i1,i2,i3⟩:=DZ (h1:=h1) bo (fun o1 h5=>by rw[ZC];exact hlt o1 (by simp[h5])) ax e2;refine⟨by rw[i1,ZC],fun q o1 hq=> ?_,fun i hi=> ?_⟩;cases q with
   |zero=>simp at hq;subst hq;rw[i3 _ bn,Zd (hlt _ (by simp))];rfl
   |succ q=>simpa using i2 q o1 (by simpa using hq)
   rw[i3 i (fun h5=>hi (by simp[h5])),Za (fun h5=>hi (by simp[h5]))];cases e1;cases e1
  cases e2
def SZ [KF](Γ:Ctx)(P:Program)(f:FuncId)(xz:List V)(r:V):Prop:=
 ∃h aV e ps h' ls,UM xz=some (h,aV)/\ r= .b8 [(false,[.pv (.lst e)]),(false,[.pv (.lst [ps])])]/\ Np e=some h'/\ Gn ps=some ls/\
  ∀(M0:Nat->Prop)(base:Nat)(w:World)(J:List (Option Nat))(aa:Array Value),Γ.G w->Γ.B0<=base->HR M0 base w J h->aV.length=aa.toList.length->
   (∀(i:Nat)(x:V)(u:Value),aV[i]? =some x->aa.toList[i]? =some u->VR (Mu M0 J h) w J h x u)->
   Calls P f aa w fun e w'=>∃v J',e= .returned v/\ Below base w w'/\ HR M0 base w' J' h'/\ Ch (Mu M0 J h) (Mu M0 J' h') w w' J J' h h'/\ VR (Mu M0 J' h') w' J' h' (.agg ls) v
def El [KF](Γ:Ctx)(P:Program)(f:FuncId)(xz:List V)(r:V):Prop:=
 ∃l outs,r= .b8 ((false,[l])::outs)/\ l.flat=true/\ ∀(M0:Nat->Prop)(base:Nat)(w:World)(J:List (Option Nat))(aa:Array Value),Γ.G w->Γ.B0<=base->HR M0 base w J ((gP [] xz).2.map Q0.zone)->(gP [] xz).1.length=aa.size->
  (∀(i:Nat)(x:V)(u:Value),(gP [] xz).1[i]? =some x->aa.toList[i]? =some u->VR (Mu M0 J ((gP [] xz).2.map Q0.zone)) w J ((gP [] xz).2.map Q0.zone) x u)->
  Calls P f aa w fun e w'=>∃v h1,e= .returned v/\ Below base w w'/\ (∀M J h,LR M w' J h l v)/\ kJ h1=some outs/\ HR M0 base w' J h1/\ Ch (Mu M0 J ((gP [] xz).2.map Q0.zone)) (Mu M0 J h1) w w' J J ((gP [] xz).2.map Q0.zone) h1
def TC {v a':V}{n:Int}(hl:yI h v=some a'):(∀o∈cz v.cells,∃z es,h[o]? =some (.bC z es))/\ ∃v',gP [] [a',ce .i64 n]=([v',ce .i64 n],(cz v.cells).map (gun h))/\
 (∀xs,v≠ .b8 xs)/\ v'.cells.length=v.cells.length/\ (match v,v' with| .one _, .one _=>True| .agg _, .agg _=>True|_,_=>False)/\ ∀(i:Nat)(l:L),v.cells[i]? =some l->∃l',v'.cells[i]? =some l'/\ Pq (cz v.cells) l l':=by
 cases v with
 |b8 xs=>cases hl
 |one l=>
  simp only[yI]at hl;split at hl;rename_i x hx;cases hl;have aO:pd h [l]=some [x]:=by simp[pd,hx]
  obtain⟨i0,i1,i2,i3⟩:=AE [l] [x] [] aO;simp only[Zy,Zk]at i1 i2 i3;obtain⟨l',h',e'⟩:=mp [] x;rw[e']at i1 i2 i3;refine⟨i0, .one l',?_,by simp,rfl,trivial,i3⟩;simp only[gP,thaw,e',V.cells];rw[<-i1];rfl;cases hl
 |agg ls=>simp only[yI]at hl;split at hl;rename_i xs hx;cases hl;obtain⟨i0,i1,i2,i3⟩:=AE ls xs [] hx;simp only[Zy,Zk]at i1 i2 i3;refine⟨i0, .agg (thawL [] xs).1,?_,by simp,i2,trivial,i3⟩;simp only[gP,thaw,V.cells];rw[<-i1];rfl;cases hl
def aci {os:List Nat}(ho:∀o∈os,∃z es,h[o]? =some (.bC z es)):(os.map (gun h)).map Q0.zone=os.map (jA h):=by rw[List.map_map];apply ZO;intro o hm;obtain⟨z,es,e⟩:=ho o hm;simp[gun,jA,e,Q0.ba,Q0.zone]
def Pq.lr {M M':Nat->Prop}{os:List Nat}{l l':L}{u:Value}(r:Pq os l l')(hl:LR M w J h l u):LR M' w (os.map (nk J)) (os.map (jA h)) l' u:=by
 cases l with
 |pv p=>
  obtain⟨hp,rfl⟩:=r;cases p with
  |lst es=>
   cases es with
   |nil=>simp only[LR,cG]at hl⊢;rcases hl with hl|⟨b,o,c,z,rfl,_⟩;exact .inl hl;exact .inl ⟨trivial,_,_,rfl⟩
   |cons _ _=>cases hp
  |_=>simpa only[LR,cG]using hl
 |nil=>obtain rfl:=(show l'= .pv (.lst [])from r);obtain⟨ad,rfl⟩:=hl;simp only[LR,cG];exact .inl ⟨trivial,_,_,rfl⟩
 |arr o=>obtain⟨q,rfl,hq⟩:=r;obtain⟨r0,ob,h1,h2,hs⟩:=hl;exact⟨r0,ob,by simp[hq,nk,h1],by simp[hq,jA,h2],hs⟩
 |_=>exact r.elim
def afe (s:SR Γ M0 base Z a w J){x a':V}{ux:Value}{n:Int}(rx:VR (Mu M0 J Z.h) w J Z.h x ux)(hn:(cz x.cells).Nodup)(hl:yI Z.h x=some a'){f:FuncId}{outs:List (Bool×List L)}{l:L}{h':List Q0}
 (hs:El Γ P f [a',ce .i64 n] (.b8 ((false,[l])::outs))) (hp:nK Z.h (cz x.cells) outs=some h'):
 Calls P f #[ux, .int .i64 n] w fun e w'=>∃v,e= .returned v/\ Below base w w'/\ HR M0 base w' J h'/\ Ch (Mu M0 J Z.h) (Mu M0 J h') w w' J J Z.h h'/\ VR (Mu M0 J h') w' J h' (.one l) v:=by
 obtain⟨ho,v',et,bb,hlen,ao,aH⟩:=TC (n:=n) hl;obtain⟨l0,bc,e0,bd,hs⟩:=hs;cases e0;rw[et]at hs;simp only[aci ho]at hs;obtain⟨κ,d,nz⟩:=s.hr.deep;have aW:=rx.cells bb;refine(hs (inM κ (cz x.cells)) base w ((cz x.cells).map (nk J)) #[ux, .int .i64 n] s.inv s.b0 (HR.cv s.hr.toHR0 d nz ho hn) rfl (fun i y u hy hu=> ?_)).mono fun e w'⟨v,h1,he,hb,aI,a2,k1,c1⟩=> ?_;match i,hy,hu with
 |0,hy,hu=>
  simp at hy hu;subst hy;subst hu;cases x with
  |b8 xs=>exact absurd rfl (bb xs)
  |one lx=>
   cases v' with
   |one bE=>obtain⟨l',e1,e2⟩:=aH 0 lx rfl;simp[V.cells]at e1;subst e1;exact e2.lr rx
   |_=>exact ao.elim
  |agg ls=>
   cases v' with
   |agg ls'=>
    obtain⟨cs,rfl,aO⟩:=rx;refine⟨cs,rfl,by rw[show ls'.length=ls.length from hlen];exact aO.1,fun j lj c bf hc=> ?_⟩;have hj:j<ls.length:=by rw[<-show ls'.length=ls.length from hlen];exact(Zb.1 bf).1
    obtain⟨l',e1,e2⟩:=aH j ls[j] (by simp[V.cells,hj]);rw[show(V.agg ls').cells=ls' from rfl,bf]at e1;cases e1;exact e2.lr (aO.2 j _ c (by simp[hj]) hc)
   |_=>exact ao.elim
 |1,hy,hu=>simp at hy hu;subst hy;subst hu;exact VR.mkInt _ _
 |i+2,hy,hu=>simp at hy
 obtain⟨p1,p2,p3⟩:=DZ hn (fun o h5=>by obtain⟨z,es,hz⟩:=ho o h5;exact(Zb.1 hz).1) a2 hp;obtain⟨g1,g2⟩:=HR.cn s.hr.toHR0 d nz ho hn k1 c1 p1 p2 p3;exact⟨v,he,hb,g1,g2,aI _ _ _⟩
def TL {h1:List Q0}{z:Nat}{l1:List (List PV)}(e:kJ h1=some [(false,[.down z l1])]):h1=[.bC z l1]:=by unfold kJ at e;split at e;cases e;rename_i z' es' h2;split at e;rename_i xs ax;cases e;unfold kJ at ax;split at ax;rfl;split at ax<;>cases ax;cases ax;cases e;cases e
def Gl {z:Nat}{es:List (List PV)}{c:Nat}{p:PV}(h:BL z es c=some p):∃e,es[c/z]? =some e/\ e[c%z]? =some p:=by unfold BL at h;split at h;rename_i e he;exact⟨e,he,h⟩;cases h
def zh (c z:Nat):c/z*z+c%z=c:=by rw[YH];exact Qz c z
def RQ {z:Nat}{es:List (List PV)}{c:Nat}{p:PV}{e:List PV}(hz:0<z)(ai:∀e∈es,e.length=z)(he:es[c/z]? =some e){i j:Nat}{e1:List PV}{p1:PV}(h1:(iU z es c p)[i]? =some e1)(h2:e1[j]? =some p1):
 (i*z+j=c/\ p1=p) \/(i*z+j≠c/\ ∃e0,es[i]? =some e0/\ e0[j]? =some p1):=by
 unfold iU at h1;rw[he]at h1;have hlt:c%z<e.length:=by rw[ai e (Zn he)];exact Qh _ hz
 have hp:=zh c z;by_cases hi:c/z=i;subst hi;rw[Zd (Zb.1 he).1]at h1;cases h1;simp only[Ys]at h2;by_cases hj:c%z=j;subst hj;rw[Zd hlt]at h2;cases h2;exact .inl ⟨hp,rfl⟩;rw[Za hj]at h2;exact .inr ⟨by omega,e,he,h2⟩;rw[Za hi]at h1;refine .inr ⟨fun e'=>hi ?_,e1,h1,h2⟩;have hj:j<z:=by rw[<-ai e1 (Zn h1)];exact(Zb.1 h2).1
 exact(zy (Qh _ hz) hj (hp.trans e'.symm)).1
def TQ {z:Nat}{es:List (List PV)}{c:Nat}{p:PV}{e:List PV}(hz:0<z)(ai:∀e∈es,e.length=z)(he:es[c/z]? =some e):∃e1,(iU z es c p)[c/z]? =some e1/\ e1[c%z]? =some p:=by
 have hlt:c%z<e.length:=by rw[ai e (Zn he)];exact Qh _ hz
 unfold iU;rw[he];exact⟨_,Zd (Zb.1 he).1,by simp only[Ys];exact Zd hlt⟩
def RS {z:Nat}{es:List (List PV)}{c:Nat}{p:PV}{i j:Nat}{e0:List PV}{p1:PV}(ai:∀e∈es,e.length=z)(h1:es[i]? =some e0)(h2:e0[j]? =some p1)(aP:i*z+j≠c):∃e1,(iU z es c p)[i]? =some e1/\ e1[j]? =some p1:=by have hp:=zh c z;unfold iU;by_cases hi:c/z=i;subst hi;rw[h1];exact⟨_,Zd (Zb.1 h1).1,by simp only[Ys];rw[Za fun e=>aP (by omega)];exact h2⟩;rw[Za hi];exact⟨e0,h1,h2⟩
def RR {z:Nat}{es:List (List PV)}{c:Nat}{p:PV}{e:List PV}(ai:∀e∈es,e.length=z)(he:es[c/z]? =some e):(iU z es c p).length=es.length/\ ∀e∈iU z es c p,e.length=z:=by unfold iU;rw[he];refine⟨by simp,fun e1 h1=> ?_⟩;rcases ZF h1 with h2|rfl;exact ai e1 h2;simpa using ai e (Zn he)
def acT (s:SR Γ M0 base Z a w J){o c z:Nat}{es l0 l1:List (List PV)}{ux:Value}{n:Int}(rx:LR (Mu M0 J Z.h) w J Z.h (.sub o c) ux)(ae:Z.h[o]? =some (.bC z es))(aj:BL z es c=some (.lst l0))(aP:l0≠[]){f:FuncId}{l:L}
 (hs:El Γ P f [.one (.down (wid l0) l0),ce .i64 n] (.b8 [(false,[l]),(false,[.down (wid l0) l1])])):
 Calls P f #[ux, .int .i64 n] w fun e w'=>∃v,e= .returned v/\ Below base w w'/\ HR M0 base w' J (Z.h.set o (.bC z (iU z es c (.lst l1))))/\ Ch (Mu M0 J Z.h) (Mu M0 J (Z.h.set o (.bC z (iU z es c (.lst l1))))) w w' J J Z.h (Z.h.set o (.bC z (iU z es c (.lst l1))))/\
  VR (Mu M0 J (Z.h.set o (.bC z (iU z es c (.lst l1))))) w' J (Z.h.set o (.bC z (iU z es c (.lst l1)))) (.one l) v:=by
 obtain⟨aX,b,z',es',hr,ho',bp,hv⟩:=rx;rw[ae]at ho';cases ho';obtain⟨κ,d,nz⟩:=s.hr.deep;have k:=s.hr.toHR0;obtain⟨e,hi,hj⟩:=Gl aj;obtain⟨hz,ai,aJ,aY,aZ,b3,q1,q2,q3⟩:=k.objs o _ (some b) ae hr;have hT:=d.tree o _ z es b ae rfl hr;obtain⟨v,ay,ht⟩:=hT (c/z) e (c%z) _ hi hj;rw[zh]at ay ht;rw[hv]at ay;cases ay;simp only[io]at ht;rcases ht with⟨h0,_⟩|⟨b1,cp,z1,cur,e1,bg,hκ,b4,az,g1,g2,g3,aQ⟩;exact absurd h0 aP;have hw:wid l0=z1:=by
  cases l0 with
  |nil=>exact absurd rfl aP
  |cons e0 l=>simp only[hJ]at aQ;exact aQ.1
 rw[hw]at hs;have hκ':κ b1=[o,c]:=hκ;have lz:∀e∈l0,e.length=z1:=fun e0 h0=>by obtain⟨i,hi,rfl⟩:=Yi h0;exact(aQ.at (by simp[hi]:l0[i]? =some l0[i])).1
 have af:∀{i:Nat}{x:Q0},Z.h[i]? =some x->x.mut=true->J[i]? ≠some (some b1):=fun{i x}hx hm a1=>by rw[d.root i x b1 hx hm a1]at hκ';cases hκ'
 obtain⟨M1,aq⟩:∃M1:Nat->Prop,∀b,M1 b↔∃c1 X,κ b=o::c::c1::X:=⟨_,fun b=>Iff.rfl⟩;have lt:∀{b x X},κ b=x::X->b<w.heap.size:=fun{b x X}e=>by by_cases hlt:b<w.heap.size;exact hlt;rw[nz.new b (by omega)]at e;cases e
 have bh:∀b,M1 b->M0 b:=fun b hm=>by obtain⟨c1,X,e⟩:=(aq b).1 hm;exact nz.zone b o c (c1::X) z es e ae
 have bj:M0 b1:=nz.zone b1 o c [] z es hκ' ae;have K1:HR M1 base w [some b1] [.bC z1 l0]:=by
  refine⟨⟨rfl,fun b hm=> ?_,k.le,fun i x r hi a6=> ?_,fun i i' x x' b h1 h2 m1 m2 r1 r2=> ?_⟩,fun b=>match κ b with
   |o'::c'::X=>if o'=o/\ c'=c then 0::X else []
   |_=>[],⟨fun i x b hi hm a6=> ?_,fun i x z2 ar b hi hd a6=> ?_⟩,fun b hb=>by simp only[nz.new b hb],fun b q c1 X z2 ar e hi=> ?_⟩
  obtain⟨c1,X,e⟩:=(aq b).1 hm;refine⟨lt e,fun i x hi hx a6=> ?_⟩;cases i with
  |zero=>simp at a6;subst a6;rw[hκ']at e;cases e
  |succ i=>simp at hi
  cases i with
  |zero=>simp at hi a6;subst hi;subst a6;exact⟨b4,lz,bg,cur,cp,az,g1,g2,g3⟩
  |succ i=>simp at hi
  cases i<;>cases i'<;>simp at h1 h2⊢;cases i with
  |zero=>simp at hi a6;subst a6;simp[hκ']
  |succ i=>simp at hi
  cases i with
  |zero=>simp at hi a6;subst hi;subst a6;cases hd;exact aQ.cells.go (Zi _) (fun _ _=>rfl) lz (fun c1 b' X _ e=>⟨by simp[e],rfl⟩)
  |succ i=>simp at hi
  split at e;rename_i o' c' τ0 hk;split at e;rename_i bq;obtain⟨rfl,rfl⟩:=bq;cases e;exact(aq b).2 ⟨c1,X,hk⟩;cases e;cases e
 obtain⟨l2,outs,e0,bd,hs⟩:=hs;cases e0;refine(hs M1 base w [some b1] #[ux, .int .i64 n] s.inv s.b0 K1 rfl (fun i y u hy hu=> ?_)).mono fun e2 w'⟨v2,h1,he,hb,aI,a2,k1,c1⟩=> ?_;match i,hy,hu with
 |0,hy,hu=>simp[gP,thaw,thawL]at hy;simp at hu;subst hy;subst hu;exact⟨some b1, .bC z1 l0,rfl,rfl,cur,cp,az,g1,g2,g3,e1⟩
 |1,hy,hu=>simp[gP,thaw,thawL]at hy;simp at hu;subst hy;subst hu;exact VR.mkInt _ _
 |i+2,hy,hu=>simp[gP]at hy
 obtain rfl:=TL a2;have C0:Ch (Mu M1 [some b1] [.bC z1 l0]) (Mu M1 [some b1] [.bC z1 l1]) w w' [some b1] [some b1] [.bC z1 l0] [.bC z1 l1]:=c1;obtain⟨ob',_,h2,sm⟩:=C0.obj 0 (some b1) (.bC z1 l0) rfl rfl (by simp);obtain⟨ar,e3,br,bG⟩:=sm.bC;simp at h2;rw[<-h2]at e3;cases e3;obtain⟨κ',d',n'⟩:=k1.deep;have frame:∀b',b'<w.heap.size->¬M1 b'->b'≠b1->w'.heap[b']? =w.heap[b']? :=fun b' hlt hm ab=>C0.go.block b' hlt fun ag=>by
  rcases ag with ag|⟨i,x,hx,a5,a1⟩;exact hm ag;cases i with
  |zero=>simp at a1;exact ab a1.symm
  |succ i=>simp at hx
 have a7:∀{i:Nat}{x:Q0}{b':Nat},Z.h[i]? =some x->x.mut=true->J[i]? =some (some b')->w'.heap[b']? =w.heap[b']? :=fun{i x b'}hx hm a1=>by refine frame b' ((k.objs i x _ hx a1).lt (Q0.bF hm)) (fun hM=> ?_) (fun e4=> ?_);obtain⟨c1,X,e4⟩:=(aq b').1 hM;rw[d.root i x b' hx hm a1]at e4;cases e4;subst e4;exact af hx hm a1
 have bk:o<Z.h.length:=(Zb.1 ae).1;have get:∀{i:Nat}{x:Q0},(Z.h.set o (.bC z (iU z es c (.lst l1))))[i]? =some x->(i=o/\ x= .bC z (iU z es c (.lst l1))) \/(i≠o/\ Z.h[i]? =some x):=fun{i x}e4=>by by_cases aC:o=i;subst aC;rw[Zd bk]at e4;cases e4;exact .inl ⟨rfl,rfl⟩;rw[Za aC]at e4;exact .inr ⟨fun e5=>aC e5.symm,e4⟩
 have lift:∀{i:Nat}{x:Q0},(Z.h.set o (.bC z (iU z es c (.lst l1))))[i]? =some x->x.mut=true->∃y,Z.h[i]? =some y/\ y.mut=true:=fun{i x}hx hm=>by rcases get hx with⟨rfl,rfl⟩|⟨_,al⟩;exact⟨_,ae,rfl⟩;exact⟨x,al,hm⟩
 have aF:∀b',Mu M1 [some b1] [.bC z1 l0] b'->M0 b':=fun b' hm=>by
  rcases hm with hm|⟨i,x,hx,a5,a1⟩;exact bh b' hm;cases i with
  |zero=>simp at a1;subst a1;exact bj
  |succ i=>simp at hx
 have aS:∀b',Mu M0 J (Z.h.set o (.bC z (iU z es c (.lst l1)))) b'->Mu M0 J Z.h b':=fun b' hm=>by rcases hm with hm|⟨i,x,hx,a5,a1⟩;exact .inl hm;obtain⟨y,hy,a8⟩:=lift hx a5;exact .inr ⟨i,y,hy,a8,a1⟩
 have b5:=RR (p:= .lst l1) ai hi;have C:Ch (Mu M0 J Z.h) (Mu M0 J (Z.h.set o (.bC z (iU z es c (.lst l1))))) w w' J J Z.h (Z.h.set o (.bC z (iU z es c (.lst l1)))):=by refine⟨⟨C0.go.size,fun b' _ hm=>aS b' hm,fun b' aA hm=>C0.go.block b' aA fun ag=>hm (.inl (aF b' ag))⟩,C0.row,fun i r x a1 hx _=> ?_,fun i b' z2 ar p v3 a1 hx hl bl=> ?_⟩;by_cases aC:o=i;subst aC;rw[ae]at hx;cases hx;refine⟨_,a1,Zd bk,rfl,b5.1.symm,fun p⟨i1,e1,j1,ll,h4,h5,h6⟩=> ?_⟩;by_cases hp:i1*z+j1=c;obtain⟨e4,q4,q5⟩:=TQ (p:= .lst l1) hz ai hi;exact⟨c/z,e4,c%z,l1,q4,q5,by rw[zh];omega⟩;obtain⟨e4,q4,q5⟩:=RS (p:= .lst l1) ai h4 h5 hp;exact⟨i1,e4,j1,ll,q4,q5,h6⟩;exact⟨x,a1,by rw[Za aC];exact hx,wx.refl x⟩;unfold World.cell? at bl⊢;rw[a7 hx rfl a1];exact bl
 have bH:∀b',M1 b'->b'≠b1:=fun b' hm e4=>by subst e4;obtain⟨c1,X,e5⟩:=(aq b').1 hm;rw[hκ']at e5;cases e5
 classical
 refine⟨v2,he,hb,⟨⟨by rw[ZC];exact k.len,fun b' hm=>⟨ZD (k.old b' hm).1 C0.go.size,fun i x hx a5 a1=> ?_⟩,k1.le,fun i x r hx a1=> ?_,fun i i' x x' b' x1 x2 m1 m2 r1 r2=> ?_⟩,
  fun b'=>if M1 b' \/b'=b1 then(match κ' b' with
   |_::X=>o::c::X
   |[]=>[])else κ b',⟨fun i x b' hx a5 a1=> ?_,fun i x z2 ar b' hx hd a1=> ?_⟩,fun b' aA=> ?_,fun b' i c' X z2 ar e4 hx=> ?_⟩,C,aI _ _ _⟩
 obtain⟨y,hy,a8⟩:=lift hx a5;exact(k.old b' hm).2 i y hy a8 a1;rcases get hx with⟨rfl,rfl⟩|⟨ab,al⟩;rw[hr]at a1;cases a1;refine⟨hz,b5.2,aJ,aY,aZ,?_,q1,by rw[b5.1];exact q2,q3⟩;obtain⟨T,bs⟩:=b3;exact⟨T,(a7 ae rfl hr).trans bs⟩;have kx:=k.objs i x r al a1;refine kx.keep C (fun b' e4 hd=> ?_);subst e4;by_cases hm:x.mut=true;exact a7 al hm a1;have aT:¬Mu M0 J Z.h b':=by
  cases x with
  |bI z es=>exact kx.2.2.1
  |bM ps=>obtain⟨b2,aK,e5,aG,_⟩:=kx;cases e5;exact aG
  |dead=>exact absurd rfl hd
  |res=>cases kx
  |_=>exact absurd rfl hm
 exact C0.go.block b' (kx.lt hd) fun ag=>aT (.inl (aF b' ag));obtain⟨y,hy,a8⟩:=lift x1 m1;obtain⟨y',aU,av⟩:=lift x2 m2;exact k.apart i i' y y' b' hy aU a8 av r1 r2;obtain⟨y,hy,a8⟩:=lift hx a5;rw[if_neg,d.root i y b' hy a8 a1];rintro(hM|rfl);obtain⟨c1,X,e4⟩:=(aq b').1 hM;rw[d.root i y b' hy a8 a1]at e4;cases e4;exact af hy a8 a1;have stay:∀{b2 i2 c2:Nat}{X:List Nat},b2<w.heap.size->κ b2=i2::c2::X->¬(i2=o/\ c2=c)->¬M1 b2/\ b2≠b1:=fun{b2 i2 c2 X}_ e4 ab=>⟨fun hM=>by
  obtain⟨c3,τ3,e5⟩:=(aq b2).1 hM
  rw[e4]at e5;cases e5
  exact ab ⟨rfl,rfl⟩,fun e5=>by
  subst e5
  rw[hκ']at e4;cases e4
  exact ab ⟨rfl,rfl⟩⟩
 rcases get hx with⟨rfl,rfl⟩|⟨ab,al⟩;rw[hr]at a1;cases a1;cases hd;intro i1 e4 j1 p1 hi1 bt;have ak:∀p,w'.cell? ⟨b,p,none⟩=w.cell? ⟨b,p,none⟩:=fun p=>by unfold World.cell?;rw[a7 ae rfl hr]
 rcases RQ hz ai hi hi1 bt with⟨hp,rfl⟩|⟨hp,e5,q4,q5⟩;rw[hp];refine⟨ux,(ak c).trans hv,?_⟩;simp only[io];obtain⟨_,_,_,aK,aL,au,r1,r2,r3⟩:=k1.objs 0 _ (some b1) rfl rfl;obtain⟨bu,aM,bw⟩:=C0.row b1 cur az;cases au.inj aM;have b6:aL=cp:=Yr b4 (by rw[<-r1,bw,g1]);subst b6;refine .inr ⟨b1,aL,z1,aK,by rw[e1,br],bg,?_,b4,au,r1,r2,r3,?_⟩;rw[if_pos (.inr rfl),d'.root 0 _ b1 rfl rfl rfl];rfl;have T:=d'.tree 0 _ z1 l1 b1 rfl rfl rfl;refine vY.ll ((k1.objs 0 _ (some b1) rfl rfl).rows rfl).2 (T.go (Zi _) (fun _ _=>rfl) ((k1.objs 0 _ (some b1) rfl rfl).rows rfl).2 (fun c2 b2 X aD e6=>⟨?_,rfl⟩));rw[if_pos (.inl (n'.zone b2 0 c2 X z1 l1 e6 rfl)),e6];rfl;obtain⟨v4,bx,bz⟩:=hT i1 e5 j1 p1 q4 q5;refine⟨v4,(ak _).trans bx,io.go (Zi _) p1 _ _ v4 (fun b2 X aD e6=> ?_) bz⟩;obtain⟨h7,h8⟩:=stay aD e6 (fun h=>hp h.2);exact⟨by rw[if_neg (fun h=>h.elim h7 h8)];exact e6,frame b2 aD h7 h8⟩;have a5:=Q0.bQ hd;refine(d.tree i x z2 ar b' al hd a1).go (Zi _) (fun p _=>by unfold World.cell?;rw[a7 al a5 a1]) ((k.objs i x _ al a1).rows hd).2 (fun c2 b2 X aD e6=> ?_);obtain⟨h7,h8⟩:=stay aD e6 (fun h=>ab h.1);exact⟨by rw[if_neg (fun h=>h.elim h7 h8)];exact e6,frame b2 aD h7 h8⟩;have:=C0.go.size;rw[if_neg,nz.new b' (by omega)];rintro(hM|rfl);obtain⟨c1,X,e4⟩:=(aq b').1 hM;have:=lt e4;omega;have:=lt hκ';omega;split at e4;rename_i an;split at e4;rename_i q0 τ0 hk;cases e4;rcases an with hM|e5;exact bh b' hM;rw[e5];exact bj;cases e4;rcases get hx with⟨rfl,_⟩|⟨_,al⟩;exact nz.zone b' i c' X z es e4 ae;exact nz.zone b' i c' X z2 ar e4 al
def acS (s:SR Γ M0 base Z a w J){o c z:Nat}{es:List (List PV)}{ux:Value}{n:Int}(rx:LR (Mu M0 J Z.h) w J Z.h (.sub o c) ux)(ae:Z.h[o]? =some (.bC z es))(aj:BL z es c=some (.lst [])){f:FuncId}{l:L}
 (hs:El Γ P f [eW [],ce .i64 n] (.b8 [(false,[l])])):
 Calls P f #[ux, .int .i64 n] w fun e w'=>∃v,e= .returned v/\ Below base w w'/\ HR M0 base w' J Z.h/\ Ch (Mu M0 J Z.h) (Mu M0 J Z.h) w w' J J Z.h Z.h/\ VR (Mu M0 J Z.h) w' J Z.h (.one l) v:=by
 obtain⟨aX,b,z',es',hr,ho',bp,hv⟩:=rx;rw[ae]at ho';cases ho';obtain⟨κ,d,nz⟩:=s.hr.deep;obtain⟨e,hi,hj⟩:=Gl aj;obtain⟨v,ay,ht⟩:=d.tree o _ z es b ae rfl hr (c/z) e (c%z) _ hi hj;rw[zh]at ay ht;rw[hv]at ay;cases ay;have bB:∃a' c',ux= .slice a' 0 c':=by simp only[io]at ht;rcases ht with⟨_,h⟩|⟨b1,cp,z1,cur,e1,_⟩;exact h;exact⟨_,_,e1⟩
 obtain⟨l2,outs,e0,bd,hs⟩:=hs;cases e0;have K1:HR (fun _=>False) base w [] []:=⟨⟨rfl,fun b h=>h.elim,s.hr.le,fun i x r hi=>by simp at hi,fun i i' x x' b h1=>by simp at h1⟩,fun _=>[],⟨fun i x b hi=>by simp at hi,fun i x z2 ar b hi=>by simp at hi⟩,fun _ _=>rfl,nofun⟩;refine(hs (fun _=>False) base w [] #[ux, .int .i64 n] s.inv s.b0 K1 rfl (fun i y u hy hu=> ?_)).mono fun e2 w'⟨v2,h1,he,hb,aI,a2,k1,c1⟩=> ?_;match i,hy,hu with
 |0,hy,hu=>simp[gP,thaw,thawL]at hy;simp at hu;subst hy;subst hu;obtain⟨a',c',rfl⟩:=bB;simp only[VR,LR,cG];exact .inl ⟨by trivial,_,_,rfl⟩
 |1,hy,hu=>simp[gP,thaw,thawL]at hy;simp at hu;subst hy;subst hu;exact VR.mkInt _ _
 |i+2,hy,hu=>simp[gP]at hy
 obtain⟨g1,g2⟩:=s.hr.world c1.go.size (fun b hlt=>c1.go.block b hlt fun hm=>by
  rcases hm with hm|⟨i,x,hx,_⟩
  ·exact hm
  ·simp[gP,thaw,thawL]at hx)
 exact⟨v2,he,hb,g1,g2,aI _ _ _⟩
end
end Gi
