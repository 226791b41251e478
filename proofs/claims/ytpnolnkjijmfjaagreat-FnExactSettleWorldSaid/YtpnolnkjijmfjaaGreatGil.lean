/- Of this proof. -/
import Derived.Test.YtpnolnkjijmfjaaGreatGik
set_option linter.all false
namespace Gi
open Go Go.RowKit
variable {KI:KF}
section
variable {Γ:Ctx}{P:Program}{M0:Nat->Prop}{base:Nat}{Z:St}{a:Act}{w:World}{J:List (Option Nat)}
def HR0.rename {h:List Q0}(k:HR0 M0 base w J h){o z:Nat}{es es':List (List PV)}{r:Option Nat}(ho:h[o]? =some (.arr z es))(hr:J[o]? =some r)
 (a8:(∀b,Mu M0 (J++[r]) (h.set o .dead++[.arr z es']) b->Mu M0 J h b)->BI (Mu M0 (J++[r]) (h.set o .dead++[.arr z es'])) base w (J++[r]) (h.set o .dead++[.arr z es']) r (.arr z es')):
 HR0 M0 base w (J++[r]) (h.set o .dead++[.arr z es'])/\ Ch (Mu M0 J h) (Mu M0 (J++[r]) (h.set o .dead++[.arr z es'])) w w J (J++[r]) h (h.set o .dead++[.arr z es']):=by
 have hlt:o<h.length:=(Zb.1 ho).1;have get:∀{i:Nat}{x:Q0}{q:Option Nat},(h.set o .dead++[.arr z es'])[i]? =some x->(J++[r])[i]? =some q->(i=h.length/\ x= .arr z es'/\ q=r) \/(i=o/\ x= .dead) \/(i≠o/\ i<h.length/\ h[i]? =some x/\ J[i]? =some q):=by
  intro i x q hx hq;by_cases hi:i<h.length;rw[Ze (by simpa using hi)]at hx;rw[Ze (by rw[k.len];exact hi)]at hq;by_cases e:o=i;subst e;rw[Zd hlt]at hx;cases hx;exact .inr (.inl ⟨rfl,rfl⟩);rw[Za e]at hx;exact .inr (.inr ⟨fun e'=>e e'.symm,hi,hx,hq⟩);rw[Zm (by simp;omega)]at hx;have h1:=(Zb.1 hx).1;simp at h1;have:i=h.length:=by omega
  subst this;simp at hx;rw[<-k.len]at hq;simp at hq;exact .inl ⟨rfl,hx.symm,hq.symm⟩
 have mu:∀b,Mu M0 (J++[r]) (h.set o .dead++[.arr z es']) b->Mu M0 J h b:=by intro b hm;rcases hm with hm|⟨i,x,hi,hx,aH⟩;exact .inl hm;rcases get hi aH with⟨_,rfl,e⟩|⟨_,rfl⟩|⟨_,_,h1,h2⟩;exact .inr ⟨o,_,ho,rfl,by rw[hr,<-e]⟩;cases hx;exact .inr ⟨i,x,h1,hx,h2⟩
 have c:Ch (Mu M0 J h) (Mu M0 (J++[r]) (h.set o .dead++[.arr z es'])) w w J (J++[r]) h (h.set o .dead++[.arr z es']):=by refine⟨⟨Zi _,fun b _ hm=>mu b hm,fun _ _ _=>rfl⟩,fun b cur aG=>⟨cur,aG,rfl⟩,fun i q x h1 h2 _=> ?_,fun _ _ _ _ _ _ _ _ _ h=>h⟩;have hi:i<h.length:=(Zb.1 h2).1;rw[Ze (by rw[k.len];exact hi),Ze (by simpa using hi)];by_cases e:o=i;subst e;exact⟨.dead,h1,Zd hlt,by rw[ho]at h2;cases h2;trivial⟩;exact⟨x,h1,by rw[Za e];exact h2,wx.refl x⟩
 refine⟨⟨by simp[k.len],fun b hm=>⟨(k.old b hm).1,fun i x hi hx aH=> ?_⟩,k.le,fun i x q hi hq=> ?_,fun i i' x x' b h1 h2 m1 m2 r1 r2=> ?_⟩,c⟩;rcases get hi aH with⟨_,rfl,e⟩|⟨_,rfl⟩|⟨_,_,g1,g2⟩;exact(k.old b hm).2 o _ ho rfl (by rw[hr,<-e]);cases hx;exact(k.old b hm).2 i x g1 hx g2;rcases get hi hq with⟨_,rfl,rfl⟩|⟨_,rfl⟩|⟨_,_,h1,h2⟩;exact a8 mu;trivial;exact(k.objs i x q h1 h2).keep c (fun _ _ _=>rfl);rcases get h1 r1 with⟨e1,rfl,q1⟩|⟨_,rfl⟩|⟨n1,l1,g1,p1⟩;rcases get h2 r2 with⟨e2,rfl,q2⟩|⟨_,rfl⟩|⟨n2,l2,g2,p2⟩;omega;cases m2;exact absurd (k.apart i' o x' _ b g2 ho m2 rfl p2 (by rw[hr,<-q1])) n2;cases m1;rcases get h2 r2 with⟨e2,rfl,q2⟩|⟨_,rfl⟩|⟨n2,l2,g2,p2⟩;exact absurd (k.apart i o x _ b g1 ho m1 rfl p1 (by rw[hr,<-q2])) n1;cases m2;exact k.apart i i' x x' b g1 g2 m1 m2 p1 p2
def HR.rename {h:List Q0}(k:HR M0 base w J h){o z:Nat}{es es':List (List PV)}{r:Option Nat}(ho:h[o]? =some (.arr z es))(hr:J[o]? =some r)
 (a8:(∀b,Mu M0 (J++[r]) (h.set o .dead++[.arr z es']) b->Mu M0 J h b)->BI (Mu M0 (J++[r]) (h.set o .dead++[.arr z es'])) base w (J++[r]) (h.set o .dead++[.arr z es']) r (.arr z es')):
 HR M0 base w (J++[r]) (h.set o .dead++[.arr z es'])/\ Ch (Mu M0 J h) (Mu M0 (J++[r]) (h.set o .dead++[.arr z es'])) w w J (J++[r]) h (h.set o .dead++[.arr z es']):=by
 obtain⟨a,c⟩:=k.toHR0.rename ho hr a8;obtain⟨κ,d,n⟩:=k.deep;have hlt:o<h.length:=(Zb.1 ho).1;have get:∀{i:Nat}{x:Q0}{q:Option Nat},(h.set o .dead++[.arr z es'])[i]? =some x->(J++[r])[i]? =some q->(i=h.length/\ x= .arr z es'/\ q=r) \/(i=o/\ x= .dead) \/(i≠o/\ i<h.length/\ h[i]? =some x/\ J[i]? =some q):=by
  intro i x q hx hq;by_cases hi:i<h.length;rw[Ze (by simpa using hi)]at hx;rw[Ze (by rw[k.len];exact hi)]at hq;by_cases e:o=i;subst e;rw[Zd hlt]at hx;cases hx;exact .inr (.inl ⟨rfl,rfl⟩);rw[Za e]at hx;exact .inr (.inr ⟨fun e'=>e e'.symm,hi,hx,hq⟩);rw[Zm (by simp;omega)]at hx;have h1:=(Zb.1 hx).1;simp at h1;have:i=h.length:=by omega
  subst this;simp at hx;rw[<-k.len]at hq;simp at hq;exact .inl ⟨rfl,hx.symm,hq.symm⟩
 refine⟨⟨a,fun b=>if κ b=[o]then [h.length]else κ b,⟨fun i x b hi hx aH=> ?_,fun i x z1 b8 b hi hd aH=> ?_⟩,fun b hb=>by simp[n.new b hb],fun b i c X z1 b8 e hi=> ?_⟩,c⟩;rcases get hi aH with⟨rfl,rfl,e⟩|⟨_,rfl⟩|⟨aq,_,g1,g2⟩;exact if_pos (d.root o _ b ho rfl (by rw[hr,<-e]));cases hx;have:=d.root i x b g1 hx g2;rw[if_neg (by rw[this];simp;exact aq)];exact this;rcases get hi aH with⟨rfl,rfl,e⟩|⟨_,rfl⟩|⟨aq,_,g1,g2⟩;cases hd;cases hd;exact(d.tree i x z1 b8 b g1 hd g2).go (Zi _) (fun _ _=>rfl) ((k.objs i x _ g1 g2).rows hd).2 (fun c b' X _ e=>⟨by rw[if_neg (by rw[e];simp)];exact e,rfl⟩);have e':κ b=i::c::X:=by revert e;split;intro e;simp at e;exact id
 obtain⟨q,hq⟩:=a.mem hi;rcases get hi hq with⟨_,e0,_⟩|⟨_,e0⟩|⟨_,_,g1,_⟩;cases e0;cases e0;exact n.zone b i c X z1 b8 e' g1
def src (s:SR Γ M0 base Z a w J){x:V}{ys:List (List PV)}{u:Value}{z:Nat}(r:VR (Mu M0 J Z.h) w J Z.h x u)(hx:asList Z.h x=some ys)(hz:∀e∈ys,e.length=z)(af:0<z):
 ∃(ad:Option Addr)(c:Nat)(news:List Value),u= .slice ad ys.length c/\ news.length=ys.length*z/\ (∀w',(∀b,b<w.heap.size->w'.heap[b]? =w.heap[b]?)->(Builtin.firstCells z ys.length u).run P w'= .ok news.toArray w')/\ (∀v∈news,v.oneCell'=true)/\
  (∀(i:Nat)(e:List PV)(j:Nat)(p:PV),ys[i]? =some e->e[j]? =some p->∃v,news[i*z+j]? =some v/\ cG (Mu M0 J Z.h) w p v)/\
  ∀(k:Nat)v,news[k]? =some v->∀b o c',u= .slice (some ⟨b,o,none⟩) ys.length c'->w.cell? ⟨b,o+k,none⟩=some v:=by
 by_cases aq:ys=[];obtain⟨ad,c,rfl⟩:=(xW s r hx).slice;subst aq;refine⟨ad,c,[],rfl,by simp,fun w' _=> ?_,by simp,fun i e j p he=>by simp at he,fun k v hv=>by simp at hv⟩;cases ad with
 |none=>simp[Builtin.firstCells]
 |some ad=>simp[Builtin.firstCells,loadCells,loadCellsFrom]
 have bq:∃b o c,u= .slice (some ⟨b,o,none⟩) ys.length c/\ b<w.heap.size/\ ∀(i:Nat)(e:List PV)(j:Nat)(p:PV),ys[i]? =some e->e[j]? =some p->∃v,w.cell? ⟨b,o+i*z+j,none⟩=some v/\ cG (Mu M0 J Z.h) w p v:=by
  unfold asList at hx;split at hx;rename_i l;split at hx;rename_i es' aP;cases hx;by_cases hm:L.mut Z.h l=true;cases l with
  |arr o=>
   obtain⟨r0,ob,ak,a8,hs⟩:=r;simp only[L.view,a8]at aP;simp only[L.mut,a8]at hm;cases ob with
   |arr z' es=>
    simp at aP;subst aP;obtain⟨b9,an,kx⟩:=s.hr.objs o _ r0 a8 ak;obtain⟨e0,es',aS⟩:=YP aq;have ba:z'=z:=by have h1:=an e0 (by rw[aS];simp);rw[<-h1];exact hz e0 (by rw[aS];simp)
    subst ba;cases r0 with
    |none=>exact absurd kx aq
    |some b=>obtain⟨_,cur,cap,a2,h1,h2,h3,h4⟩:=kx;obtain⟨cur',ai,ar,_,_,_,rfl⟩:=hs;refine⟨b,0,_,rfl,a2.lt,fun i e j p he hp=> ?_⟩;obtain⟨v,hv,hr⟩:=h4 i e j p he hp;exact⟨v,by rw[a2.cell];simpa using hv,hr⟩
   |bA z' es=>
    simp at aP;subst aP;obtain⟨b9,an,kx⟩:=s.hr.objs o _ r0 a8 ak;obtain⟨e0,es',aS⟩:=YP aq;have ba:z'=z:=by have h1:=an e0 (by rw[aS];simp);rw[<-h1];exact hz e0 (by rw[aS];simp)
    subst ba;cases r0 with
    |none=>exact absurd kx aq
    |some b=>obtain⟨_,cur,cap,a2,h1,h2,h3,h4⟩:=kx;obtain⟨cur',ai,ar,_,_,_,rfl⟩:=hs;refine⟨b,0,_,rfl,a2.lt,fun i e j p he hp=> ?_⟩;obtain⟨v,hv,hr⟩:=h4 i e j p he hp;exact⟨v,by rw[a2.cell];simpa using hv,hr⟩
   |_=>simp at hm
  |_=>simp[L.mut]at hm
  obtain⟨b,o,c,e,_,hlt,hc⟩:=(ro s.hr r aP (by simpa using hm)).cells hz aq;exact⟨b,o,c,e,hlt,hc⟩;cases hx;cases hx
 obtain⟨b,o,c,rfl,hlt,hc⟩:=bq;have au:∀k,k<ys.length*z->∃v,w.cell? ⟨b,o+k,none⟩=some v/\ v.oneCell'=true:=by
  intro k hk;have hi:k/z<ys.length:=(YY af).2 hk;have hj:k%z<z:=Qh _ af;have he:ys[k/z]? =some ys[k/z]:=by simp[hi]
  have hl:(ys[k/z]).length=z:=hz _ (Zf hi);obtain⟨v,hv,hr⟩:=hc (k/z) _ (k%z) ((ys[k/z])[k%z]'(by rw[hl];exact hj)) he (by simp[hl,hj]);refine⟨v,?_,hr.one⟩;rw[Nat.add_assoc,YH,Qz]at hv;exact hv
 refine⟨_,c,(List.range (ys.length*z)).map fun k=>(w.cell? ⟨b,o+k,none⟩).getD undef,rfl,by simp,fun w' br=> ?_,fun v hv=> ?_,fun i e j p he hp=> ?_,fun k v hv b1 o1 c1 e1=> ?_⟩;have:=run_loadCells_list (P:=P) w' ⟨b,o,none⟩ ((List.range (ys.length*z)).map fun k=>(w.cell? ⟨b,o+k,none⟩).getD undef) (fun j v hv=>by
  simp only[Zp,Zl]at hv
  obtain⟨k,hk,rfl⟩:=hv
  obtain⟨h1,h2⟩:=Zb.1 hk
  simp at h1 h2
  subst h2
  obtain⟨v,hv,_⟩:=au j h1
  rw[Addr.add_mid,World.cell?_of_block (a:=⟨b,o+j,none⟩) (br b hlt),hv]
  rfl)
 simp only[Zr,List.length_range]at this;simp only[Builtin.firstCells];exact this;obtain⟨k,hk,rfl⟩:=ZV.1 hv;obtain⟨v,hv,h1⟩:=au k (by simpa using hk);rw[hv];exact h1;obtain⟨v,hv,hr⟩:=hc i e j p he hp;have hi:i<ys.length:=(Zb.1 he).1;have hj:j<z:=by rw[<-hz e (Zn he)];exact(Zb.1 hp).1
 have bb:i*z+j<ys.length*z:=by
  calc i*z+j<i*z+z:=by omega
   _=(i+1)*z:=by rw[Nat.add_mul,Yl]
   _<=ys.length*z:=ZE _ hi
 refine⟨v,?_,hr⟩;rw[Nat.add_assoc]at hv;simp[bb,hv];cases e1;simp only[Zp,Zl]at hv;obtain⟨x,hx,rfl⟩:=hv;obtain⟨h1,h2⟩:=Zb.1 hx;simp at h1 h2;subst h2;obtain⟨v,hv,_⟩:=au k h1;simp[hv]
def CS {t t' ty e:TypeId}{i:TypeInfo}(ht:P.underlying t=some (.slice e))(a6:P.underlying t'=some .string \/∃e',P.underlying t'=some (.slice e'))(hi:P.info? e=some i){g n cap m:Nat}{cur:Array Value}(a2:jb w g cur){u:Value}(hu:∀w,(Builtin.lenOf u).run P w= .ok m w){news:List Value}
 (hl:news.length=m*i.size) (hf:(Builtin.firstCells i.size m u).run P w= .ok news.toArray w) (h1:∀v∈news,v.oneCell'=true) (aa:n+m<=cap) (av:n*i.size+news.length<=cur.size):
 (Builtin.append_ #[t,t'] ty #[.slice (some ⟨g,0,none⟩) n cap,u]).run P w= .ok (.slice (some ⟨g,0,none⟩) (n+m) cap) (w.setCells g (n*i.size) news):=by
 have aD:=run_storeCells_cells (P:=P) g (n*i.size) news 0 w (fun j hj=>by
  rw[a2.cell]
  have:n*i.size+j<cur.size:=by omega
  simp[this]) (fun j _=>a2.free _) h1
 simp only[Yx]at aD;have e0:(⟨g,0,none⟩:Addr).add (n*i.size)=⟨g,n*i.size,none⟩:=by rw[Addr.add_mid];simp
 rcases a6 with a6|⟨e',a6⟩;simp[Builtin.append_,run_underlying ht,run_underlying a6,Go.sizeOf,typeInfo,hi,hu,aa,hf,e0,aD];simp[Builtin.append_,run_underlying ht,run_underlying a6,Go.sizeOf,typeInfo,hi,hu,aa,hf,e0,aD]
def Pu {ad:Option Addr}{t t' ty e:TypeId}{i:TypeInfo}(ht:P.underlying t=some (.slice e))(a6:P.underlying t'=some .string \/∃e',P.underlying t'=some (.slice e'))(hi:P.info? e=some i){u:Value}(hu:∀w,(Builtin.lenOf u).run P w= .ok 0 w)(hf:(Builtin.firstCells i.size 0 u).run P w= .ok #[] w):
 (Builtin.append_ #[t,t'] ty #[.slice ad 0 0,u]).run P w= .ok (.slice ad 0 0) w:=by rcases a6 with a6|⟨e',a6⟩<;>cases ad<;>simp[Builtin.append_,run_underlying ht,run_underlying a6,Go.sizeOf,typeInfo,hi,hu,hf,storeCells]
def zd {t t' ty e:TypeId}{i:TypeInfo}{z:Value}(ht:P.underlying t=some (.slice e))(a6:P.underlying t'=some .string \/∃e',P.underlying t'=some (.slice e'))(hi:P.info? e=some i)(hz:i.zero=some z){s:Value}{bs:Option Addr}{n cap m:Nat}(hs:s= .slice bs n cap){u:Value}(hu:∀w,(Builtin.lenOf u).run P w= .ok m w)
 {olds news:List Value} (bl:(Builtin.firstCells i.size n s).run P w.drew= .ok olds.toArray w.drew) (hf:(Builtin.firstCells i.size m u).run P w.drew= .ok news.toArray w.drew)
 (hg:cap<n+m) (aB:n+m<=9223372036854775807) (av:(n+m)*i.bytes<=140737488355328):
 (Builtin.append_ #[t,t'] ty #[s,u]).run P w= .ok (.slice (some ⟨w.heap.size,0,none⟩) (n+m) (grownCap w (n+m) cap e))
  (w.drew.alloc (.cells (olds.toArray++news.toArray++Builtin.zeroCells z.cells (grownCap w (n+m) cap e-(n+m))) e)):=by
 have hn:¬(n+m<=cap):=by omega
 have aT:¬(9223372036854775807<((n:Int)+(m:Int))):=by omega
 have aU:¬(281474976710656<Builtin.nextslicecap (n+m) cap*i.bytes):=by have:=growslice_fits hg av;omega
 subst hs;rcases a6 with a6|⟨e',a6⟩;simp[Builtin.append_,run_underlying ht,run_underlying a6,Go.sizeOf,typeInfo,zeroValue,hi,hz,hu,hn,aT,aU,Question.forced,hf,bl,newRow,grownCap];congr 2;apply Array.ext';simp[List.append_assoc];simp[Builtin.append_,run_underlying ht,run_underlying a6,Go.sizeOf,typeInfo,zeroValue,hi,hz,hu,hn,aT,aU,Question.forced,hf,bl,newRow,grownCap];congr 2;apply Array.ext';simp[List.append_assoc]
def GG {M:Nat->Prop}{z:Nat}{es ys:List (List PV)}{cur:List Value}(an:∀e∈es,e.length=z)
 (h1:∀(i:Nat)(e:List PV)(j:Nat)(p:PV),es[i]? =some e->e[j]? =some p->∃v,cur[i*z+j]? =some v/\ cG M w p v)
 (h2:∀(i:Nat)(e:List PV)(j:Nat)(p:PV),ys[i]? =some e->e[j]? =some p->∃v,cur[(es.length+i)*z+j]? =some v/\ cG M w p v):
 ∀(i:Nat)(e:List PV)(j:Nat)(p:PV),(es++ys)[i]? =some e->e[j]? =some p->∃v,cur[i*z+j]? =some v/\ cG M w p v:=by intro i e j p he hp;by_cases hi:i<es.length;rw[Ze hi]at he;exact h1 i e j p he hp;rw[Zm (by omega)]at he;have:=h2 _ e j p he hp;rwa[show es.length+(i-es.length)=i by omega]at this
def adW (w w':World)(J J':List (Option Nat))(r0:Option Nat)(z n:Nat)(news:List Value):Prop:=
 ∃r',J'=J++[r']/\ (∀b',r'=some b'->(r0=some b' \/w.heap.size<=b')/\ (∀c,c<n*z->∀b0,r0=some b0->w'.cell? ⟨b',c,none⟩=w.cell? ⟨b0,c,none⟩)/\
  (∀(c:Nat)v,news[c]? =some v->w'.cell? ⟨b',n*z+c,none⟩=some v))/\ (∀b,b<w.heap.size->r0≠some b->w'.heap[b]? =w.heap[b]?)
def xU [KF](P:Program)(M0:Nat->Prop)(base:Nat)(Z:St)(w:World)(J:List (Option Nat))(v:V)(h':List Q0)(s:Sem Next)(E:World->List (Option Nat)->Prop):Prop:=
 ∃n u w' J',s.run P w= .ok n w'/\ (n= .value u \/(n= .skip/\ u=undef))/\ Below base w w'/\ HR M0 base w' J' h'/\ Ch (Mu M0 J Z.h) (Mu M0 J' h') w w' J J' Z.h h'/\ VR (Mu M0 J' h') w' J' h' v u/\ E w' J'
def xU.turns {v:V}{h':List Q0}{s:Sem Next}{E:World->List (Option Nat)->Prop}(t:xU P M0 base Z w J v h' s E):nU P M0 base Z w J v h' s:=by obtain⟨n,u,w',J',h1,h2,h3,h4,h5,h6,_⟩:=t;exact⟨n,u,w',J',h1,h2,h3,h4,h5,h6⟩
def append_nil (s:SR Γ M0 base Z a w J){o:Oper}{t t' e:TypeId}{i:TypeInfo}{v0:Value}{ox oy:Operand}{ys:List (List PV)}{news:List Value}(hu:P.underlying t=some (.slice e))(a6:P.underlying t'=some .string \/∃e',P.underlying t'=some (.slice e'))(hi:P.info? e=some i)(aE:i.zero=some v0)(aQ:v0.cells.size=i.size)
 (cD:∀{r:Value}{w':World},(Builtin.append_ #[t,t'] o.type #[a.eval ox,a.eval oy]).run P w= .ok r w'->(execOp a.eval o).run P w= .ok (.value r) w') (hlen:∀w,(Builtin.lenOf (a.eval oy)).run P w= .ok ys.length w) (ao:∀e∈ys,e.length=i.size) (af:0<i.size) (aw:news.length=ys.length*i.size)
 (a1:∀w',(∀b,b<w.heap.size->w'.heap[b]? =w.heap[b]?)->(Builtin.firstCells i.size ys.length (a.eval oy)).run P w'= .ok news.toArray w') (ab:∀v∈news,v.oneCell'=true)
 (a7:∀(i':Nat)(e:List PV)(j:Nat)(p:PV),ys[i']? =some e->e[j]? =some p->∃v,news[i'*i.size+j]? =some v/\ cG (Mu M0 J Z.h) w p v)
 (rx:∃ad,a.eval ox= .slice ad 0 0) (a5:ys.length*i.bytes<=140737488355328) (aB:ys.length<=9223372036854775807):
 xU P M0 base Z w J (.one (.arr Z.h.length)) (Z.h++[.arr i.size ys]) (execOp a.eval o) (fun w' J'=>adW w w' J J' none i.size 0 news):=by
 obtain⟨ad,ex⟩:=rx;by_cases aV:ys=[];subst aV;have bc:news=[]:=Yg (by simpa using aw);subst bc;have hr:=Pu (ad:=ad) (P:=P) (ty:=o.type) (w:=w) hu a6 hi hlen (a1 w (fun _ _=>rfl));obtain⟨g1,g2⟩:=s.hr.push (w':=w) (Zi _) (fun _ _=>rfl) none (.arr i.size []) (fun b e=>by cases e) (fun _=>⟨af,by simp,by trivial⟩);refine⟨_,_,_,_,cD (by rw[ex];exact hr), .inl rfl,Below.refl _ _,g1,g2,⟨none, .arr i.size [],?_,by simp,_,rfl⟩,none,rfl,fun b' e=>(by cases e),fun _ _ _=>rfl⟩;rw[<-s.hr.len];simp;have aW:0<ys.length:=QM.2 aV;have hr:=zd (P:=P) (ty:=o.type) (w:=w) hu a6 hi aE ex hlen (olds:=[]) (by rw[ex];cases ad<;>simp[Builtin.firstCells,loadCells,loadCellsFrom]) (a1 w.drew (fun _ _=>rfl)) (by omega) (by omega) (by simpa using a5);simp only[ZK]at hr;have ax:=grownCap_ge w ys.length 0 e;have bd:=grownCap_le_maxLen w ys.length 0 e (by simp only[maxLen];omega);obtain⟨g1,g2,g3⟩:=Ic (h:=Z.h) s.hr (w':=w.drew.alloc (.cells ((([]:List Value)).toArray++news.toArray++Builtin.zeroCells v0.cells (grownCap w ys.length 0 e-ys.length)) e)) (by simp)
  (fun b hb=>iw w.drew _ b hb) (z:=i.size) (cap:=grownCap w ys.length 0 e) (es:=ys) af ao (jb.new w.drew _ e)
  (by
   simp only[Array.size_append,List.size_toArray,size_zeroCells,aQ,aw,Zx,ZK,<-Nat.add_mul]
   congr 1;omega) ax bd
  (fun i' e' j p aR hp=>by
   obtain⟨v,hv,ag⟩:=a7 i' e' j p aR hp
   refine⟨v,?_,ag⟩
   have hlt:=(Zb.1 hv).1
   rw[ZW (by simpa using hlt)]
   simpa using hv)
 refine⟨_,_,_,_,cD hr, .inl rfl,⟨rfl,rfl,rfl,by simp,fun k hk=>iw w.drew _ k (ZD hk s.hr.le)⟩,g1,g2,g3,_,rfl,fun b' e=> ?_,fun b hb _=>iw w.drew _ b hb⟩;cases e;refine⟨.inr (Zi _),fun c _ b0 e=>(by cases e),fun c v hv=> ?_⟩;rw[jb.cell (show jb _ w.heap.size _ from jb.new w.drew _ e)];have hlt:=(Zb.1 hv).1;rw[Nat.zero_mul,ZK,ZW (by simpa using hlt)];simpa using hv
def BJ (s:SR Γ M0 base Z a w J){o:Oper}{t t' e:TypeId}{i:TypeInfo}{v0:Value}{ox oy:Operand}{ys:List (List PV)}{news:List Value}(hu:P.underlying t=some (.slice e))(a6:P.underlying t'=some .string \/∃e',P.underlying t'=some (.slice e'))(hi:P.info? e=some i)(aE:i.zero=some v0)(aQ:v0.cells.size=i.size)
 (cD:∀{r:Value}{w':World},(Builtin.append_ #[t,t'] o.type #[a.eval ox,a.eval oy]).run P w= .ok r w'->(execOp a.eval o).run P w= .ok (.value r) w') (hlen:∀w,(Builtin.lenOf (a.eval oy)).run P w= .ok ys.length w) (ao:∀e∈ys,e.length=i.size) (af:0<i.size) (aw:news.length=ys.length*i.size)
 (a1:∀w',(∀b,b<w.heap.size->w'.heap[b]? =w.heap[b]?)->(Builtin.firstCells i.size ys.length (a.eval oy)).run P w'= .ok news.toArray w') (ab:∀v∈news,v.oneCell'=true)
 (a7:∀(i':Nat)(e:List PV)(j:Nat)(p:PV),ys[i']? =some e->e[j]? =some p->∃v,news[i'*i.size+j]? =some v/\ cG (Mu M0 J Z.h) w p v)
 {ob:Nat} {es:List (List PV)} (a8:Z.h[ob]? =some (.arr i.size es)) (rx:LR (Mu M0 J Z.h) w J Z.h (.arr ob) (a.eval ox)) (a5:(es.length+ys.length)*i.bytes<=140737488355328) (aB:es.length+ys.length<=9223372036854775807):
 xU P M0 base Z w J (.one (.arr Z.h.length)) (Z.h.set ob .dead++[.arr i.size (es++ys)]) (execOp a.eval o) (fun w' J'=>∃r0,J[ob]? =some r0/\ adW w w' J J' r0 i.size es.length news):=by
 obtain⟨r0,bu,ak,aX,bm⟩:=rx;rw[a8]at aX;cases aX;obtain⟨_,an,kx⟩:=s.hr.objs ob _ r0 a8 ak;have aY:∀e∈es++ys,e.length=i.size:=fun e1 he1=>by rcases Ye.1 he1 with h1|h1;exact an e1 h1;exact ao e1 h1
 have bn:∀(r1:Option Nat),(J++[r1])[Z.h.length]? =some r1:=fun r1=>by rw[<-s.hr.len];simp
 have aZ:∀bf,(Z.h.set ob .dead++[bf])[Z.h.length]? =some bf:=fun bf=>by rw[Zm (by simp)];simp
 have grow:∀{bs:Option Addr}{cap:Nat}{olds:List Value},a.eval ox= .slice bs es.length cap->cap<es.length+ys.length->olds.length=es.length*i.size->
  (Builtin.firstCells i.size es.length (a.eval ox)).run P w.drew= .ok olds.toArray w.drew->
  (∀(i':Nat)(e:List PV)(j:Nat)(p:PV),es[i']? =some e->e[j]? =some p->∃v,olds[i'*i.size+j]? =some v/\ cG (Mu M0 J Z.h) w p v)->
  (∀c,c<es.length*i.size->∀b0,r0=some b0->olds[c]? =w.cell? ⟨b0,c,none⟩)->
  xU P M0 base Z w J (.one (.arr Z.h.length)) (Z.h.set ob .dead++[.arr i.size (es++ys)]) (execOp a.eval o) (fun w' J'=>∃r0,J[ob]? =some r0/\ adW w w' J J' r0 i.size es.length news):=by
  intro bs cap olds ex hlt ay bo b2 aI;have hr:=zd (P:=P) (ty:=o.type) (w:=w) hu a6 hi aE ex hlen (by rw[ex]at bo⊢;exact bo) (a1 w.drew (fun _ _=>rfl)) hlt (by omega) a5;have ax:=grownCap_ge w (es.length+ys.length) cap e;have bd:=grownCap_le_maxLen w (es.length+ys.length) cap e (by simp only[maxLen];omega);obtain⟨k2,c2⟩:=s.hr.c6 (w':=w) (ob':= .dead) a8 ak rfl trivial rfl (fun _ _=>rfl) (fun b cur _ aG=>⟨cur,aG,rfl⟩) (fun _=>trivial);obtain⟨g1,g2,g3⟩:=Ic (h:=Z.h.set ob .dead) k2 (w':=w.drew.alloc (.cells (olds.toArray++news.toArray++Builtin.zeroCells v0.cells (grownCap w (es.length+ys.length) cap e-(es.length+ys.length))) e)) (by simp)
   (fun b hb=>iw w.drew _ b hb) (z:=i.size) (cap:=grownCap w (es.length+ys.length) cap e) (es:=es++ys) af aY (jb.new w.drew _ e)
   (by
    simp only[Array.size_append,List.size_toArray,size_zeroCells,aQ,aw,ay,<-Nat.add_mul]
    congr 1;omega) (by simpa using ax) bd
   (fun i' e' j p aR hp=>by
    have key:=GG (M:=Mu M0 J Z.h) (w:=w) (z:=i.size) (es:=es) (ys:=ys) (cur:=olds++news) an
     (fun i1 e1 j1 p1 h1 h2=>by
      obtain⟨v,hv,ag⟩:=b2 i1 e1 j1 p1 h1 h2
      exact⟨v,by rw[Ze (Zb.1 hv).1];exact hv,ag⟩)
     (fun i1 e1 j1 p1 h1 h2=>by
      obtain⟨v,hv,ag⟩:=a7 i1 e1 j1 p1 h1 h2
      refine⟨v,?_,ag⟩
      rw[Zm (by rw[ay,Nat.add_mul];omega),ay]
      rw[show(es.length+i1)*i.size+j1-es.length*i.size=i1*i.size+j1 by rw[Nat.add_mul];omega]
      exact hv) i' e' j p aR hp
    obtain⟨v,hv,ag⟩:=key
    refine⟨v,?_,cG.go c2.go p v ag⟩
    have hlt:=(Zb.1 hv).1
    rw[ZW (by simpa using hlt)]
    simpa using hv)
  refine⟨_,_,_,_,cD hr, .inl rfl,⟨rfl,rfl,rfl,by simp,fun k hk=>iw w.drew _ k (ZD hk s.hr.le)⟩,g1,c2.trans g2,by simpa using g3,r0,ak,_,rfl,fun b' e=> ?_,fun b hb _=>iw w.drew _ b hb⟩;cases e;refine⟨.inr (Zi _),fun c hc b0 e0=> ?_,fun c v hv=> ?_⟩;rw[jb.cell (show jb _ w.heap.size _ from jb.new w.drew _ e),<-aI c hc b0 e0,ZW (by simp[ay];omega),ZW (by simp[ay];omega)];simp;rw[jb.cell (show jb _ w.heap.size _ from jb.new w.drew _ e)];have hlt:=(Zb.1 hv).1;rw[ZW (by simp[ay];omega),YN (by simp[ay])];simp[ay,hv]
 cases r0 with
 |none=>obtain rfl:es=[]:=kx;obtain⟨ad,ex⟩:=bm;by_cases aV:ys=[];subst aV;have bc:news=[]:=Yg (by simpa using aw);subst bc;have hr:=Pu (ad:=ad) (P:=P) (ty:=o.type) (w:=w) hu a6 hi hlen (a1 w (fun _ _=>rfl));obtain⟨g1,g2⟩:=s.hr.rename (es':=[]) a8 ak (fun _=>⟨af,by simp,by trivial⟩);exact⟨_,_,_,_,cD (by rw[ex];exact hr), .inl rfl,Below.refl _ _,g1,g2,⟨none, .arr i.size [],bn none,aZ _,_,rfl⟩,none,ak,none,rfl,fun b' e=>(by cases e),fun _ _ _=>rfl⟩;have aW:0<ys.length:=QM.2 aV;exact grow (olds:=[]) (by simpa using ex) (by simpa using aW) (by simp) (by rw[ex];cases ad<;>simp[Builtin.firstCells,loadCells,loadCellsFrom]) (fun i1 e1 j1 p1 h1=>by simp at h1) (fun c hc=>by simp at hc)
 |some b=>
  obtain⟨az,cur,cap,a2,h1,h2,h3,h4⟩:=kx;obtain⟨cur',ai,ar,bt,bw,bx,ex⟩:=bm;cases a2.inj ar;have ax:ai=cap:=Yr af (bt.symm.trans h1);subst ax;by_cases aa:es.length+ys.length<=ai;have av:es.length*i.size+news.length<=cur.size:=by rw[aw,h1,<-Nat.add_mul];exact ZE _ aa
  have hr:=CS (P:=P) (ty:=o.type) (w:=w) hu a6 hi a2 hlen aw (a1 w (fun _ _=>rfl)) ab aa av;obtain⟨al,ae,aF,aj⟩:=gY b news (es.length*i.size) w cur a2 av;have hold:∀(i1:Nat)(e1:List PV)(j1:Nat),es[i1]? =some e1->j1<e1.length->al[i1*i.size+j1]? =cur[i1*i.size+j1]? :=by
   intro i1 e1 j1 he1 bg;rw[aj,if_neg];have hi1:i1<es.length:=(Zb.1 he1).1;rw[an e1 (Zn he1)]at bg;have:i1*i.size+j1<es.length*i.size:=by
    calc i1*i.size+j1<i1*i.size+i.size:=by omega
     _=(i1+1)*i.size:=by rw[Nat.add_mul,Yl]
     _<=es.length*i.size:=ZE _ hi1
   omega
  obtain⟨k2,c2⟩:=s.hr.c6 (w':=w.setCells b (es.length*i.size) news) (ob':= .arr i.size es) a8 ak rfl ⟨rfl,rfl⟩ (gF b _ _ w).symm
   (fun k hk=>gE b _ _ w k (fun e=>hk (by rw[e])))
   (fun k c e aG=>by cases e;rw[aG.inj a2];exact⟨al,ae,aF⟩)
   (fun c=>⟨af,an,az,al,ai,ae,by rw[aF];exact h1,h2,h3,fun i1 e1 j1 p1 he1 aJ=>by
    obtain⟨v,hv,ag⟩:=h4 i1 e1 j1 p1 he1 aJ
    exact⟨v,by rw[hold i1 e1 j1 he1 (Zb.1 aJ).1];exact hv,cG.go c.go p1 v ag⟩⟩)
  have bh:Z.h.set ob (.arr i.size es)=Z.h:=by apply YL;intro k;by_cases hk:ob=k;subst hk;rw[Zd (Zb.1 a8).1,a8];rw[Za hk]
  rw[bh]at k2 c2;obtain⟨g1,g2⟩:=k2.rename (es':=es++ys) a8 ak (fun mu=>by
   refine⟨af,aY,az,al,ai,ae,by rw[aF];exact h1,by simpa using aa,h3,fun i1 e1 j1 p1 he1 aJ=> ?_⟩
   have key:=GG (M:=Mu M0 J Z.h) (w:=w.setCells b (es.length*i.size) news) (z:=i.size) (es:=es) (ys:=ys) (cur:=al.toList) an
    (fun i1 e1 j1 p1 q1 q2=>by
     obtain⟨v,hv,ag⟩:=h4 i1 e1 j1 p1 q1 q2
     exact⟨v,by rw[Array.getElem?_toList,hold i1 e1 j1 q1 (Zb.1 q2).1];exact hv,cG.go c2.go p1 v ag⟩)
    (fun i1 e1 j1 p1 q1 q2=>by
     obtain⟨v,hv,ag⟩:=a7 i1 e1 j1 p1 q1 q2
     refine⟨v,?_,cG.go c2.go p1 v ag⟩
     have hlt:=(Zb.1 hv).1
     rw[Array.getElem?_toList,aj,show(es.length+i1)*i.size+j1=es.length*i.size+(i1*i.size+j1) by rw[Nat.add_mul];omega,if_pos (by omega)]
     rw[show es.length*i.size+(i1*i.size+j1)-es.length*i.size=i1*i.size+j1 by omega]
     exact hv) i1 e1 j1 p1 he1 aJ
   obtain⟨v,hv,ag⟩:=key
   exact⟨v,by simpa using hv,ag.weak mu⟩)
  refine⟨_,_,_,_,cD (by rw[ex];exact hr), .inl rfl,fH b base az _ _ w w (Below.refl _ _),g1,c2.trans g2,⟨some b,_,bn _,aZ _,al,ai,ae,by rw[aF];exact h1,by simpa using aa,h3,by simp⟩,some b,ak,some b,rfl,fun b' e=> ?_,fun b' _ aq=>gE b _ _ w b' (fun e=>aq (by rw[e]))⟩;cases e;refine⟨.inl rfl,fun c hc b0 e0=> ?_,fun c v hv=> ?_⟩;cases e0;rw[ae.cell,a2.cell,aj,if_neg (by omega)];have hlt:=(Zb.1 hv).1;rw[ae.cell,aj,if_pos (by omega),show es.length*i.size+c-es.length*i.size=c by omega];exact hv;have ay:((cur.toList.take (es.length*i.size))).length=es.length*i.size:=by
   have:es.length*i.size<=cur.size:=by rw[h1];exact ZE _ h2
   simp;omega
  refine grow (olds:=cur.toList.take (es.length*i.size)) ex (by omega) ay ?_ (fun i1 e1 j1 p1 he1 aJ=> ?_) (fun c hc b0 e0=>by cases e0;rw[a2.cell,ZL,if_pos hc];simp);have:=run_loadCells_list (P:=P) w.drew ⟨b,0,none⟩ (cur.toList.take (es.length*i.size)) (fun j v hv=>by
   rw[Addr.add_mid]
   have:(w.drew).cell? ⟨b,0+j,none⟩=w.cell? ⟨b,0+j,none⟩:=rfl
   rw[this,a2.cell]
   rw[ZL]at hv
   split at hv
   ·simpa using hv
   ·cases hv)
  rw[ay]at this;rw[ex];simp only[Builtin.firstCells];exact this;obtain⟨v,hv,ag⟩:=h4 i1 e1 j1 p1 he1 aJ;refine⟨v,?_,ag⟩;have hi1:i1<es.length:=(Zb.1 he1).1;have bg:=(Zb.1 aJ).1;rw[an e1 (Zn he1)]at bg;have:i1*i.size+j1<es.length*i.size:=by
   calc i1*i.size+j1<i1*i.size+i.size:=by omega
    _=(i1+1)*i.size:=by rw[Nat.add_mul,Yl]
    _<=es.length*i.size:=ZE _ hi1
  rw[ZL,if_pos this];simpa using hv
def Na (s:SR Γ M0 base Z a w J){o:Oper}{d:Md}{v:V}{h':List Q0}{call:Nat->List V->Option V}{c:Call}{z bytes:Nat}{x y:Opd}(b3:o.op= .call c)
 (hc:jm P kf d o.op=some (.append z bytes x y)) (he:fa call Z (.append z bytes x y)=some (v,h')):nU P M0 base Z w J v h' (execOp a.eval o):=by
 rw[b3]at hc;simp only[jm]at hc;split at hc
 ·split at hc
  ·(repeat' (split at hc))<;>cases hc
  cases hc
 ·(repeat' (split at hc))<;>cases hc
 ·split at hc
  ·(repeat' (split at hc))<;>cases hc
  cases hc
 ·rename_i aK;split at hc
  ·rename_i ox oy t u aA aL;split at hc;rename_i e e' x0 y0 ht _ hx hy;split at hc;rename_i z0 b0 v0 aM aN hz;split at hc;rename_i b4;obtain⟨aQ,rfl⟩:=b4;cases hc;obtain⟨i,hi,aE,aC,b7⟩:∃i,P.info? e=some i/\ i.zero=some v0/\ i.size=z/\ i.bytes=bytes:=by
    unfold si at hz;unfold vX at aM;unfold S9 at aN;cases hi:P.info? e with
    |none=>simp[hi]at hz
    |some i=>simp[hi]at hz aM aN;exact⟨i,rfl,hz,aM,aN⟩
   subst aC b7;have hu:P.underlying t=some (.slice e):=by unfold lR at ht;split at ht<;>cases ht;assumption
   have cD:∀{r:Value}{w':World},(Builtin.append_ #[t,t] o.type #[a.eval ox,a.eval oy]).run P w= .ok r w'->(execOp a.eval o).run P w= .ok (.value r) w':=by intro r w' hr;have e2:c.args.map a.eval= #[a.eval ox,a.eval oy]:=Array.ext' (by rw[ZZ,aA];rfl);have e3:c.argTypes= #[t,t]:=Array.ext' aL;simp only[execOp,b3,resolve,aK,Sem.run_bind,Sem.run_pure,Result.andThen_ok,invoke,e3,e2,builtin,hr]
   have rx:=cR s hx;have ry:=cR s hy;have a6:P.underlying t=some .string \/∃e',P.underlying t=some (.slice e'):= .inr ⟨e,hu⟩;simp only[fa]at he;split at he;rename_i ys aO bj;rw[aO]at rx;split at he;rename_i ah;simp only[Zg,decide_eq_true_eq,Zu,beq_iff_eq]at ah;obtain⟨⟨⟨ao,af⟩,a5⟩,aB⟩:=ah;cases he;obtain⟨ad,cc,news,ey,aw,a1,ab,a7,_⟩:=src (P:=P) s ry bj ao af;exact xU.turns (append_nil s hu a6 hi aE aQ cD (by intro w;rw[ey];rfl) ao af aw a1 ab a7 rx a5 aB);cases he;rename_i ob ys aO bj;rw[aO]at rx;split at he;rename_i z' es a8;split at he;rename_i ah;obtain⟨rfl,bk,a5,aB,bz⟩:=ah;have ao:∀e∈ys,e.length=i.size:=by simpa using bk
   cases he;obtain⟨r0,ak⟩:=s.hr.mem a8;obtain⟨af,an,kx⟩:=s.hr.objs ob _ r0 a8 ak;obtain⟨ad,cc,news,ey,aw,a1,ab,a7,_⟩:=src (P:=P) s ry bj ao af;exact xU.turns (BJ s hu a6 hi aE aQ cD (by intro w;rw[ey];rfl) ao af aw a1 ab a7 a8 rx a5 aB);cases he;cases he;cases he;cases hc;cases hc
   ·(repeat' (split at hc))<;>cases hc
   cases hc
  cases hc
 ·split at hc
  ·(repeat' (split at hc))<;>cases hc
  cases hc
 ·split at hc
  ·(repeat' (split at hc))<;>cases hc
  cases hc
 cases hc
def Od {M:Nat->Prop}(st:List UInt8):∀(i':Nat)(e:List PV)(j:Nat)(p:PV),(cC st)[i']? =some e->e[j]? =some p->∃v,(st.map fun b=>Value.int .u8 b.toNat)[i'*1+j]? =some v/\ cG M w p v:=by
 intro i' e j p he hp;simp only[cC,Zp,Zl]at he;obtain⟨b,hb,rfl⟩:=he;cases j with
 |zero=>simp at hp;subst hp;exact⟨.int .u8 b.toNat,by simp[hb],by simp[cG]⟩
 |succ j=>simp at hp
def K9 (s:SR Γ M0 base Z a w J){o:Oper}{d:Md}{v:V}{h':List Q0}{call:Nat->List V->Option V}{c:Call}{bytes:Nat}{x y:Opd}(b3:o.op= .call c)
 (hc:jm P kf d o.op=some (.bT bytes x y)) (he:fa call Z (.bT bytes x y)=some (v,h')):nU P M0 base Z w J v h' (execOp a.eval o):=by
 rw[b3]at hc;simp only[jm]at hc;split at hc
 ·split at hc
  ·(repeat' (split at hc))<;>cases hc
  cases hc
 ·(repeat' (split at hc))<;>cases hc
 ·split at hc
  ·(repeat' (split at hc))<;>cases hc
  cases hc
 ·rename_i aK;split at hc
  ·rename_i ox oy t u aA aL;split at hc
   ·split at hc
    ·(repeat' (split at hc))<;>cases hc
    cases hc
   rename_i e x0 y0 ht b5 hx hy;split at hc;rename_i b0 bB aM aN hz;cases hc;obtain⟨i,hi,aE,aC,b7⟩:∃i,P.info? e=some i/\ i.zero=some (.int .u8 0)/\ i.size=1/\ i.bytes=bytes:=by
    unfold si at hz;unfold vX at aM;unfold S9 at aN;cases hi:P.info? e with
    |none=>simp[hi]at hz
    |some i=>simp[hi]at hz aM aN;exact⟨i,rfl,hz,aM,aN⟩
   have hu:P.underlying t=some (.slice e):=by unfold lR at ht;split at ht<;>cases ht;assumption
   have cD:∀{r:Value}{w':World},(Builtin.append_ #[t,u] o.type #[a.eval ox,a.eval oy]).run P w= .ok r w'->(execOp a.eval o).run P w= .ok (.value r) w':=by intro r w' hr;have e2:c.args.map a.eval= #[a.eval ox,a.eval oy]:=Array.ext' (by rw[ZZ,aA];rfl);have e3:c.argTypes= #[t,u]:=Array.ext' aL;simp only[execOp,b3,resolve,aK,Sem.run_bind,Sem.run_pure,Result.andThen_ok,invoke,e3,e2,builtin,hr]
   have rx:=cR s hx;have ry:=cR s hy;have facts:∀{st:List UInt8},isStr (y.ev Z)=some st->(∀w,(Builtin.lenOf (a.eval oy)).run P w= .ok (cC st).length w)/\ (∀w':World,(∀b,b<w.heap.size->w'.heap[b]? =w.heap[b]?)->(Builtin.firstCells i.size (cC st).length (a.eval oy)).run P w'= .ok (st.map fun b=>Value.int .u8 b.toNat).toArray w'):=by
    intro st aD;have ey:=ry.str aD;have hl:(cC st).length=st.length:=by simp[cC]
    rw[ey,hl];refine⟨fun w=>by simp[Builtin.lenOf,ByteArray.size],fun w' _=> ?_⟩;have hex:(⟨st.toArray⟩:ByteArray).extract 0 st.length=⟨st.toArray⟩:=by apply ByteArray.ext;simp[ByteArray.data_extract]
    simp[Builtin.firstCells,hex]
   have hl:∀st:List UInt8,(cC st).length=st.length:=fun st=>by simp[cC]
   have ao:∀(st:List UInt8),∀e∈cC st,e.length=i.size:=fun st e' aR=>by rw[aC];simp only[cC,ZV]at aR;obtain⟨b,_,rfl⟩:=aR;rfl
   have aG:∀(st:List UInt8)(i':Nat)(e:List PV)(j:Nat)(p:PV),(cC st)[i']? =some e->e[j]? =some p->∃v,(st.map fun b=>Value.int .u8 b.toNat)[i'*i.size+j]? =some v/\ cG (Mu M0 J Z.h) w p v:=fun st=>by rw[aC];exact Od st
   have bp:∀(st:List UInt8),∀v∈(st.map fun b=>Value.int .u8 b.toNat),v.oneCell'=true:=fun st v hv=>by obtain⟨b,_,rfl⟩:=ZV.1 hv;rfl
   have b6:(Value.int .u8 0).cells.size=i.size:=by rw[aC];rfl
   simp only[fa]at he;split at he;rename_i st aO aD;rw[aO]at rx;split at he;rename_i ah;obtain⟨hb,aB⟩:=ah;cases he;obtain⟨f1,f2⟩:=facts aD;have:=xU.turns (append_nil s (ys:=cC st) (news:=st.map fun b=>Value.int .u8 b.toNat) hu (.inl b5) hi aE b6 cD f1 (ao st) (by omega) (by simp[hl,aC]) f2 (bp st) (aG st) rx (by rw[hl,b7];exact hb) (by rw[hl];exact aB));rwa[aC]at this;cases he;rename_i ob st aO aD;rw[aO]at rx;split at he;rename_i z' es a8;split at he;rename_i ah;obtain⟨rfl,hb,aB⟩:=ah;cases he;obtain⟨f1,f2⟩:=facts aD;rw[<-aC]at a8;have:=xU.turns (BJ s (ys:=cC st) (news:=st.map fun b=>Value.int .u8 b.toNat) hu (.inl b5) hi aE b6 cD f1 (ao st) (by omega) (by simp[hl,aC]) f2 (bp st) (aG st) a8 rx (by rw[hl,b7];exact hb) (by rw[hl];exact aB));rwa[aC]at this;cases he;cases he;cases he;cases hc;cases hc
  cases hc
 ·split at hc
  ·(repeat' (split at hc))<;>cases hc
  cases hc
 ·split at hc
  ·(repeat' (split at hc))<;>cases hc
  cases hc
 cases hc
end
end Gi
