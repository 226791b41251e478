/- A part. -/
import Derived.Test.YtndiampmpmbfoaaGreatGik
set_option linter.all false
namespace Gi
open Go Go.RowKit
variable {KI:KF}
section
variable {Γ:Ctx}{P:Program}{M0:Nat->Prop}{base:Nat}{Z:St}{a:Act}{w:World}{J:List (Option Nat)}
def HR0.rename {h:List Y0}(k:HR0 M0 base w J h){o z:Nat}{es es':List (List PV)}{r:Option Nat}(ho:h[o]? =some (.arr z es))(hr:J[o]? =some r)
 (a8:(∀b,Mu M0 (J++[r]) (h.set o .dead++[.arr z es']) b->Mu M0 J h b)->xX (Mu M0 (J++[r]) (h.set o .dead++[.arr z es'])) base w (J++[r]) (h.set o .dead++[.arr z es']) r (.arr z es')):
 HR0 M0 base w (J++[r]) (h.set o .dead++[.arr z es'])/\ Ch (Mu M0 J h) (Mu M0 (J++[r]) (h.set o .dead++[.arr z es'])) w w J (J++[r]) h (h.set o .dead++[.arr z es']):=by
 have af:o<h.length:=(Zb.1 ho).1
 have get:∀{i:Nat}{x:Y0}{q:Option Nat},(h.set o .dead++[.arr z es'])[i]? =some x->(J++[r])[i]? =some q->(i=h.length/\ x= .arr z es'/\ q=r) \/(i=o/\ x= .dead) \/(i≠o/\ i<h.length/\ h[i]? =some x/\ J[i]? =some q):=by
  intro i x q hx hq
  by_cases hi:i<h.length
  ·rw[Ze (by simpa using hi)]at hx
   rw[Ze (by rw[k.len];exact hi)]at hq
   by_cases e:o=i
   ·subst e
    rw[Zd af]at hx
    cases hx
    exact .inr (.inl ⟨rfl,rfl⟩)
   ·rw[Za e]at hx
    exact .inr (.inr ⟨fun e'=>e e'.symm,hi,hx,hq⟩)
  ·rw[Zk (by simp;omega)]at hx
   have h1:=(Zb.1 hx).1
   simp at h1
   have:i=h.length:=by omega
   subst this
   simp at hx
   rw[<-k.len]at hq
   simp at hq
   exact .inl ⟨rfl,hx.symm,hq.symm⟩
 have mu:∀b,Mu M0 (J++[r]) (h.set o .dead++[.arr z es']) b->Mu M0 J h b:=by
  intro b hm
  rcases hm with hm|⟨i,x,hi,hx,aL⟩
  ·exact .inl hm
  ·rcases get hi aL with⟨_,rfl,e⟩|⟨_,rfl⟩|⟨_,_,h1,h2⟩
   ·exact .inr ⟨o,_,ho,rfl,by rw[hr,<-e]⟩
   ·cases hx
   ·exact .inr ⟨i,x,h1,hx,h2⟩
 have c:Ch (Mu M0 J h) (Mu M0 (J++[r]) (h.set o .dead++[.arr z es'])) w w J (J++[r]) h (h.set o .dead++[.arr z es']):=by
  refine⟨⟨Zn _,fun b _ hm=>mu b hm,fun _ _ _=>rfl⟩,fun b cur aK=>⟨cur,aK,rfl⟩,fun i q x h1 h2 _=> ?_,fun _ _ _ _ _ _ _ _ _ h=>h⟩
  have hi:i<h.length:=(Zb.1 h2).1
  rw[Ze (by rw[k.len];exact hi),Ze (by simpa using hi)]
  by_cases e:o=i
  ·subst e
   exact⟨.dead,h1,Zd af,by rw[ho]at h2;cases h2;trivial⟩
  ·exact⟨x,h1,by rw[Za e];exact h2,sI.refl x⟩
 refine⟨⟨by simp[k.len],fun b hm=>⟨(k.old b hm).1,fun i x hi hx aL=> ?_⟩,k.le,fun i x q hi hq=> ?_,fun i i' x x' b h1 h2 m1 m2 r1 r2=> ?_⟩,c⟩
 ·rcases get hi aL with⟨_,rfl,e⟩|⟨_,rfl⟩|⟨_,_,g1,g2⟩
  ·exact(k.old b hm).2 o _ ho rfl (by rw[hr,<-e])
  ·cases hx
  ·exact(k.old b hm).2 i x g1 hx g2
 ·rcases get hi hq with⟨_,rfl,rfl⟩|⟨_,rfl⟩|⟨_,_,h1,h2⟩
  ·exact a8 mu
  ·trivial
  ·exact(k.objs i x q h1 h2).keep c (fun _ _ _=>rfl)
 ·rcases get h1 r1 with⟨e1,rfl,q1⟩|⟨_,rfl⟩|⟨n1,l1,g1,p1⟩
  ·rcases get h2 r2 with⟨e2,rfl,q2⟩|⟨_,rfl⟩|⟨n2,l2,g2,p2⟩
   ·omega
   ·cases m2
   ·exact absurd (k.apart i' o x' _ b g2 ho m2 rfl p2 (by rw[hr,<-q1])) n2
  ·cases m1
  ·rcases get h2 r2 with⟨e2,rfl,q2⟩|⟨_,rfl⟩|⟨n2,l2,g2,p2⟩
   ·exact absurd (k.apart i o x _ b g1 ho m1 rfl p1 (by rw[hr,<-q2])) n1
   ·cases m2
   ·exact k.apart i i' x x' b g1 g2 m1 m2 p1 p2
def HR.rename {h:List Y0}(k:HR M0 base w J h){o z:Nat}{es es':List (List PV)}{r:Option Nat}(ho:h[o]? =some (.arr z es))(hr:J[o]? =some r)
 (a8:(∀b,Mu M0 (J++[r]) (h.set o .dead++[.arr z es']) b->Mu M0 J h b)->xX (Mu M0 (J++[r]) (h.set o .dead++[.arr z es'])) base w (J++[r]) (h.set o .dead++[.arr z es']) r (.arr z es')):
 HR M0 base w (J++[r]) (h.set o .dead++[.arr z es'])/\ Ch (Mu M0 J h) (Mu M0 (J++[r]) (h.set o .dead++[.arr z es'])) w w J (J++[r]) h (h.set o .dead++[.arr z es']):=by
 obtain⟨a,c⟩:=k.toHR0.rename ho hr a8
 obtain⟨κ,d,n⟩:=k.deep
 have af:o<h.length:=(Zb.1 ho).1
 have get:∀{i:Nat}{x:Y0}{q:Option Nat},(h.set o .dead++[.arr z es'])[i]? =some x->(J++[r])[i]? =some q->(i=h.length/\ x= .arr z es'/\ q=r) \/(i=o/\ x= .dead) \/(i≠o/\ i<h.length/\ h[i]? =some x/\ J[i]? =some q):=by
  intro i x q hx hq
  by_cases hi:i<h.length
  ·rw[Ze (by simpa using hi)]at hx
   rw[Ze (by rw[k.len];exact hi)]at hq
   by_cases e:o=i
   ·subst e
    rw[Zd af]at hx
    cases hx
    exact .inr (.inl ⟨rfl,rfl⟩)
   ·rw[Za e]at hx
    exact .inr (.inr ⟨fun e'=>e e'.symm,hi,hx,hq⟩)
  ·rw[Zk (by simp;omega)]at hx
   have h1:=(Zb.1 hx).1
   simp at h1
   have:i=h.length:=by omega
   subst this
   simp at hx
   rw[<-k.len]at hq
   simp at hq
   exact .inl ⟨rfl,hx.symm,hq.symm⟩
 refine⟨⟨a,fun b=>if κ b=[o]then [h.length]else κ b,⟨fun i x b hi hx aL=> ?_,fun i x z1 bc b hi hd aL=> ?_⟩,fun b hb=>by simp[n.new b hb],fun b i c X z1 bc e hi=> ?_⟩,c⟩
 ·rcases get hi aL with⟨rfl,rfl,e⟩|⟨_,rfl⟩|⟨av,_,g1,g2⟩
  ·exact if_pos (d.root o _ b ho rfl (by rw[hr,<-e]))
  ·cases hx
  ·have:=d.root i x b g1 hx g2
   rw[if_neg (by rw[this];simp;exact av)]
   exact this
 ·rcases get hi aL with⟨rfl,rfl,e⟩|⟨_,rfl⟩|⟨av,_,g1,g2⟩
  ·cases hd
  ·cases hd
  ·exact(d.tree i x z1 bc b g1 hd g2).go (Zn _) (fun _ _=>rfl) ((k.objs i x _ g1 g2).rows hd).2 (fun c b' X _ e=>⟨by rw[if_neg (by rw[e];simp)];exact e,rfl⟩)
 ·have e':κ b=i::c::X:=by
   revert e
   split
   ·intro e;simp at e
   ·exact id
  obtain⟨q,hq⟩:=a.mem hi
  rcases get hi hq with⟨_,e0,_⟩|⟨_,e0⟩|⟨_,_,g1,_⟩
  ·cases e0
  ·cases e0
  ·exact n.zone b i c X z1 bc e' g1
def src (s:SR Γ M0 base Z a w J){x:V}{ys:List (List PV)}{u:Value}{z:Nat}(r:VR (Mu M0 J Z.h) w J Z.h x u)(hx:asList Z.h x=some ys)(hz:∀e∈ys,e.length=z)(ag:0<z):
 ∃(ad:Option Addr)(c:Nat)(news:List Value),u= .slice ad ys.length c/\ news.length=ys.length*z/\ (∀w',(∀b,b<w.heap.size->w'.heap[b]? =w.heap[b]?)->(Builtin.firstCells z ys.length u).run P w'= .ok news.toArray w')/\ (∀v∈news,v.oneCell'=true)/\
  (∀(i:Nat)(e:List PV)(j:Nat)(p:PV),ys[i]? =some e->e[j]? =some p->∃v,news[i*z+j]? =some v/\ aq (Mu M0 J Z.h) w p v)/\
  ∀(k:Nat)v,news[k]? =some v->∀b o c',u= .slice (some ⟨b,o,none⟩) ys.length c'->w.cell? ⟨b,o+k,none⟩=some v:=by
 by_cases av:ys=[]
 ·obtain⟨ad,c,rfl⟩:=(ud s r hx).slice
  subst av
  refine⟨ad,c,[],rfl,by simp,fun w' _=> ?_,by simp,fun i e j p he=>by simp at he,fun k v hv=>by simp at hv⟩
  cases ad with
  |none=>simp[Builtin.firstCells]
  |some ad=>simp[Builtin.firstCells,loadCells,loadCellsFrom]
 ·have bw:∃b o c,u= .slice (some ⟨b,o,none⟩) ys.length c/\ b<w.heap.size/\ ∀(i:Nat)(e:List PV)(j:Nat)(p:PV),ys[i]? =some e->e[j]? =some p->∃v,w.cell? ⟨b,o+i*z+j,none⟩=some v/\ aq (Mu M0 J Z.h) w p v:=by
   unfold asList at hx
   split at hx
   ·rename_i l
    split at hx
    ·rename_i es' aT
     cases hx
     by_cases hm:L.mut Z.h l=true
     ·cases l with
      |arr o=>
       obtain⟨r0,ob,al,a8,hs⟩:=r
       simp only[L.view,a8]at aT
       simp only[L.mut,a8]at hm
       cases ob with
       |arr z' es=>
        simp at aT
        subst aT
        obtain⟨bd,ao,kx⟩:=s.hr.objs o _ r0 a8 al
        obtain⟨e0,es',aW⟩:=Zc5 av
        have bf:z'=z:=by
         have h1:=ao e0 (by rw[aW];simp)
         rw[<-h1];exact hz e0 (by rw[aW];simp)
        subst bf
        cases r0 with
        |none=>exact absurd kx av
        |some b=>
         obtain⟨_,cur,cap,a2,h1,h2,h3,h4⟩:=kx
         obtain⟨cur',aj,aw,_,_,_,rfl⟩:=hs
         refine⟨b,0,_,rfl,a2.lt,fun i e j p he hp=> ?_⟩
         obtain⟨v,hv,hr⟩:=h4 i e j p he hp
         exact⟨v,by rw[a2.cell];simpa using hv,hr⟩
       |bA z' es=>
        simp at aT
        subst aT
        obtain⟨bd,ao,kx⟩:=s.hr.objs o _ r0 a8 al
        obtain⟨e0,es',aW⟩:=Zc5 av
        have bf:z'=z:=by
         have h1:=ao e0 (by rw[aW];simp)
         rw[<-h1];exact hz e0 (by rw[aW];simp)
        subst bf
        cases r0 with
        |none=>exact absurd kx av
        |some b=>
         obtain⟨_,cur,cap,a2,h1,h2,h3,h4⟩:=kx
         obtain⟨cur',aj,aw,_,_,_,rfl⟩:=hs
         refine⟨b,0,_,rfl,a2.lt,fun i e j p he hp=> ?_⟩
         obtain⟨v,hv,hr⟩:=h4 i e j p he hp
         exact⟨v,by rw[a2.cell];simpa using hv,hr⟩
       |_=>simp at hm
      |_=>simp[L.mut]at hm
     ·obtain⟨b,o,c,e,_,af,hc⟩:=(ol s.hr r aT (by simpa using hm)).cells hz av
      exact⟨b,o,c,e,af,hc⟩
    ·cases hx
   ·cases hx
  obtain⟨b,o,c,rfl,af,hc⟩:=bw
  have ax:∀k,k<ys.length*z->∃v,w.cell? ⟨b,o+k,none⟩=some v/\ v.oneCell'=true:=by
   intro k hk
   have hi:k/z<ys.length:=(Nat.div_lt_iff_lt_mul ag).2 hk
   have hj:k%z<z:=Nat.mod_lt _ ag
   have he:ys[k/z]? =some ys[k/z]:=by simp[hi]
   have hl:(ys[k/z]).length=z:=hz _ (Zf hi)
   obtain⟨v,hv,hr⟩:=hc (k/z) _ (k%z) ((ys[k/z])[k%z]'(by rw[hl];exact hj)) he (by simp[hl,hj])
   refine⟨v,?_,hr.one⟩
   rw[Zc3,Zb5,Nat.div_add_mod]at hv
   exact hv
  refine⟨_,c,(List.range (ys.length*z)).map fun k=>(w.cell? ⟨b,o+k,none⟩).getD undef,rfl,by simp,fun w' bx=> ?_,fun v hv=> ?_,fun i e j p he hp=> ?_,fun k v hv b1 o1 c1 e1=> ?_⟩
  ·have:=run_loadCells_list (P:=P) w' ⟨b,o,none⟩ ((List.range (ys.length*z)).map fun k=>(w.cell? ⟨b,o+k,none⟩).getD undef) (fun j v hv=>by
    simp only[Zp,Zj]at hv
    obtain⟨k,hk,rfl⟩:=hv
    obtain⟨h1,h2⟩:=Zb.1 hk
    simp at h1 h2
    subst h2
    obtain⟨v,hv,_⟩:=ax j h1
    rw[Addr.add_mid,World.cell?_of_block (a:=⟨b,o+j,none⟩) (bx b af),hv]
    rfl)
   simp only[Zr,List.length_range]at this
   simp only[Builtin.firstCells]
   exact this
  ·obtain⟨k,hk,rfl⟩:=V'.1 hv
   obtain⟨v,hv,h1⟩:=ax k (by simpa using hk)
   rw[hv];exact h1
  ·obtain⟨v,hv,hr⟩:=hc i e j p he hp
   have hi:i<ys.length:=(Zb.1 he).1
   have hj:j<z:=by rw[<-hz e (Zl he)];exact(Zb.1 hp).1
   have bg:i*z+j<ys.length*z:=by
    calc i*z+j<i*z+z:=by omega
     _=(i+1)*z:=by rw[Nat.add_mul,D']
     _<=ys.length*z:=ZH _ hi
   refine⟨v,?_,hr⟩
   rw[Zc3]at hv
   simp[bg,hv]
  ·cases e1
   simp only[Zp,Zj]at hv
   obtain⟨x,hx,rfl⟩:=hv
   obtain⟨h1,h2⟩:=Zb.1 hx
   simp at h1 h2
   subst h2
   obtain⟨v,hv,_⟩:=ax k h1
   simp[hv]
def zk {t t' ty e:TypeId}{i:TypeInfo}(ht:P.underlying t=some (.slice e))(a6:P.underlying t'=some .string \/∃e',P.underlying t'=some (.slice e'))(hi:P.info? e=some i){g n cap m:Nat}{cur:Array Value}(a2:fO w g cur){u:Value}(hu:∀w,(Builtin.lenOf u).run P w= .ok m w){news:List Value}
 (hl:news.length=m*i.size) (hf:(Builtin.firstCells i.size m u).run P w= .ok news.toArray w) (h1:∀v∈news,v.oneCell'=true) (aa:n+m<=cap) (ay:n*i.size+news.length<=cur.size):
 (Builtin.append_ #[t,t'] ty #[.slice (some ⟨g,0,none⟩) n cap,u]).run P w= .ok (.slice (some ⟨g,0,none⟩) (n+m) cap) (w.setCells g (n*i.size) news):=by
 have aH:=run_storeCells_cells (P:=P) g (n*i.size) news 0 w (fun j hj=>by
  rw[a2.cell]
  have:n*i.size+j<cur.size:=by omega
  simp[this]) (fun j _=>a2.free _) h1
 simp only[Za7]at aH
 have e0:(⟨g,0,none⟩:Addr).add (n*i.size)=⟨g,n*i.size,none⟩:=by rw[Addr.add_mid];simp
 rcases a6 with a6|⟨e',a6⟩
 ·simp[Builtin.append_,run_underlying ht,run_underlying a6,Go.sizeOf,typeInfo,hi,hu,aa,hf,e0,aH]
 ·simp[Builtin.append_,run_underlying ht,run_underlying a6,Go.sizeOf,typeInfo,hi,hu,aa,hf,e0,aH]
def LK {ad:Option Addr}{t t' ty e:TypeId}{i:TypeInfo}(ht:P.underlying t=some (.slice e))(a6:P.underlying t'=some .string \/∃e',P.underlying t'=some (.slice e'))(hi:P.info? e=some i){u:Value}(hu:∀w,(Builtin.lenOf u).run P w= .ok 0 w)(hf:(Builtin.firstCells i.size 0 u).run P w= .ok #[] w):
 (Builtin.append_ #[t,t'] ty #[.slice ad 0 0,u]).run P w= .ok (.slice ad 0 0) w:=by
 rcases a6 with a6|⟨e',a6⟩<;>cases ad<;>simp[Builtin.append_,run_underlying ht,run_underlying a6,Go.sizeOf,typeInfo,hi,hu,hf,storeCells]
def vo {t t' ty e:TypeId}{i:TypeInfo}{z:Value}(ht:P.underlying t=some (.slice e))(a6:P.underlying t'=some .string \/∃e',P.underlying t'=some (.slice e'))(hi:P.info? e=some i)(hz:i.zero=some z){s:Value}{bs:Option Addr}{n cap m:Nat}(hs:s= .slice bs n cap){u:Value}(hu:∀w,(Builtin.lenOf u).run P w= .ok m w)
 {olds news:List Value} (bp:(Builtin.firstCells i.size n s).run P w.drew= .ok olds.toArray w.drew) (hf:(Builtin.firstCells i.size m u).run P w.drew= .ok news.toArray w.drew)
 (hg:cap<n+m) (aF:n+m<=9223372036854775807) (ay:(n+m)*i.bytes<=140737488355328):
 (Builtin.append_ #[t,t'] ty #[s,u]).run P w= .ok (.slice (some ⟨w.heap.size,0,none⟩) (n+m) (grownCap w (n+m) cap e))
  (w.drew.alloc (.cells (olds.toArray++news.toArray++Builtin.zeroCells z.cells (grownCap w (n+m) cap e-(n+m))) e)):=by
 have hn:¬(n+m<=cap):=by omega
 have aX:¬(9223372036854775807<((n:Int)+(m:Int))):=by omega
 have aY:¬(281474976710656<Builtin.nextslicecap (n+m) cap*i.bytes):=by have:=growslice_fits hg ay;omega
 subst hs
 rcases a6 with a6|⟨e',a6⟩
 ·simp[Builtin.append_,run_underlying ht,run_underlying a6,Go.sizeOf,typeInfo,zeroValue,hi,hz,hu,hn,aX,aY,Question.forced,hf,bp,newRow,grownCap]
  congr 2
  apply Array.ext'
  simp[List.append_assoc]
 ·simp[Builtin.append_,run_underlying ht,run_underlying a6,Go.sizeOf,typeInfo,zeroValue,hi,hz,hu,hn,aX,aY,Question.forced,hf,bp,newRow,grownCap]
  congr 2
  apply Array.ext'
  simp[List.append_assoc]
def Dj {M:Nat->Prop}{z:Nat}{es ys:List (List PV)}{cur:List Value}(ao:∀e∈es,e.length=z)
 (h1:∀(i:Nat)(e:List PV)(j:Nat)(p:PV),es[i]? =some e->e[j]? =some p->∃v,cur[i*z+j]? =some v/\ aq M w p v)
 (h2:∀(i:Nat)(e:List PV)(j:Nat)(p:PV),ys[i]? =some e->e[j]? =some p->∃v,cur[(es.length+i)*z+j]? =some v/\ aq M w p v):
 ∀(i:Nat)(e:List PV)(j:Nat)(p:PV),(es++ys)[i]? =some e->e[j]? =some p->∃v,cur[i*z+j]? =some v/\ aq M w p v:=by
 intro i e j p he hp
 by_cases hi:i<es.length
 ·rw[Ze hi]at he
  exact h1 i e j p he hp
 ·rw[Zk (by omega)]at he
  have:=h2 _ e j p he hp
  rwa[show es.length+(i-es.length)=i by omega]at this
def VY (w w':World)(J J':List (Option Nat))(r0:Option Nat)(z n:Nat)(news:List Value):Prop:=
 ∃r',J'=J++[r']/\ (∀b',r'=some b'->(r0=some b' \/w.heap.size<=b')/\ (∀c,c<n*z->∀b0,r0=some b0->w'.cell? ⟨b',c,none⟩=w.cell? ⟨b0,c,none⟩)/\
  (∀(c:Nat)v,news[c]? =some v->w'.cell? ⟨b',n*z+c,none⟩=some v))/\ (∀b,b<w.heap.size->r0≠some b->w'.heap[b]? =w.heap[b]?)
def ua [KF](P:Program)(M0:Nat->Prop)(base:Nat)(Z:St)(w:World)(J:List (Option Nat))(v:V)(h':List Y0)(s:Sem Next)(E:World->List (Option Nat)->Prop):Prop:=
 ∃n u w' J',s.run P w= .ok n w'/\ (n= .value u \/(n= .skip/\ u=undef))/\ Below base w w'/\ HR M0 base w' J' h'/\ Ch (Mu M0 J Z.h) (Mu M0 J' h') w w' J J' Z.h h'/\ VR (Mu M0 J' h') w' J' h' v u/\ E w' J'
def ua.turns {v:V}{h':List Y0}{s:Sem Next}{E:World->List (Option Nat)->Prop}(t:ua P M0 base Z w J v h' s E):kO P M0 base Z w J v h' s:=by
 obtain⟨n,u,w',J',h1,h2,h3,h4,h5,h6,_⟩:=t
 exact⟨n,u,w',J',h1,h2,h3,h4,h5,h6⟩
def append_nil (s:SR Γ M0 base Z a w J){o:Oper}{t t' e:TypeId}{i:TypeInfo}{v0:Value}{ox oy:Operand}{ys:List (List PV)}{news:List Value}(hu:P.underlying t=some (.slice e))(a6:P.underlying t'=some .string \/∃e',P.underlying t'=some (.slice e'))(hi:P.info? e=some i)(aI:i.zero=some v0)(aU:v0.cells.size=i.size)
 (ap:∀{r:Value}{w':World},(Builtin.append_ #[t,t'] o.type #[a.eval ox,a.eval oy]).run P w= .ok r w'->(execOp a.eval o).run P w= .ok (.value r) w') (hlen:∀w,(Builtin.lenOf (a.eval oy)).run P w= .ok ys.length w) (au:∀e∈ys,e.length=i.size) (ag:0<i.size) (az:news.length=ys.length*i.size)
 (a1:∀w',(∀b,b<w.heap.size->w'.heap[b]? =w.heap[b]?)->(Builtin.firstCells i.size ys.length (a.eval oy)).run P w'= .ok news.toArray w') (ab:∀v∈news,v.oneCell'=true)
 (a7:∀(i':Nat)(e:List PV)(j:Nat)(p:PV),ys[i']? =some e->e[j]? =some p->∃v,news[i'*i.size+j]? =some v/\ aq (Mu M0 J Z.h) w p v)
 (rx:∃ad,a.eval ox= .slice ad 0 0) (a5:ys.length*i.bytes<=140737488355328) (aF:ys.length<=9223372036854775807):
 ua P M0 base Z w J (.one (.arr Z.h.length)) (Z.h++[.arr i.size ys]) (execOp a.eval o) (fun w' J'=>VY w w' J J' none i.size 0 news):=by
 obtain⟨ad,ex⟩:=rx
 by_cases aZ:ys=[]
 ·subst aZ
  have bh:news=[]:=List.eq_nil_of_length_eq_zero (by simpa using az)
  subst bh
  have hr:=LK (ad:=ad) (P:=P) (ty:=o.type) (w:=w) hu a6 hi hlen (a1 w (fun _ _=>rfl))
  obtain⟨g1,g2⟩:=s.hr.push (w':=w) (Zn _) (fun _ _=>rfl) none (.arr i.size []) (fun b e=>by cases e) (fun _=>⟨ag,by simp,by trivial⟩)
  refine⟨_,_,_,_,ap (by rw[ex];exact hr), .inl rfl,Below.refl _ _,g1,g2,⟨none, .arr i.size [],?_,by simp,_,rfl⟩,none,rfl,fun b' e=>(by cases e),fun _ _ _=>rfl⟩
  rw[<-s.hr.len];simp
 ·have b2:0<ys.length:=List.length_pos_iff.2 aZ
  have hr:=vo (P:=P) (ty:=o.type) (w:=w) hu a6 hi aI ex hlen (olds:=[]) (by rw[ex];cases ad<;>simp[Builtin.firstCells,loadCells,loadCellsFrom]) (a1 w.drew (fun _ _=>rfl)) (by omega) (by omega) (by simpa using a5)
  simp only[ZO]at hr
  have aA:=grownCap_ge w ys.length 0 e
  have bj:=grownCap_le_maxLen w ys.length 0 e (by simp only[maxLen];omega)
  obtain⟨g1,g2,g3⟩:=EJ (h:=Z.h) s.hr (w':=w.drew.alloc (.cells ((([]:List Value)).toArray++news.toArray++Builtin.zeroCells v0.cells (grownCap w ys.length 0 e-ys.length)) e)) (by simp)
   (fun b hb=>fb w.drew _ b hb) (z:=i.size) (cap:=grownCap w ys.length 0 e) (es:=ys) ag au (fO.new w.drew _ e)
   (by
    simp only[Array.size_append,List.size_toArray,size_zeroCells,aU,az,Zx,ZO,<-Nat.add_mul]
    congr 1;omega) aA bj
   (fun i' e' j p aV hp=>by
    obtain⟨v,hv,ah⟩:=a7 i' e' j p aV hp
    refine⟨v,?_,ah⟩
    have af:=(Zb.1 hv).1
    rw[ZY (by simpa using af)]
    simpa using hv)
  refine⟨_,_,_,_,ap hr, .inl rfl,⟨rfl,rfl,rfl,by simp,fun k hk=>fb w.drew _ k (ZG hk s.hr.le)⟩,g1,g2,g3,_,rfl,fun b' e=> ?_,fun b hb _=>fb w.drew _ b hb⟩
  cases e
  refine⟨.inr (Zn _),fun c _ b0 e=>(by cases e),fun c v hv=> ?_⟩
  rw[fO.cell (show fO _ w.heap.size _ from fO.new w.drew _ e)]
  have af:=(Zb.1 hv).1
  rw[Nat.zero_mul,ZO,ZY (by simpa using af)]
  simpa using hv
def xY (s:SR Γ M0 base Z a w J){o:Oper}{t t' e:TypeId}{i:TypeInfo}{v0:Value}{ox oy:Operand}{ys:List (List PV)}{news:List Value}(hu:P.underlying t=some (.slice e))(a6:P.underlying t'=some .string \/∃e',P.underlying t'=some (.slice e'))(hi:P.info? e=some i)(aI:i.zero=some v0)(aU:v0.cells.size=i.size)
 (ap:∀{r:Value}{w':World},(Builtin.append_ #[t,t'] o.type #[a.eval ox,a.eval oy]).run P w= .ok r w'->(execOp a.eval o).run P w= .ok (.value r) w') (hlen:∀w,(Builtin.lenOf (a.eval oy)).run P w= .ok ys.length w) (au:∀e∈ys,e.length=i.size) (ag:0<i.size) (az:news.length=ys.length*i.size)
 (a1:∀w',(∀b,b<w.heap.size->w'.heap[b]? =w.heap[b]?)->(Builtin.firstCells i.size ys.length (a.eval oy)).run P w'= .ok news.toArray w') (ab:∀v∈news,v.oneCell'=true)
 (a7:∀(i':Nat)(e:List PV)(j:Nat)(p:PV),ys[i']? =some e->e[j]? =some p->∃v,news[i'*i.size+j]? =some v/\ aq (Mu M0 J Z.h) w p v)
 {ob:Nat} {es:List (List PV)} (a8:Z.h[ob]? =some (.arr i.size es)) (rx:LR (Mu M0 J Z.h) w J Z.h (.arr ob) (a.eval ox)) (a5:(es.length+ys.length)*i.bytes<=140737488355328) (aF:es.length+ys.length<=9223372036854775807):
 ua P M0 base Z w J (.one (.arr Z.h.length)) (Z.h.set ob .dead++[.arr i.size (es++ys)]) (execOp a.eval o) (fun w' J'=>∃r0,J[ob]? =some r0/\ VY w w' J J' r0 i.size es.length news):=by
 obtain⟨r0,bB,al,b3,bq⟩:=rx
 rw[a8]at b3;cases b3
 obtain⟨_,ao,kx⟩:=s.hr.objs ob _ r0 a8 al
 have b4:∀e∈es++ys,e.length=i.size:=fun e1 he1=>by
  rcases H'.1 he1 with h1|h1
  ·exact ao e1 h1
  ·exact au e1 h1
 have br:∀(r1:Option Nat),(J++[r1])[Z.h.length]? =some r1:=fun r1=>by rw[<-s.hr.len];simp
 have b5:∀bk,(Z.h.set ob .dead++[bk])[Z.h.length]? =some bk:=fun bk=>by
  rw[Zk (by simp)];simp
 have grow:∀{bs:Option Addr}{cap:Nat}{olds:List Value},a.eval ox= .slice bs es.length cap->cap<es.length+ys.length->olds.length=es.length*i.size->
  (Builtin.firstCells i.size es.length (a.eval ox)).run P w.drew= .ok olds.toArray w.drew->
  (∀(i':Nat)(e:List PV)(j:Nat)(p:PV),es[i']? =some e->e[j]? =some p->∃v,olds[i'*i.size+j]? =some v/\ aq (Mu M0 J Z.h) w p v)->
  (∀c,c<es.length*i.size->∀b0,r0=some b0->olds[c]? =w.cell? ⟨b0,c,none⟩)->
  ua P M0 base Z w J (.one (.arr Z.h.length)) (Z.h.set ob .dead++[.arr i.size (es++ys)]) (execOp a.eval o) (fun w' J'=>∃r0,J[ob]? =some r0/\ VY w w' J J' r0 i.size es.length news):=by
  intro bs cap olds ex af aB bt b6 aM
  have hr:=vo (P:=P) (ty:=o.type) (w:=w) hu a6 hi aI ex hlen (by rw[ex]at bt⊢;exact bt) (a1 w.drew (fun _ _=>rfl)) af (by omega) a5
  have aA:=grownCap_ge w (es.length+ys.length) cap e
  have bj:=grownCap_le_maxLen w (es.length+ys.length) cap e (by simp only[maxLen];omega)
  obtain⟨k2,c2⟩:=s.hr.c0 (w':=w) (ob':= .dead) a8 al rfl trivial rfl (fun _ _=>rfl) (fun b cur _ aK=>⟨cur,aK,rfl⟩) (fun _=>trivial)
  obtain⟨g1,g2,g3⟩:=EJ (h:=Z.h.set ob .dead) k2 (w':=w.drew.alloc (.cells (olds.toArray++news.toArray++Builtin.zeroCells v0.cells (grownCap w (es.length+ys.length) cap e-(es.length+ys.length))) e)) (by simp)
   (fun b hb=>fb w.drew _ b hb) (z:=i.size) (cap:=grownCap w (es.length+ys.length) cap e) (es:=es++ys) ag b4 (fO.new w.drew _ e)
   (by
    simp only[Array.size_append,List.size_toArray,size_zeroCells,aU,az,aB,<-Nat.add_mul]
    congr 1;omega) (by simpa using aA) bj
   (fun i' e' j p aV hp=>by
    have key:=Dj (M:=Mu M0 J Z.h) (w:=w) (z:=i.size) (es:=es) (ys:=ys) (cur:=olds++news) ao
     (fun i1 e1 j1 p1 h1 h2=>by
      obtain⟨v,hv,ah⟩:=b6 i1 e1 j1 p1 h1 h2
      exact⟨v,by rw[Ze (Zb.1 hv).1];exact hv,ah⟩)
     (fun i1 e1 j1 p1 h1 h2=>by
      obtain⟨v,hv,ah⟩:=a7 i1 e1 j1 p1 h1 h2
      refine⟨v,?_,ah⟩
      rw[Zk (by rw[aB,Nat.add_mul];omega),aB]
      rw[show(es.length+i1)*i.size+j1-es.length*i.size=i1*i.size+j1 by rw[Nat.add_mul];omega]
      exact hv) i' e' j p aV hp
    obtain⟨v,hv,ah⟩:=key
    refine⟨v,?_,aq.go c2.go p v ah⟩
    have af:=(Zb.1 hv).1
    rw[ZY (by simpa using af)]
    simpa using hv)
  refine⟨_,_,_,_,ap hr, .inl rfl,⟨rfl,rfl,rfl,by simp,fun k hk=>fb w.drew _ k (ZG hk s.hr.le)⟩,g1,c2.trans g2,by simpa using g3,r0,al,_,rfl,fun b' e=> ?_,fun b hb _=>fb w.drew _ b hb⟩
  cases e
  refine⟨.inr (Zn _),fun c hc b0 e0=> ?_,fun c v hv=> ?_⟩
  ·rw[fO.cell (show fO _ w.heap.size _ from fO.new w.drew _ e),<-aM c hc b0 e0,ZY (by simp[aB];omega),ZY (by simp[aB];omega)]
   simp
  ·rw[fO.cell (show fO _ w.heap.size _ from fO.new w.drew _ e)]
   have af:=(Zb.1 hv).1
   rw[ZY (by simp[aB];omega),Zc2 (by simp[aB])]
   simp[aB,hv]
 cases r0 with
 |none=>
  obtain rfl:es=[]:=kx
  obtain⟨ad,ex⟩:=bq
  by_cases aZ:ys=[]
  ·subst aZ
   have bh:news=[]:=List.eq_nil_of_length_eq_zero (by simpa using az)
   subst bh
   have hr:=LK (ad:=ad) (P:=P) (ty:=o.type) (w:=w) hu a6 hi hlen (a1 w (fun _ _=>rfl))
   obtain⟨g1,g2⟩:=s.hr.rename (es':=[]) a8 al (fun _=>⟨ag,by simp,by trivial⟩)
   exact⟨_,_,_,_,ap (by rw[ex];exact hr), .inl rfl,Below.refl _ _,g1,g2,⟨none, .arr i.size [],br none,b5 _,_,rfl⟩,none,al,none,rfl,fun b' e=>(by cases e),fun _ _ _=>rfl⟩
  ·have b2:0<ys.length:=List.length_pos_iff.2 aZ
   exact grow (olds:=[]) (by simpa using ex) (by simpa using b2) (by simp) (by rw[ex];cases ad<;>simp[Builtin.firstCells,loadCells,loadCellsFrom]) (fun i1 e1 j1 p1 h1=>by simp at h1) (fun c hc=>by simp at hc)
 |some b=>
  obtain⟨aC,cur,cap,a2,h1,h2,h3,h4⟩:=kx
  obtain⟨cur',aj,aw,bz,bC,bD,ex⟩:=bq
  cases a2.inj aw
  have aA:aj=cap:=S' ag (bz.symm.trans h1)
  subst aA
  by_cases aa:es.length+ys.length<=aj
  ·have ay:es.length*i.size+news.length<=cur.size:=by
    rw[az,h1,<-Nat.add_mul];exact ZH _ aa
   have hr:=zk (P:=P) (ty:=o.type) (w:=w) hu a6 hi a2 hlen az (a1 w (fun _ _=>rfl)) ab aa ay
   obtain⟨an,ae,aJ,ak⟩:=eC b news (es.length*i.size) w cur a2 ay
   have hold:∀(i1:Nat)(e1:List PV)(j1:Nat),es[i1]? =some e1->j1<e1.length->an[i1*i.size+j1]? =cur[i1*i.size+j1]? :=by
    intro i1 e1 j1 he1 bl
    rw[ak,if_neg]
    have hi1:i1<es.length:=(Zb.1 he1).1
    rw[ao e1 (Zl he1)]at bl
    have:i1*i.size+j1<es.length*i.size:=by
     calc i1*i.size+j1<i1*i.size+i.size:=by omega
      _=(i1+1)*i.size:=by rw[Nat.add_mul,D']
      _<=es.length*i.size:=ZH _ hi1
    omega
   obtain⟨k2,c2⟩:=s.hr.c0 (w':=w.setCells b (es.length*i.size) news) (ob':= .arr i.size es) a8 al rfl ⟨rfl,rfl⟩ (dR b _ _ w).symm
    (fun k hk=>dP b _ _ w k (fun e=>hk (by rw[e])))
    (fun k c e aK=>by cases e;rw[aK.inj a2];exact⟨an,ae,aJ⟩)
    (fun c=>⟨ag,ao,aC,an,aj,ae,by rw[aJ];exact h1,h2,h3,fun i1 e1 j1 p1 he1 aN=>by
     obtain⟨v,hv,ah⟩:=h4 i1 e1 j1 p1 he1 aN
     exact⟨v,by rw[hold i1 e1 j1 he1 (Zb.1 aN).1];exact hv,aq.go c.go p1 v ah⟩⟩)
   have bm:Z.h.set ob (.arr i.size es)=Z.h:=by
    apply Zc0
    intro k
    by_cases hk:ob=k
    ·subst hk
     rw[Zd (Zb.1 a8).1,a8]
    ·rw[Za hk]
   rw[bm]at k2 c2
   obtain⟨g1,g2⟩:=k2.rename (es':=es++ys) a8 al (fun mu=>by
    refine⟨ag,b4,aC,an,aj,ae,by rw[aJ];exact h1,by simpa using aa,h3,fun i1 e1 j1 p1 he1 aN=> ?_⟩
    have key:=Dj (M:=Mu M0 J Z.h) (w:=w.setCells b (es.length*i.size) news) (z:=i.size) (es:=es) (ys:=ys) (cur:=an.toList) ao
     (fun i1 e1 j1 p1 q1 q2=>by
      obtain⟨v,hv,ah⟩:=h4 i1 e1 j1 p1 q1 q2
      exact⟨v,by rw[Array.getElem?_toList,hold i1 e1 j1 q1 (Zb.1 q2).1];exact hv,aq.go c2.go p1 v ah⟩)
     (fun i1 e1 j1 p1 q1 q2=>by
      obtain⟨v,hv,ah⟩:=a7 i1 e1 j1 p1 q1 q2
      refine⟨v,?_,aq.go c2.go p1 v ah⟩
      have af:=(Zb.1 hv).1
      rw[Array.getElem?_toList,ak,show(es.length+i1)*i.size+j1=es.length*i.size+(i1*i.size+j1) by rw[Nat.add_mul];omega,if_pos (by omega)]
      rw[show es.length*i.size+(i1*i.size+j1)-es.length*i.size=i1*i.size+j1 by omega]
      exact hv) i1 e1 j1 p1 he1 aN
    obtain⟨v,hv,ah⟩:=key
    exact⟨v,by simpa using hv,ah.weak mu⟩)
   refine⟨_,_,_,_,ap (by rw[ex];exact hr), .inl rfl,cS b base aC _ _ w w (Below.refl _ _),g1,c2.trans g2,⟨some b,_,br _,b5 _,an,aj,ae,by rw[aJ];exact h1,by simpa using aa,h3,by simp⟩,some b,al,some b,rfl,fun b' e=> ?_,fun b' _ av=>dP b _ _ w b' (fun e=>av (by rw[e]))⟩
   cases e
   refine⟨.inl rfl,fun c hc b0 e0=> ?_,fun c v hv=> ?_⟩
   ·cases e0
    rw[ae.cell,a2.cell,ak,if_neg (by omega)]
   ·have af:=(Zb.1 hv).1
    rw[ae.cell,ak,if_pos (by omega),show es.length*i.size+c-es.length*i.size=c by omega]
    exact hv
  ·have aB:((cur.toList.take (es.length*i.size))).length=es.length*i.size:=by
    have:es.length*i.size<=cur.size:=by rw[h1];exact ZH _ h2
    simp;omega
   refine grow (olds:=cur.toList.take (es.length*i.size)) ex (by omega) aB ?_ (fun i1 e1 j1 p1 he1 aN=> ?_) (fun c hc b0 e0=>by cases e0;rw[a2.cell,ZP,if_pos hc];simp)
   ·have:=run_loadCells_list (P:=P) w.drew ⟨b,0,none⟩ (cur.toList.take (es.length*i.size)) (fun j v hv=>by
     rw[Addr.add_mid]
     have:(w.drew).cell? ⟨b,0+j,none⟩=w.cell? ⟨b,0+j,none⟩:=rfl
     rw[this,a2.cell]
     rw[ZP]at hv
     split at hv
     ·simpa using hv
     ·cases hv)
    rw[aB]at this
    rw[ex]
    simp only[Builtin.firstCells]
    exact this
   ·obtain⟨v,hv,ah⟩:=h4 i1 e1 j1 p1 he1 aN
    refine⟨v,?_,ah⟩
    have hi1:i1<es.length:=(Zb.1 he1).1
    have bl:=(Zb.1 aN).1
    rw[ao e1 (Zl he1)]at bl
    have:i1*i.size+j1<es.length*i.size:=by
     calc i1*i.size+j1<i1*i.size+i.size:=by omega
      _=(i1+1)*i.size:=by rw[Nat.add_mul,D']
      _<=es.length*i.size:=ZH _ hi1
    rw[ZP,if_pos this]
    simpa using hv
def JH (s:SR Γ M0 base Z a w J){o:Oper}{d:Md}{v:V}{h':List Y0}{call:Nat->List V->Option V}{c:Call}{z bytes:Nat}{x y:Opd}(b7:o.op= .call c)
 (hc:fX P kf d o.op=some (.append z bytes x y)) (he:cz call Z (.append z bytes x y)=some (v,h')):kO P M0 base Z w J v h' (execOp a.eval o):=by
 rw[b7]at hc;simp only[fX]at hc
 split at hc
 ·split at hc
  ·(repeat' (split at hc))<;>cases hc
  ·cases hc
 ·(repeat' (split at hc))<;>cases hc
 ·split at hc
  ·(repeat' (split at hc))<;>cases hc
  ·cases hc
 ·rename_i aO
  split at hc
  ·rename_i ox oy t u aE aP
   split at hc
   ·rename_i e e' x0 y0 ht _ hx hy
    split at hc
    ·rename_i z0 b0 v0 aQ aR hz
     split at hc
     ·rename_i b8
      obtain⟨aU,rfl⟩:=b8
      cases hc
      obtain⟨i,hi,aI,aG,bb⟩:∃i,P.info? e=some i/\ i.zero=some v0/\ i.size=z/\ i.bytes=bytes:=by
       unfold oA at hz;unfold rS at aQ;unfold Oh at aR
       cases hi:P.info? e with
       |none=>simp[hi]at hz
       |some i=>simp[hi]at hz aQ aR;exact⟨i,rfl,hz,aQ,aR⟩
      subst aG bb
      have hu:P.underlying t=some (.slice e):=by
       unfold jh at ht
       split at ht<;>cases ht
       assumption
      have ap:∀{r:Value}{w':World},(Builtin.append_ #[t,t] o.type #[a.eval ox,a.eval oy]).run P w= .ok r w'->(execOp a.eval o).run P w= .ok (.value r) w':=by
       intro r w' hr
       have e2:c.args.map a.eval= #[a.eval ox,a.eval oy]:=Array.ext' (by rw[ZZ,aE];rfl)
       have e3:c.argTypes= #[t,t]:=Array.ext' aP
       simp only[execOp,b7,resolve,aO,Sem.run_bind,Sem.run_pure,Result.andThen_ok,invoke,e3,e2,builtin,hr]
      have rx:=aD s hx
      have ry:=aD s hy
      have a6:P.underlying t=some .string \/∃e',P.underlying t=some (.slice e'):= .inr ⟨e,hu⟩
      simp only[cz]at he
      split at he
      ·
       rename_i ys aS bn
       rw[aS]at rx
       split at he
       ·rename_i ai
        simp only[Zh,decide_eq_true_eq,Zt,beq_iff_eq]at ai
        obtain⟨⟨⟨au,ag⟩,a5⟩,aF⟩:=ai
        cases he
        obtain⟨ad,cc,news,ey,az,a1,ab,a7,_⟩:=src (P:=P) s ry bn au ag
        exact ua.turns (append_nil s hu a6 hi aI aU ap (by intro w;rw[ey];rfl) au ag az a1 ab a7 rx a5 aF)
       ·cases he
      ·rename_i ob ys aS bn
       rw[aS]at rx
       split at he
       ·rename_i z' es a8
        split at he
        ·rename_i ai
         obtain⟨rfl,bo,a5,aF,bE⟩:=ai
         have au:∀e∈ys,e.length=i.size:=by simpa using bo
         cases he
         obtain⟨r0,al⟩:=s.hr.mem a8
         obtain⟨ag,ao,kx⟩:=s.hr.objs ob _ r0 a8 al
         obtain⟨ad,cc,news,ey,az,a1,ab,a7,_⟩:=src (P:=P) s ry bn au ag
         exact ua.turns (xY s hu a6 hi aI aU ap (by intro w;rw[ey];rfl) au ag az a1 ab a7 a8 rx a5 aF)
        ·cases he
       ·cases he
      ·cases he
     ·cases hc
    ·cases hc
   ·(repeat' (split at hc))<;>cases hc
   ·cases hc
  ·cases hc
 ·split at hc
  ·(repeat' (split at hc))<;>cases hc
  ·cases hc
 ·split at hc
  ·(repeat' (split at hc))<;>cases hc
  ·cases hc
 ·cases hc
def KD {M:Nat->Prop}(st:List UInt8):∀(i':Nat)(e:List PV)(j:Nat)(p:PV),(ar st)[i']? =some e->e[j]? =some p->∃v,(st.map fun b=>Value.int .u8 b.toNat)[i'*1+j]? =some v/\ aq M w p v:=by
 intro i' e j p he hp
 simp only[ar,Zp,Zj]at he
 obtain⟨b,hb,rfl⟩:=he
 cases j with
 |zero=>simp at hp;subst hp;exact⟨.int .u8 b.toNat,by simp[hb],by simp[aq]⟩
 |succ j=>simp at hp
def HQ (s:SR Γ M0 base Z a w J){o:Oper}{d:Md}{v:V}{h':List Y0}{call:Nat->List V->Option V}{c:Call}{bytes:Nat}{x y:Opd}(b7:o.op= .call c)
 (hc:fX P kf d o.op=some (.bS bytes x y)) (he:cz call Z (.bS bytes x y)=some (v,h')):kO P M0 base Z w J v h' (execOp a.eval o):=by
 rw[b7]at hc;simp only[fX]at hc
 split at hc
 ·split at hc
  ·(repeat' (split at hc))<;>cases hc
  ·cases hc
 ·(repeat' (split at hc))<;>cases hc
 ·split at hc
  ·(repeat' (split at hc))<;>cases hc
  ·cases hc
 ·rename_i aO
  split at hc
  ·rename_i ox oy t u aE aP
   split at hc
   ·split at hc
    ·(repeat' (split at hc))<;>cases hc
    ·cases hc
   ·rename_i e x0 y0 ht b9 hx hy
    split at hc
    ·rename_i b0 bF aQ aR hz
     cases hc
     obtain⟨i,hi,aI,aG,bb⟩:∃i,P.info? e=some i/\ i.zero=some (.int .u8 0)/\ i.size=1/\ i.bytes=bytes:=by
      unfold oA at hz;unfold rS at aQ;unfold Oh at aR
      cases hi:P.info? e with
      |none=>simp[hi]at hz
      |some i=>simp[hi]at hz aQ aR;exact⟨i,rfl,hz,aQ,aR⟩
     have hu:P.underlying t=some (.slice e):=by
      unfold jh at ht
      split at ht<;>cases ht
      assumption
     have ap:∀{r:Value}{w':World},(Builtin.append_ #[t,u] o.type #[a.eval ox,a.eval oy]).run P w= .ok r w'->(execOp a.eval o).run P w= .ok (.value r) w':=by
      intro r w' hr
      have e2:c.args.map a.eval= #[a.eval ox,a.eval oy]:=Array.ext' (by rw[ZZ,aE];rfl)
      have e3:c.argTypes= #[t,u]:=Array.ext' aP
      simp only[execOp,b7,resolve,aO,Sem.run_bind,Sem.run_pure,Result.andThen_ok,invoke,e3,e2,builtin,hr]
     have rx:=aD s hx
     have ry:=aD s hy
     have facts:∀{st:List UInt8},isStr (y.ev Z)=some st->(∀w,(Builtin.lenOf (a.eval oy)).run P w= .ok (ar st).length w)/\ (∀w':World,(∀b,b<w.heap.size->w'.heap[b]? =w.heap[b]?)->(Builtin.firstCells i.size (ar st).length (a.eval oy)).run P w'= .ok (st.map fun b=>Value.int .u8 b.toNat).toArray w'):=by
      intro st aH
      have ey:=ry.str aH
      have hl:(ar st).length=st.length:=by simp[ar]
      rw[ey,hl]
      refine⟨fun w=>by simp[Builtin.lenOf,ByteArray.size],fun w' _=> ?_⟩
      have hex:(⟨st.toArray⟩:ByteArray).extract 0 st.length=⟨st.toArray⟩:=by
       apply ByteArray.ext
       simp[ByteArray.data_extract]
      simp[Builtin.firstCells,hex]
     have hl:∀st:List UInt8,(ar st).length=st.length:=fun st=>by simp[ar]
     have au:∀(st:List UInt8),∀e∈ar st,e.length=i.size:=fun st e' aV=>by
      rw[aG]
      simp only[ar,V']at aV
      obtain⟨b,_,rfl⟩:=aV
      rfl
     have aK:∀(st:List UInt8)(i':Nat)(e:List PV)(j:Nat)(p:PV),(ar st)[i']? =some e->e[j]? =some p->∃v,(st.map fun b=>Value.int .u8 b.toNat)[i'*i.size+j]? =some v/\ aq (Mu M0 J Z.h) w p v:=fun st=>by rw[aG];exact KD st
     have bu:∀(st:List UInt8),∀v∈(st.map fun b=>Value.int .u8 b.toNat),v.oneCell'=true:=fun st v hv=>by
      obtain⟨b,_,rfl⟩:=V'.1 hv
      rfl
     have ba:(Value.int .u8 0).cells.size=i.size:=by rw[aG];rfl
     simp only[cz]at he
     split at he
     ·rename_i st aS aH
      rw[aS]at rx
      split at he
      ·rename_i ai
       obtain⟨hb,aF⟩:=ai
       cases he
       obtain⟨f1,f2⟩:=facts aH
       have:=ua.turns (append_nil s (ys:=ar st) (news:=st.map fun b=>Value.int .u8 b.toNat) hu (.inl b9) hi aI ba ap f1 (au st) (by omega) (by simp[hl,aG]) f2 (bu st) (aK st) rx (by rw[hl,bb];exact hb) (by rw[hl];exact aF))
       rwa[aG]at this
      ·cases he
     ·rename_i ob st aS aH
      rw[aS]at rx
      split at he
      ·rename_i z' es a8
       split at he
       ·rename_i ai
        obtain⟨rfl,hb,aF⟩:=ai
        cases he
        obtain⟨f1,f2⟩:=facts aH
        rw[<-aG]at a8
        have:=ua.turns (xY s (ys:=ar st) (news:=st.map fun b=>Value.int .u8 b.toNat) hu (.inl b9) hi aI ba ap f1 (au st) (by omega) (by simp[hl,aG]) f2 (bu st) (aK st) a8 rx (by rw[hl,bb];exact hb) (by rw[hl];exact aF))
        rwa[aG]at this
       ·cases he
      ·cases he
     ·cases he
    ·cases hc
   ·cases hc
  ·cases hc
 ·split at hc
  ·(repeat' (split at hc))<;>cases hc
  ·cases hc
 ·split at hc
  ·(repeat' (split at hc))<;>cases hc
  ·cases hc
 ·cases hc
end
end Gi
