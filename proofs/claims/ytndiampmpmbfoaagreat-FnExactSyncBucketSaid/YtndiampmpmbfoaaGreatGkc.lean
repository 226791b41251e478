/- A part. -/
import Derived.Test.YtndiampmpmbfoaaGreatGip
import Derived.Test.YtndiampmpmbfoaaGreatGps
import Derived.Test.YtndiampmpmbfoaaGreatGka
set_option linter.all false
namespace Gi
open Go Go.RowKit
variable {KI:KF}
structure ZB (w W:World) (b:Nat):Prop where
 os:W.os=w.os
 tape:W.tape=w.tape
 output:W.output=w.output
 size:w.heap.size<=W.heap.size
 block:∀k,k<w.heap.size->k≠b->W.heap[k]? =w.heap[k]?
def ZB.below {w W W':World}{b:Nat}(h:ZB w W b)(g:Below W.heap.size W W'):ZB w W' b:=
 ⟨g.os.trans h.os,g.tape.trans h.tape,g.output.trans h.output,Zc h.size g.size,fun k hk hb=>(g.block k (ZG hk h.size)).trans (h.block k hk hb)⟩
def Below.cY {w W:World}{b:Nat}(g:Below w.heap.size w W):ZB w W b:=⟨g.os,g.tape,g.output,g.size,fun k hk _=>g.block k hk⟩
def fO.below {w W:World}{b:Nat}{cur:Array Value}(h:fO w b cur)(g:Below w.heap.size w W):fO W b cur:=by
 obtain⟨T,hT⟩:=h
 have a2:b<w.heap.size:=by
  rcases Nat.lt_or_ge b w.heap.size with q|q
  ·exact q
  ·rw[Za4 q]at hT;cases hT
 exact⟨T,(g.block b a2).trans hT⟩
def kE (p:Nat->Bool)(n:Nat):List Nat:=(List.range n).filter fun j=> !p j
def EG (p:Nat->Bool)(n:Nat):kE p (n+1)=kE p n++(if p n then []else [n]):=by
 unfold kE
 rw[List.range_succ,List.filter_append]
 congr 1
 cases h:p n<;>simp[Zd0,h]
def TJ {p:Nat->Bool}{n t u:Nat}(h:(kE p n)[t]? =some u):u<n:=by
 have:=Zl h
 simp only[kE,List.mem_filter,List.mem_range]at this
 exact this.1
def Ck {p:Nat->Bool}{n:Nat}(h:∀j,j<n->p j=false):kE p n=List.range n:=by
 unfold kE
 rw[List.filter_eq_self]
 intro j hj
 rw[h j (by simpa using hj)];rfl
structure ZA (p:Nat->Bool) (z:Nat) (w wr:World) (b:Nat) (cur ck:Array Value) (i j:Nat):Prop where
 rel:ZB w wr b
 row:fO wr b ck
 size:ck.size=cur.size
 len:i=(kE p j).length
 lt:i<j
 low:∀(t u:Nat),(kE p j)[t]? =some u->∀q,q<z->ck[t*z+q]? =cur[u*z+q]?
 high:∀u,j*z<=u->ck[u]? =cur[u]?
def ZA.start {p:Nat->Bool}{z:Nat}{w wr:World}{b k:Nat}{cur:Array Value}(h:Below w.heap.size w wr)(hr:fO w b cur)(hk:p k=true)(hj:∀j,j<k->p j=false):ZA p z w wr b cur cur k (k+1):=by
 have e:kE p (k+1)=List.range k:=by rw[EG,Ck hj,hk];simp
 refine⟨Below.cY h,fO.below hr h,rfl,by rw[e,List.length_range],by omega,fun t u ht q hq=> ?_,fun _ _=>rfl⟩
 rw[e]at ht
 obtain⟨h1,h2⟩:=Zb.1 ht
 simp at h2
 rw[h2]
def GR {i j z:Nat}(h:i<j):i*z+z<=j*z:=by
 calc i*z+z=(i+1)*z:=by rw[Nat.add_mul,D']
  _<=j*z:=ZH _ h
section
variable {p:Nat->Bool}{z:Nat}{w wr w2:World}{b i j:Nat}{cur ck:Array Value}
def ZA.skip (h:ZA p z w wr b cur ck i j)(hp:p j=true)(hd:Below wr.heap.size wr w2):ZA p z w w2 b cur ck i (j+1):=by
 have e:kE p (j+1)=kE p j:=by rw[EG,hp];simp
 refine⟨h.rel.below hd,h.row.below hd,h.size,by rw[e];exact h.len,Nat.lt_succ_of_lt h.lt,by rw[e];exact h.low,fun u hu=>h.high u ?_⟩
 have:=GR (z:=z) (show j<j+1 by omega)
 omega
def ZA.keep (h:ZA p z w wr b cur ck i j)(hp:p j=false)(hd:Below wr.heap.size wr w2){vs:List Value}(hl:vs.length=z)(hv:∀q,q<z->vs[q]? =cur[j*z+q]?)(hj:j*z+z<=cur.size):∃a5,ZA p z w (w2.setCells b (i*z) vs) b cur a5 (i+1) (j+1):=by
 have e:kE p (j+1)=kE p j++[j]:=by rw[EG,hp];simp
 have bL:=GR (z:=z) h.lt
 have bZ:=GR (z:=z) (show j<j+1 by omega)
 obtain⟨a5,h1,h2,h3⟩:=eC b vs (i*z) w2 ck (h.row.below hd) (by rw[hl,h.size];omega)
 have a7:=cS b 0 (Zb9 _) vs (i*z) w2 w2 (Below.refl _ _)
 have d2:=h.rel.below hd
 refine⟨a5,⟨a7.os.trans d2.os,a7.tape.trans d2.tape,a7.output.trans d2.output,by rw[dR];exact d2.size,fun k hk hb=>(dP b vs (i*z) w2 k hb).trans (d2.block k hk hb)⟩,h1,h2.trans h.size,by rw[e,Zu,<-h.len];rfl,Nat.succ_lt_succ h.lt,fun t u a6 q hq=> ?_,fun u hu=> ?_⟩
 ·rw[e]at a6
  rw[h3]
  by_cases ht:t<i
  ·rw[Ze (by rw[<-h.len];exact ht)]at a6
   have:=LO ht hq
   rw[if_neg (by omega)]
   exact h.low t u a6 q hq
  ·have aP:=(Zb.1 a6).1
   rw[Zu,<-h.len]at aP
   simp only[Zo,Zx]at aP
   obtain rfl:t=i:=by omega
   rw[Zk (by rw[<-h.len];exact Zn _),<-h.len,Zb6,A']at a6
   cases a6
   rw[if_pos ⟨by omega,by omega⟩,show t*z+q-t*z=q by omega]
   exact hv q hq
 ·rw[h3,if_neg (by omega)]
  exact h.high u (by omega)
def ZA.done (h:ZA p z w wr b cur ck i j){vs:List Value}(hl:vs.length=(j-i)*z)(hj:j*z<=cur.size):∃a5,fO (wr.setCells b (i*z) vs) b a5/\ a5.size=cur.size/\ ZB w (wr.setCells b (i*z) vs) b/\ ∀(t u:Nat),(kE p j)[t]? =some u->∀q,q<z->a5[t*z+q]? =cur[u*z+q]? :=by
 have hm:i*z+(j-i)*z=j*z:=by rw[<-Nat.add_mul,show i+(j-i)=j by have:=h.lt;omega]
 obtain⟨a5,h1,h2,h3⟩:=eC b vs (i*z) wr ck h.row (by rw[hl,h.size,hm];exact hj)
 have a7:=cS b 0 (Zb9 _) vs (i*z) wr wr (Below.refl _ _)
 refine⟨a5,h1,h2.trans h.size,⟨a7.os.trans h.rel.os,a7.tape.trans h.rel.tape,a7.output.trans h.rel.output,by rw[dR];exact h.rel.size,fun k hk hb=>(dP b vs (i*z) wr k hb).trans (h.rel.block k hk hb)⟩,fun t u a6 q hq=> ?_⟩
 have ht:t<i:=by rw[h.len];exact(Zb.1 a6).1
 have:=LO ht hq
 rw[h3,if_neg (by omega)]
 exact h.low t u a6 q hq
end
def IG {zs:Array Value}{n:Nat}{P:Value->Prop}(h:∀v∈zs,P v)(hz:0<zs.size):∀v∈(Builtin.zeroCells zs n).toList,P v:=by
 intro v hv
 simp only[Builtin.zeroCells,ZZ,V']at hv
 obtain⟨i,_,rfl⟩:=hv
 have a2:=Nat.mod_lt i hz
 rw[getElem!_pos zs _ a2]
 exact h _ (Array.getElem_mem a2)
def Nh {P:Program}(w:World)(t e ty:TypeId)(zv:Value)(z:Nat)(ht:P.underlying t=some (.slice e))(hv:∀w,(zeroValue e).run P w= .ok zv w)(hz:zv.cells.size=z)(cb:0<z)(h1:∀v∈zv.cells,v.oneCell'=true)(b o n c:Nat)(hn:0<n)
 (hc:∀j,j<n*z->(w.cell? ⟨b,o+j,none⟩).isSome=true) (hf:∀j,j<n*z->w.frozen? ⟨b,o+j,none⟩=false):
 (Builtin.clear_ #[t] ty #[.slice (some ⟨b,o,none⟩) n c]).run P w= .ok (.tuple #[]) (w.setCells b o (Builtin.zeroCells zv.cells n).toList):=by
 have hl:(Builtin.zeroCells zv.cells n).toList.length=n*z:=by rw[N',<-hz];unfold Builtin.zeroCells;rw[Array.size_map,Array.size_range]
 have aQ:=run_storeCells_cells (P:=P) b o (Builtin.zeroCells zv.cells n).toList 0 w (by rw[hl];simpa using hc) (by rw[hl];simpa using hf) (IG h1 (by omega))
 simp only[Za7]at aQ
 obtain⟨m,rfl⟩:∃m,n=m+1:=⟨n-1,by omega⟩
 simp[Builtin.clear_,run_underlying ht,hv,aQ]
def fA {w W:World}{b o:Nat}{v:Value}(h:w.cell? ⟨b,o,none⟩=some v)(g:Below w.heap.size w W):W.cell? ⟨b,o,none⟩=some v:=by
 have a2:b<w.heap.size:=by
  rcases Nat.lt_or_ge b w.heap.size with q|q
  ·exact q
  ·simp[World.cell?,Za4 q]at h
 unfold World.cell? at*
 rw[g.block b a2]
 exact h
def rV {w W W':World}(h:Below w.heap.size w W)(g:Below W.heap.size W W'):Below w.heap.size w W':=
 ⟨g.os.trans h.os,g.tape.trans h.tape,g.output.trans h.output,Zc h.size g.size,fun k hk=>(g.block k (ZG hk h.size)).trans (h.block k hk)⟩
def vl (w:World)(o:Obj):Below w.heap.size w (w.alloc o):=⟨rfl,rfl,rfl,by simp,fun k hk=>fb w o k hk⟩
def WW (P:Program)(f z:Nat):Prop:=
 ∀(w:World)(fc:FuncId)(cs:Array Value)(p:Nat->Bool),(∀args w,(callFunc fc args).run P w= .ok (.enter fc args) w)->
  (∀ad:Option Addr,Calls P f #[.slice ad 0 0, .func (.func fc) #[] cs] w fun e w'=>e= .returned (.slice ad 0 0)/\ Below w.heap.size w w')/\
  ∀(b n cap:Nat)(cur:Array Value),fO w b cur->cur.size=cap*z->n<=cap->cap<=maxLen->(∀(u:Nat)v,u<n*z->cur[u]? =some v->v.oneCell'=true)->
   (∀j,j<n->∀W,ZB w W b->Calls P fc (#[.agg (cur.extract (j*z) (j*z+z))]++cs) W fun e W'=>e= .returned (.bool (p j))/\ Below W.heap.size W W')->
   Calls P f #[.slice (some ⟨b,0,none⟩) n cap, .func (.func fc) #[] cs] w fun e w'=>∃cur',e= .returned (.slice (some ⟨b,0,none⟩) (kE p n).length cap)/\ fO w' b cur'/\ cur'.size=cur.size/\ ZB w w' b/\
    ∀(t u:Nat),(kE p n)[t]? =some u->∀q,q<z->cur'[t*z+q]? =cur[u*z+q]?
def Mx (p:List PV->Bool)(es:List (List PV)):(kE (fun j=>match es[j]? with|some e=>p e|none=>false) es.length).length=(es.filter fun e=> !p e).length/\
 ∀(t:Nat)(e:List PV),(es.filter fun e=> !p e)[t]? =some e->∃u,(kE (fun j=>match es[j]? with|some e=>p e|none=>false) es.length)[t]? =some u/\ es[u]? =some e:=by
 have key:∀k,k<=es.length->(es.take k).filter (fun e=> !p e)=(kE (fun j=>match es[j]? with|some e=>p e|none=>false) k).filterMap (fun u=>es[u]?)/\
  (kE (fun j=>match es[j]? with|some e=>p e|none=>false) k).length=((es.take k).filter (fun e=> !p e)).length:=by
  intro k
  induction k with
  |zero=>intro _;simp[kE]
  |succ k ih=>
   intro hk
   obtain⟨i1,i2⟩:=ih (by omega)
   have a2:k<es.length:=by omega
   rw[ZX a2,List.filter_append,EG,List.filterMap_append,Zu,Zu,<-i1,<-i2,Zm a2]
   cases h:p es[k]<;>simp[Zd0,h,a2]
 obtain⟨k1,k2⟩:=key es.length (Zn _)
 rw[F']at k1 k2
 refine⟨k2,fun t e he=> ?_⟩
 generalize hK:kE (fun j=>match es[j]? with|some e=>p e|none=>false) es.length=K at k1 k2
 have ax:∀u∈K,∃x,es[u]? =some x:=fun u hu=>by
  rw[<-hK]at hu
  obtain⟨i,hi⟩:=List.mem_iff_getElem?.1 hu
  exact⟨_,Zm (TJ hi)⟩
 have b5:∀(K:List Nat),(∀u∈K,∃x,es[u]? =some x)->∀(t:Nat)(e:List PV),(K.filterMap fun u=>es[u]?)[t]? =some e->∃u,K[t]? =some u/\ es[u]? =some e:=by
  intro K
  induction K with
  |nil=>intro _ t e h;simp at h
  |cons u K ih=>
   intro ha t e h
   obtain⟨x,hx⟩:=ha u (by simp)
   rw[Zc8,hx]at h
   cases t with
   |zero=>simp only[A']at h;cases h;exact⟨u,rfl,hx⟩
   |succ t=>simp only[P']at h⊢;exact ih (fun u hu=>ha u (by simp[hu])) t e h
 rw[k1]at he
 exact b5 K ax t e he
def UK {Γ:Ctx}{P:Program}{f z:Nat}(hv:WW P f z):UC Γ P f z:=by
 intro c cs es p b6 b7
 have aX:∀fc,kf fc=some c->∀(args:Array Value)(w:World),(callFunc fc args).run P w= .ok (.enter fc args) w:=fun fc ab args w=>by
  obtain⟨fn,h1,h2,h3⟩:=b6 fc ab
  simp only[callFunc,run_program,Sem.run_bind,Result.andThen_ok,h1,h2,h3]
  simp
 constructor
 ·intro ak M w g ad hG hg
  obtain⟨fc,an,rfl,ab,hlen,ao⟩:=hg
  exact(hv w fc an (fun _=>false) (aX fc ab)).1 ad
 ·intro hz ak
  refine⟨fun e he=>ak e (List.mem_filter.1 he).1,List.length_filter_le _ _,?_⟩
  intro M w g b cap cur hG hB hM hg b0 ay b1 hn ar a1
  obtain⟨fc,an,rfl,ab,hlen,ao⟩:=hg
  obtain⟨f1,f2⟩:=Mx p es
  obtain⟨pN,b2⟩:∃pN:Nat->Bool,pN=fun j=>match es[j]? with|some e=>p e|none=>false:=⟨_,rfl⟩
  rw[<-b2]at f1 f2
  have b8:∀j(hj:j<es.length),pN j=p es[j]:=fun j hj=>by rw[b2];simp only[Zm hj]
  refine((hv w fc an pN (aX fc ab)).2 b es.length cap cur ay b1 hn ar ?_ ?_).mono ?_
  ·intro u v hu hc
   have hd:=Nat.div_add_mod u z
   have hm:=Nat.mod_lt u hz
   have hj:u/z<es.length:=(Nat.div_lt_iff_lt_mul hz).2 hu
   have he:=Zm hj
   have hl:=ak _ (Zf hj)
   obtain⟨v',af,hr⟩:=a1 (u/z) _ (u%z) _ he (Zm (by rw[hl];exact hm))
   rw[Zb5,hd,hc]at af
   cases af
   exact hr.one
  ·intro j hj W hW
   have he:=Zm hj
   have hl:=ak _ (Zf hj)
   have aD:ZD M M w W:=⟨hW.size,fun _ _ h=>h,fun k hk hm=>hW.block k hk (fun e=>hm (e▸b0))⟩
   have bb:Γ.G W:=Γ.keep w W hG ⟨hW.os,hW.tape,hW.output,hW.size,fun k hk=>hW.block k (ZG hk (Γ.size w hG)) (by omega)⟩
   have aF:j*z+z<=cur.size:=by
    rw[b1]
    calc j*z+z=(j+1)*z:=by rw[Nat.add_mul,D']
     _<=cap*z:=ZH _ (by omega)
   have hs:=b7 _ (Zf hj) fc ab
   rw[b8 j hj]
   have ha:qi M W (.agg (es[j].map .pv)::cs.map tm) (#[Value.agg (cur.extract (j*z) (j*z+z))]++an).toList:=by
    refine⟨by simp[hlen],fun i x u hx hu=> ?_⟩
    cases i with
    |zero=>
     simp only[A']at hx
     cases hx
     have bg:Value.agg (cur.extract (j*z) (j*z+z))=u:=by simpa using hu
     rw[<-bg]
     refine⟨_,rfl,by simp[hl];omega,fun q l v hq hv=> ?_⟩
     rw[Zp]at hq
     cases hp:es[j][q]? with
     |none=>rw[hp]at hq;cases hq
     |some pv=>
      rw[hp]at hq
      cases hq
      have cc:q<z:=by have:=(Zb.1 hp).1;omega
      obtain⟨v',af,hr⟩:=a1 j _ q pv he hp
      have b3:(cur.extract (j*z) (j*z+z))[q]? =some v:=by rw[<-Array.getElem?_toList];exact hv
      rw[Array.getElem?_extract,if_pos (by omega),af]at b3
      cases b3
      exact aq.go aD pv _ hr
    |succ i=>
     rw[P',Zp]at hx
     have bk:an[i]? =some u:=by simpa using hu
     cases hc:cs[i]? with
     |none=>rw[hc]at hx;cases hx
     |some e=>
      rw[hc]at hx
      cases hx
      exact((ao i e u hc bk).go aD).arg
   have hS:=hs.2 M W _ bb (fun k hk=>ZG (hM k hk) hW.size) ha
   refine hS.mono fun e w'⟨v,bl,hb,J',_,bn⟩=> ?_
   have aH:aq (Mu M J' []) w' (.bool (p es[j])) v:=bn
   have:v= .bool (p es[j]):=by simpa only[aq]using aH
   subst this
   exact⟨bl,hb⟩
  ·intro e w' ⟨cur',he,bo,bx,hd,a8⟩
   refine⟨cur',by rw[he,f1],bo,bx,hd.os,hd.tape,hd.output,hd.size,hd.block,?_⟩
   intro i e j pv hi hj
   obtain⟨u,hu,heu⟩:=f2 i e hi
   have aD:ZD M M w w':=⟨hd.size,fun _ _ h=>h,fun k hk hm=>hd.block k hk (fun e=>hm (e▸b0))⟩
   have bE:j<z:=by
    have h1:=(Zb.1 hj).1
    rw[ak e (Zl heu)]at h1;exact h1
   obtain⟨v,af,hr⟩:=a1 u e j pv heu hj
   exact⟨v,by rw[a8 i u hu j bE];exact af,hr⟩
end Gi
namespace Gi
open Go Go.RowKit
mutual
def XD :PTy->Bool
 | .lst ts=>decide (ts.length<=64)&&OQ ts
 |_=>true
def OQ :List PTy->Bool
 |[]=>true
 |t::ts=>XD t&&OQ ts
end
mutual
def U5 (mT:Int->List UInt8):∀(p:PV)(t:PTy)(k:Int),oq t p->XD t=true->(lN mT p k).2<=k+1+64*(sz p:Int)
 | .int κ n,t,k,h,hn=>by simp only[lN,sz];omega
 | .bool b,t,k,h,hn=>by simp only[lN,sz];omega
 | .str s,t,k,h,hn=>by simp only[lN,sz];omega
 | .lst rows,t,k,h,hn=>by
  cases t with
  |lst ts=>
   simp only[XD,Zh,decide_eq_true_eq]at hn
   have:=KB mT rows ts k (bi h).2 hn.1 hn.2
   rw[lY]
   simp only[lN]
   omega
  |int κ=>simp[oq]at h
  |bool=>simp[oq]at h
  |str=>simp[oq]at h
def Qc (mT:Int->List UInt8):∀(ps:List PV)(ts:List PTy)(k:Int),bF ts ps->OQ ts=true->(qe mT ps k).2<=k+ps.length+64*(eN ps:Int)
 |[],ts,k,h,hn=>by simp only[qe,eN,Zx];omega
 |p::ps,[],k,h,hn=>by simp[bF]at h
 |p::ps,t::ts,k,h,hn=>by
  simp only[OQ,Zh]at hn
  have h1:oq t p/\ bF ts ps:=by simpa only[bF]using h
  have a:=U5 mT p t k h1.1 hn.1
  have b:=Qc mT ps ts (lN mT p k).2 h1.2 hn.2
  simp only[qe,eN,Zo]
  omega
def KB (mT:Int->List UInt8):∀(rows:List (List PV))(ts:List PTy)(k:Int),(∀r∈rows,bF ts r)->ts.length<=64->OQ ts=true->(cM mT rows k).2<=k+64*((rows.length:Int)+(bI rows:Int))
 |[],ts,k,h,hl,hn=>by simp only[cM,bI,Zx];omega
 |r::rows,ts,k,h,hl,hn=>by
  have hr:=h r (by simp)
  have a:=Qc mT r ts k hr hn
  have b:=KB mT rows ts (qe mT r k).2 (fun r m=>h r (by simp[m])) hl hn
  have:=kN hr
  simp only[cM,bI,Zo]
  omega
end
def wU (mT:Int->List UInt8):∀(ps:List PV)(ts:List PTy)(k:Int),bF ts ps->OQ ts=true->(fY mT ps k).2<=k+64*(eN ps:Int)
 |[],ts,k,h,hn=>by simp only[fY,eN];omega
 |p::ps,[],k,h,hn=>by simp[bF]at h
 |p::ps,t::ts,k,h,hn=>by
  simp only[OQ,Zh]at hn
  have h1:oq t p/\ bF ts ps:=by simpa only[bF]using h
  cases p with
  |lst rows=>
   cases t with
   |lst us=>
    have aI:=hn.1
    simp only[XD,Zh,decide_eq_true_eq]at aI
    have a:=KB mT rows us k (bi h1.1).2 aI.1 aI.2
    have b:=wU mT ps ts (cM mT rows k).2 h1.2 hn.2
    simp only[fY,eN,lY]
    omega
   |int κ=>simp[oq]at h1
   |bool=>simp[oq]at h1
   |str=>simp[oq]at h1
  |int κ n=>have b:=wU mT ps ts k h1.2 hn.2;simp only[fY,eN];omega
  |bool c=>have b:=wU mT ps ts k h1.2 hn.2;simp only[fY,eN];omega
  |str s=>have b:=wU mT ps ts k h1.2 hn.2;simp only[fY,eN];omega
def Vf {ts:List PTy}{ps:List PV}(h:bF ts ps):(iT ts ps).map df=ps.map .pv:=by
 refine gD (P:=fun ts ps=>(iT ts ps).map df=ps.map .pv) rfl ?_ ?_ ts ps h
 ·intro us rows ts ps _ _ ih
  cases rows<;>simp only[iT,yO,Zv,df,ih]
 ·intro t p ts ps h1 ht hp _ ih
  simp only[iT,Ac ht h1,Zv,df,ih]
def RZ {ts:List PTy}{ps:List PV}(h:bF ts ps)(hh:List Y0):sw hh (.agg (iT ts ps))=(.agg (j4 hh.length ts ps),hh++iD ts ps):=by
 have key:∀(ts:List PTy)(ps:List PV),bF ts ps->∀hh:List Y0,∃ds,thawL hh (iT ts ps)=(j4 hh.length ts ps,hh++ds)/\ ds.map Y0.zone=iD ts ps:=by
  refine gD ?_ ?_ ?_
  ·intro hh;exact⟨[],by simp[iT,thawL,j4],rfl⟩
  ·intro us rows ts ps _ _ ih hh
   cases rows with
   |nil=>
    obtain⟨ds,e1,e2⟩:=ih (hh++[.arr us.length []])
    refine⟨.arr us.length []::ds,?_,by simp only[Zv,e2,Y0.zone,iD]⟩
    simp only[iT,yO,thawL,e1,j4,Zu,ZN,List.append_assoc,Zg,Zi]
   |cons r rows=>
    obtain⟨ds,e1,e2⟩:=ih (hh++[.bA us.length (r::rows)])
    refine⟨.bA us.length (r::rows)::ds,?_,by simp only[Zv,e2,Y0.zone,iD]⟩
    simp only[iT,yO,thawL,e1,j4,Zu,ZN,List.append_assoc,Zg,Zi]
  ·intro t p ts ps h1 ht hp _ ih hh
   obtain⟨ds,e1,e2⟩:=ih hh
   refine⟨ds,?_,by rw[e2,iQ ht]⟩
   simp only[iT,Ac ht h1]
   rw[ny ht]
   simp only[thawL,e1]
 obtain⟨ds,e1,_⟩:=key ts ps h hh
 obtain⟨cd,f1,f2⟩:=key ts ps h []
 simp only[sw,thaw,e1,f1,Zi,f2]
end Gi
namespace Gi
open Go Go.RowKit
set_option maxHeartbeats 8000000
set_option maxRecDepth 8000
attribute [local simp] start fB ap ah aG bc bG cz Opd.ev put V.cells plain bA gv isInt isStr isBool bin cG un asList L.view al V.view viewL aZ am cj bS comp aO bJ aj V.flat L.flat da df bD putAt freezeVs freezeLs freezeL V.mut L.mut lent Y0.bX L.bK qZ uK kP uT lW xK PV.bare PV.flat kG ed thaw thawL Y0.zone jx xD Iv iv r9 SI Xn SJ MS.ts iO iu iC fQ iB
def ln (z:Nat):List (List PV)->L
 |[]=> .pv (.lst [])
 |r::rs=> .down z (r::rs)
def oz (z:Nat)(rows au:List (List PV)):List (Bool×List L):=match rows with
 |[]=>[]
 |_::_=>[(false,[.down z au])]
def Ji (z:Nat)(c:List (List PV)):(c=[]/\ nd z c= .nil/\ ln z c= .pv (.lst [])/\ (∀r,oz z c r=[])/\ Ct z c= .nil) \/(c≠[]/\ nd z c= .down z c/\ ln z c= .down z c/\ (∀r,oz z c r=[(false,[.down z r])])/\ Ct z c= .own z c):=by
 cases c with
 |nil=>exact .inl ⟨rfl,rfl,rfl,fun _=>rfl,rfl⟩
 |cons r rs=>exact .inr ⟨by simp,rfl,rfl,fun _=>rfl,rfl⟩
def qs (c3 c4 c6 c7 c8 c9:List (List PV))(k:Int):List (List (List PV)×Int):=
 let q3:=cM av c3 k
 let q4:=cM av c4 q3.2
 let q6:=cM av c6 q4.2
 let q7:=cM av c7 q6.2
 let q8:=cM av c8 q7.2
 let q9:=cM av c9 q8.2
 [q3,q4,q6,q7,q8,q9]
def Ef (k:Int):ag Ph aC (426+fH) [.agg [.pv (.lst [])],aa .i64 k]=some (.b9 [(false,[.pv (.int .i64 k)])]):=by
 have c:=(vP (ext:=aC)).1 k
 refine vq (fn:=mY) rfl rfl rfl ?_
 simp[mY,c]
def Yy {c0 c2 c5:Int}{on:Bool}{c3 c4 c6 c7 c8 c9:List (List PV)}(h:bF fS [.int .i64 c0, .bool on, .int .i64 c2, .lst c3, .lst c4, .int .i64 c5, .lst c6, .lst c7, .lst c8, .lst c9]){k:Int}(k0:0<=k)(hk:(cM av c9 (cM av c8 (cM av c7 (cM av c6 (cM av c4 (cM av c3 k).2).2).2).2).2).2<=xN):
 ag Ph aC (420+fH) [.agg [.pv (.int .i64 c0), .pv (.bool on), .pv (.int .i64 c2),ln 24 c3, .down 11 c4, .pv (.int .i64 c5), .down 4 c6, .down 3 c7,ln 4 c8,ln 5 c9],aa .i64 k]=some (.b9 ((false,[.pv (.int .i64 (cM av c9 (cM av c8 (cM av c7 (cM av c6 (cM av c4 (cM av c3 k).2).2).2).2).2).2)])::(oz 24 c3 (cM av c3 k).1++((false,[.down 11 (cM av c4 (cM av c3 k).2).1])::(false,[.down 4 (cM av c6 (cM av c4 (cM av c3 k).2).2).1])::(false,[.down 3 (cM av c7 (cM av c6 (cM av c4 (cM av c3 k).2).2).2).1])::(oz 4 c8 (cM av c8 (cM av c7 (cM av c6 (cM av c4 (cM av c3 k).2).2).2).2).1++oz 5 c9 (cM av c9 (cM av c8 (cM av c7 (cM av c6 (cM av c4 (cM av c3 k).2).2).2).2).2).1))))):=by
 simp only[fS,bF]at h
 obtain⟨_,_,_,g3,g4,_,g6,g7,g8,g9,_⟩:=h
 have l3:=pW (mT:=av) c3 k
 have l4:=pW (mT:=av) c4 (cM av c3 k).2
 have l6:=pW (mT:=av) c6 (cM av c4 (cM av c3 k).2).2
 have l7:=pW (mT:=av) c7 (cM av c6 (cM av c4 (cM av c3 k).2).2).2
 have l8:=pW (mT:=av) c8 (cM av c7 (cM av c6 (cM av c4 (cM av c3 k).2).2).2).2
 have l9:=pW (mT:=av) c9 (cM av c8 (cM av c7 (cM av c6 (cM av c4 (cM av c3 k).2).2).2).2).2
 have s3:ag Ph aC (426+fH) [.agg [ln 24 c3],aa .i64 k]=some (.b9 ((false,[.pv (.int .i64 (cM av c3 k).2)])::oz 24 c3 (cM av c3 k).1)):=by
  cases c3 with
  |nil=>exact Ef k
  |cons r rs=>exact vR (ext:=aC) [.lst (r::rs)] ⟨g3,trivial⟩ k k0 (by show(cM av (r::rs) k).2<=xN;omega)
 have s4:ag Ph aC (427+fH) [.one (.down 11 c4),aa .i64 (cM av c3 k).2]=some (.b9 [(false,[.pv (.int .i64 (cM av c4 (cM av c3 k).2).2)]),(false,[.down 11 (cM av c4 (cM av c3 k).2).1])]):=(AA (ext:=aC)).2 c4 g4 _ (by omega) (by omega)
 have s6:ag Ph aC (428+fH) [.agg [.down 4 c6],aa .i64 (cM av c4 (cM av c3 k).2).2]=some (.b9 [(false,[.pv (.int .i64 (cM av c6 (cM av c4 (cM av c3 k).2).2).2)]),(false,[.down 4 (cM av c6 (cM av c4 (cM av c3 k).2).2).1])]):=tL (ext:=aC) [.lst c6] ⟨g6,trivial⟩ _ (by omega) (by show(cM av c6 _).2<=xN;omega)
 have s7:ag Ph aC (429+fH) [.agg [.down 3 c7],aa .i64 (cM av c6 (cM av c4 (cM av c3 k).2).2).2]=some (.b9 [(false,[.pv (.int .i64 (cM av c7 (cM av c6 (cM av c4 (cM av c3 k).2).2).2).2)]),(false,[.down 3 (cM av c7 (cM av c6 (cM av c4 (cM av c3 k).2).2).2).1])]):=vQ (ext:=aC) [.lst c7] ⟨g7,trivial⟩ _ (by omega) (by show(cM av c7 _).2<=xN;omega)
 have s8:ag Ph aC (430+fH) [.one (ln 4 c8),aa .i64 (cM av c7 (cM av c6 (cM av c4 (cM av c3 k).2).2).2).2]=some (.b9 ((false,[.pv (.int .i64 (cM av c8 (cM av c7 (cM av c6 (cM av c4 (cM av c3 k).2).2).2).2).2)])::oz 4 c8 (cM av c8 (cM av c7 (cM av c6 (cM av c4 (cM av c3 k).2).2).2).2).1)):=by
  cases c8 with
  |nil=>exact(uD (ext:=aC)).1 _
  |cons r rs=>exact(uD (ext:=aC)).2 (r::rs) g8 _ (by omega) (by omega)
 have s9:ag Ph aC (431+fH) [.one (ln 5 c9),aa .i64 (cM av c8 (cM av c7 (cM av c6 (cM av c4 (cM av c3 k).2).2).2).2).2]=some (.b9 ((false,[.pv (.int .i64 (cM av c9 (cM av c8 (cM av c7 (cM av c6 (cM av c4 (cM av c3 k).2).2).2).2).2).2)])::oz 5 c9 (cM av c9 (cM av c8 (cM av c7 (cM av c6 (cM av c4 (cM av c3 k).2).2).2).2).2).1)):=by
  cases c9 with
  |nil=>exact(re (ext:=aC)).1 _
  |cons r rs=>exact(re (ext:=aC)).2 (r::rs) g9 _ (by omega) (by omega)
 clear hk k0 g3 g4 g6 g7 g8 g9 l3 l4 l6 l7 l8 l9
 generalize cM av c3 k=q3 at s3 s4 s6 s7 s8 s9⊢
 generalize cM av c4 q3.2=q4 at s4 s6 s7 s8 s9⊢
 generalize cM av c6 q4.2=q6 at s6 s7 s8 s9⊢
 generalize cM av c7 q6.2=q7 at s7 s8 s9⊢
 generalize cM av c8 q7.2=q8 at s8 s9⊢
 generalize cM av c9 q8.2=q9 at s9⊢
 rcases Ji 24 c3 with⟨_,_,u3,v3,_⟩|⟨_,_,u3,v3,_⟩<;>rcases Ji 4 c8 with⟨_,_,u8,v8,_⟩|⟨_,_,u8,v8,_⟩<;>rcases Ji 5 c9 with⟨_,_,u9,v9,_⟩|⟨_,_,u9,v9,_⟩<;>simp only[u3,v3,u8,v8,u9,v9]at s3 s8 s9⊢ <;>(refine vq (fn:=oS) rfl rfl rfl ?_;simp[oS,s3,s4,s6,s7,s8,s9])
def WR (c0:Int)(c1:Bool)(c2:Int)(c3 c4:List (List PV))(c5:Int)(c6 c7 c8 c9:List (List PV)):List PV:=[.int .i64 c0, .bool c1, .int .i64 c2, .lst c3, .lst c4, .int .i64 c5, .lst c6, .lst c7, .lst c8, .lst c9]
def WP (c0:Int)(c1:Bool)(c2:Int)(c3 c4:List (List PV))(c5:Int)(c6 c7 c8 c9:List (List PV)):List L:=[.pv (.int .i64 c0), .pv (.bool c1), .pv (.int .i64 c2), .pv (.lst c3), .pv (.lst c4), .pv (.int .i64 c5), .pv (.lst c6), .pv (.lst c7), .pv (.lst c8), .pv (.lst c9)]
def U6 (k:Int):cM av [] k=([],k):=rfl
end Gi
namespace Gi
open Go Go.RowKit
set_option maxHeartbeats 4000000
set_option maxRecDepth 4000
attribute [local simp] start qh bG cz dk eR dj eQ eW eV se sx sf sy sh sA si sB sj sC sk sD so sE sp sF su sG V.cells plain bA gv isInt isStr isBool bin cu iq cy ir eS un asList L.view al V.view viewL aZ am cD bM bS comp aO bJ cT bW bw bu bv aS aE bT aw aR aW aK br bq ba bz bB V.flat L.flat da df bD putAt thaw thawL thawT V.ow eU dx dy cB eT cC dw freezeVs freezeLs freezeL V.mut L.mut aJ eF gQ be bC aN dC bQ bj bX L.bD aY dq ca dD bU cf wp_seq wp_block bm dA cE bN cF wp_skip wp_exit wp_ret co cH cL cK cP cQ cO bV aM L.bC aV aT aU dz bt storeD bf fm ai ct aA nq L.bG L.closed V.closed PV.bare PV.flat
def rg (n a b:Int):Bool:= !(bO n a)&& !(bO b n)
def bp (n a b:Int):ag Ph aC 61 [aa .i64 n,aa .i64 a,aa .i64 b]=some (az (rg n a b)):=by
 refine ae rfl ?_
 simp +contextual (maxSteps:=9^9) [qp,rg]
def bR (n a b:Int):ag Ph aC 58 [aa .i64 n,aa .i64 a,aa .i64 b]=some (az (rg n a b)):=by
 refine ae rfl ?_
 simp +contextual (maxSteps:=9^9) [vB,rg]
def VP (a b:Int):Int:=if bO a b then-1 else if bO b a then 1 else 0
def xl (a b:Int):ag Ph aC 362 [aa .i64 a,aa .i64 b]=some (aa .i64 (VP a b)):=by
 refine ae rfl ?_
 simp +contextual (maxSteps:=9^9) [mR,VP]
def Hf (a b:Bool):ag Ph aC 359 [az a,az b]=some (aa .i64 (if a=true then-1 else if b=true then 1 else 0)):=by
 refine ae rfl ?_
 simp +contextual (maxSteps:=9^9) [sS]
def Oe (sl:Bool)(s:List UInt8)(k:Nat):Bool:=match s[k]? with
 |some b=>(bO b.toNat 97||bO 122 b.toNat)&& !(sl&&(b.toNat:Int)==47)
 |none=>false
def qX (s:List UInt8)(m:Int)(sl:Bool):Bool:= !(gH s.length (Oe sl s))&&rg s.length 1 m
abbrev dg (s:List UInt8):Bool:=qX s 8 false
def vM {s:List UInt8}(h:s.length<=maxLen)(m:Int)(sl:Bool):ag Ph aC 213 [eE s,aa .i64 m,az sl]=some (az (qX s m sl)):=by
 refine ae rfl ?_
 simp +contextual (maxSteps:=9^9) [sO]
 refine aB bh Cl.fin [.t,.t,.t,.f,.f,.f,.f,.t,.f,.f,.f,.f,.f,.f,.f,.f,.f,.f,.f,.f,.f,.f,.f,.f,.f,.f,.f,.f,.f,.f,.f,.f,.f,.f,.f,.f,.f,.f] (fun k=>[(7,aa .i64 k)]) s.length (Oe sl s) rfl (by simp) (fun k hk _=> ?_) (fun _ hp=> ?_)
 ·simp +contextual (maxSteps:=9^9) [mz,Oe,qX,hk,aL h hk,bd hk]
 ·simp +contextual (maxSteps:=9^9) [mz,qX,hp,bp]
def bP {s:List UInt8}(h:s.length<=maxLen):ag Ph aC 178 [eE s]=some (az (dg s)):=by
 refine ae rfl ?_
 simp[sK,vM h]
def db {s:List UInt8}(h:s.length<=maxLen):ag Ph aC 177 [eE s]=some (az (dg s)):=by
 refine ae rfl ?_
 simp +contextual (maxSteps:=9^9) [sP]
 refine aB bh Cl.fin [.t,.f,.f,.t,.f,.f,.f,.f,.f,.f,.f,.f,.f,.f,.f,.f,.f,.f,.f,.f,.f,.f,.f] (fun k=>[(3,aa .i64 k)]) s.length (Oe false s) rfl (by simp) (fun k hk _=> ?_) (fun _ hp=> ?_)
 ·simp +contextual (maxSteps:=9^9) [mA,Oe,dg,qX,hk,aL h hk,bd hk]
 ·simp +contextual (maxSteps:=9^9) [mA,dg,qX,hp,bR]
def S3 (s:List UInt8)(k:Nat):Bool:=match s[k]? with
 |some b=>(bO b.toNat 97||bO 122 b.toNat)&&(bO b.toNat 48||bO 57 b.toNat)
 |none=>false
def vN (s:List UInt8):Bool:= !(gH s.length (S3 s))&& !(bO 12 s.length)
def At {s:List UInt8}(h:s.length<=maxLen):ag Ph aC 90 [eE s]=some (az (vN s)):=by
 refine ae rfl ?_
 simp +contextual (maxSteps:=9^9) [oR]
 refine aB bh Cl.fin [.t,.f,.f,.t,.f,.f,.f,.f,.f,.f,.f,.f,.f,.f,.f,.f,.f,.f,.f,.f,.f,.f,.f,.f,.f,.f,.f,.f,.f,.f,.f,.f,.f,.f,.f,.f] (fun k=>[(3,aa .i64 k)]) s.length (S3 s) rfl (by simp) (fun k hk _=> ?_) (fun _ hp=> ?_)
 ·simp +contextual (maxSteps:=9^9) [jI,S3,vN,hk,aL h hk,bd hk]
 ·simp +contextual (maxSteps:=9^9) [jI,vN,hp]
def Hg {s:List UInt8}(h:s.length<=maxLen):ag Ph aC 88 [eE s]=some (az (vN s)):=by
 refine ae rfl ?_
 simp +contextual (maxSteps:=9^9) [sU]
 refine aB bh Cl.fin [.t,.f,.f,.t,.f,.f,.f,.f,.f,.f,.f,.f,.f,.f,.f,.f,.f,.f,.f,.f,.f,.f,.f,.f,.f,.f,.f,.f,.f,.f,.f,.f,.f,.f,.f] (fun k=>[(3,aa .i64 k)]) s.length (S3 s) rfl (by simp) (fun k hk _=> ?_) (fun _ hp=> ?_)
 ·simp +contextual (maxSteps:=9^9) [mD,S3,vN,hk,aL h hk,bd hk]
 ·simp +contextual (maxSteps:=9^9) [mD,vN,hp]
def kD (a:YL):Bool:=rg a.aS 1 3&&rg a.n (-1000000000000) 1000000000000&&(!(a.aS==2)||a.n==0)&&vN a.aa&&(!(a.aS==1)||a.aa==[])
def mc {a:YL}(h:a.Ok maxLen):ag Ph aC 67 [a.v]=some (az (kD a)):=by
 refine ae rfl ?_
 simp +contextual (maxSteps:=9^9) [uj,bp,At h.2.2,kD]<;>grind
def mi {a:YL}(h:a.Ok maxLen):ag Ph aC 65 [a.v]=some (az (kD a)):=by
 refine ae rfl ?_
 simp +contextual (maxSteps:=9^9) [uk,bR,Hg h.2.2,kD]<;>grind
def IJ (a b:List UInt8):ag Ph aC 363 [eE a,eE b]=some (aa .i64 (Lib.compareBytes a b)):=Q1 rfl rfl
def iH :∀(a b:List UInt8),Lib.compareBytes a b=if Op.bytesLess a b=true then-1 else if Op.bytesLess b a=true then 1 else 0
 |[],[]=>rfl
 |[],_::_=>rfl
 |_::_,[]=>rfl
 |a::xz,b::bs=>by
  have ih:=iH xz bs
  simp only[Lib.compareBytes,Op.bytesLess,ih]
  by_cases h1:a<b
  ·simp[h1]
  ·by_cases h2:b<a
   ·have h3:¬a=b:=fun h=>by subst h;exact absurd h2 (UInt8.lt_irrefl _)
    simp[h1,h2,h3]
   ·obtain rfl:a=b:=UInt8.le_antisymm (UInt8.not_lt.1 h2) (UInt8.not_lt.1 h1)
    simp[UInt8.lt_irrefl]
def tt (a b:YL):Int:=if kD a=false \/kD b=false then 0 else if a.aS≠b.aS then VP a.aS b.aS else if a.n≠b.n then VP a.n b.n else Lib.compareBytes a.aa b.aa
def ja {a b:YL}(ha:a.Ok maxLen)(hb:b.Ok maxLen):ag Ph aC 355 [a.v,b.v]=some (aa .i64 (tt a b)):=by
 refine ae rfl ?_
 simp +contextual (maxSteps:=9^9) [mN,mc,xl,IJ,ha,hb,tt]
 grind [VP,bO]
def jb {a b:YL}(ha:a.Ok maxLen)(hb:b.Ok maxLen):ag Ph aC 351 [a.v,b.v]=some (aa .i64 (tt a b)):=by
 refine ae rfl ?_
 simp +contextual (maxSteps:=9^9) [m4,mi,Hf,ha,hb,tt,iH]
 grind [VP,bO]
def LS (fs:List Y8)(k:Nat):Bool:=match fs[k]?,fs[k-1]? with
 |some x,some y=> !(dg x.aE)||(!(rg x.n 0 1000000000)||(bO 0 k&& !(Op.bytesLess y.aE x.aE)))
 |_,_=>false
def dX (fs:List Y8):Bool:= !(gH fs.length (LS fs))&& !(bO 6 fs.length)
def lF {r:Z4}(h:r.Ok maxLen):ag Ph aC 246 [r.v]=some (az (dX r.fs)):=by
 refine ae rfl ?_
 simp +contextual (maxSteps:=9^9) [pF]
 refine aB bh Cl.fin [.f,.t,.f,.f,.f,.f,.t,.t,.t,.f,.f,.f,.f,.f,.f,.f,.f,.f,.f,.f,.f,.f,.f,.f,.f,.f,.f,.f,.f,.f,.f,.f,.f,.f,.f,.f,.f,.f,.f,.f,.f,.f,.f,.f] (fun k=>[(8,aa .i64 k)]) r.fs.length (LS r.fs) rfl (by simp) (fun k hk _=> ?_) (fun _ hp=> ?_)
 ·obtain⟨q1,q2⟩:=xr h.1 hk
  simp +contextual (maxSteps:=9^9) [km,LS,dX,hk,q1,q2,aL h.1 hk,bd hk,Y8.e.eq_1 r.fs[k],Y8.e.eq_1 r.fs[k-1],bP (h.2 _ (Zf hk)).1,bp]
 ·simp +contextual (maxSteps:=9^9) [km,dX,hp]
def jv {r:Z4}(h:r.Ok maxLen):ag Ph aC 243 [r.v]=some (az (dX r.fs)):=by
 refine ae rfl ?_
 simp +contextual (maxSteps:=9^9) [pQ]
 refine aB bh Cl.fin [.f,.t,.f,.t,.f,.f,.f,.f,.f,.f,.f,.f,.f,.f,.f,.f,.f,.f,.f,.f,.f,.f,.f,.f,.f,.f,.f,.f,.f,.f,.f,.f,.f,.f,.f,.f,.f,.f,.f,.f,.f,.f,.f,.f,.f,.f,.f,.f,.f,.f,.f,.f,.f] (fun k=>[(3,aa .i64 k)]) r.fs.length (LS r.fs) rfl (by simp) (fun k hk _=> ?_) (fun _ hp=> ?_)
 ·obtain⟨q1,q2⟩:=xr h.1 hk
  simp +contextual (maxSteps:=9^9) [ky,LS,dX,hk,q1,q2,aL h.1 hk,bd hk,Y8.e.eq_1 r.fs[k],Y8.e.eq_1 r.fs[k-1],db (h.2 _ (Zf hk)).1,bR]
 ·simp +contextual (maxSteps:=9^9) [ky,dX,hp]
def dQ {α:Type}(p:α->Bool)(xs:List α):Int:=match xs.findIdx? p with
 |some i=>(i:Int)
 |none=> -1
def iE {α:Type}(p:α->Bool)(xs:List α)(k:Nat):Bool:=match xs[k]? with
 |some x=>p x
 |none=>false
def tb {α:Type}{p:α->Bool}{xs:List α}{k:Nat}(hk:k<xs.length)(hj:∀j,j<k->iE p xs j=false)(h:p xs[k]=true):dQ p xs=(k:Int):=by
 have:xs.findIdx? p=some k:=by
  rw[ZV]
  refine⟨hk,h,fun j bH=> ?_⟩
  have h1:j<xs.length:=by omega
  have:=hj j bH
  simpa[iE,h1]using this
 simp[dQ,this]
def ta {α:Type}{p:α->Bool}{xs:List α}(hj:∀j,j<xs.length->iE p xs j=false):dQ p xs= -1:=by
 have:xs.findIdx? p=none:=by
  rw[Zb1]
  intro x hx
  obtain⟨j,h1,rfl⟩:=I'.1 hx
  simpa[iE,h1]using hj j h1
 simp[dQ,this]
def wO {α:Type}(p:α->Bool)(xs:List α):dQ p xs= -1 \/∃j,∃hj:j<xs.length,dQ p xs=(j:Int)/\ p xs[j]=true:=by
 unfold dQ
 cases h:xs.findIdx? p with
 |none=>exact .inl rfl
 |some i=>
  rw[ZV]at h
  obtain⟨h1,h2,_⟩:=h
  exact .inr ⟨i,h1,rfl,h2⟩
def X5 (z:Nat):Y5:=(.seq (.region [⟨(some 9),(.bin .lss (.tmp 8) (.tmp 7)),none⟩]) (.seq (.cond (.tmp 9) .skip (.exit 0)) (.seq (.block 1 (.seq (.region [⟨(some 10),(.mv (.tmp 8)),none⟩,⟨(some 5),(.mv (.tmp 10)),none⟩]) (.seq (.region [⟨(some 11),(.mv (.tmp 1)),none⟩,⟨(some 12),(.mv (.tmp 0)),none⟩,⟨(some 13),(.mv (.tmp 5)),none⟩,⟨(some 14),(.bF z (.tmp 12) (.tmp 13)),none⟩,⟨(some 15),(.load true z (.tmp 14)),none⟩,⟨(some 16),(.bm (.tmp 11) [(.tmp 15)]),none⟩]) (.cond (.tmp 16) (.seq (.region [⟨(some 17),(.mv (.tmp 5)),none⟩,⟨(some 4),(.mv (.tmp 17)),none⟩]) .ret) .skip)))) (.region [⟨(some 18),(.bin .add (.tmp 8) (.pv (.int .i64 1))),none⟩,⟨(some 8),(.mv (.tmp 18)),none⟩]))))
def Yh (z:Nat):AFn:=⟨19,[(.tmp 4)],(.seq (.region [⟨(some 4),(.mv (.pv (.int .i64 0))),none⟩]) (.seq (.seq (.region [⟨(some 6),(.mv (.tmp 0)),none⟩,⟨(some 7),(.len (.tmp 6)),none⟩,⟨(some 8),(.mv (.pv (.int .i64 0))),none⟩]) (.block 0 (.loop (X5 z)))) (.seq (.region [⟨(some 4),(.mv (.pv (.int .i64 (-1)))),none⟩]) .ret)))⟩
def yK {α:Type}{e:α->List PV}{p:α->Bool}{xs:List α}{k z kc:Nat}{caps:List (List PV)}(hk:Ph k=some (Yh z))(hl:xs.length<=maxLen)(hz:∀x,(e x).length=z)(hp:∀x∈xs,ag Ph aC kc (.agg ((e x).map .pv)::caps.map tm)=some (az (p x))):ag Ph aC k [bY (xs.map e), .one (.fn kc caps)]=some (aa .i64 (dQ p xs)):=by
 refine ae hk ?_
 simp +contextual (maxSteps:=9^9) [Yh]
 refine aB bh Cl.fin [.t,.t,.f,.f,.f,.f,.f,.t,.t,.f,.f,.f,.f,.f,.f,.f,.f,.f,.f] (fun k=>[(8,aa .i64 k)]) xs.length (iE p xs) rfl (by simp) (fun k hk hj=> ?_) (fun hj _=> ?_)
 ·have hc:=hp _ (Zf hk)
  have ht:List.take z ((e xs[k]).map L.pv)=(e xs[k]).map L.pv:=Zs (by simp[hz])
  have hf:=tb hk hj
  simp +contextual (maxSteps:=9^9) [X5,iE,hk,hz,ht,hc,hf,aL hl hk,bd hk,rE]
 ·simp +contextual (maxSteps:=9^9) [X5,ta hj]
def IB (s t:List UInt8)(x:Y4):Bool:=x.aR==s&&x.b4==t
def m7 {bs:List Y4}(h:bs.length<=maxLen)(s t:List UInt8):ag Ph aC 175 [.agg [.pv (.lst (bs.map Y4.e))],eE s,eE t]=some (aa .i64 (dQ (IB s t) bs)):=by
 have e1:=yK (e:=Y4.e) (p:=IB s t) (xs:=bs) (k:=209) (z:=24) (kc:=210) (caps:=[[.str s],[.str t]]) rfl h (fun _=>rfl) (fun x _=>by
  refine ae rfl ?_
  simp +contextual (maxSteps:=9^9) [lO,Y4.e.eq_1,tm,IB])
 refine ae rfl ?_
 simp +contextual (maxSteps:=9^9) [nD,kQ,pY,e1]
def ng {bs:List Y4}(h:bs.length<=maxLen)(s t:List UInt8):ag Ph aC 145 [.agg [.pv (.lst (bs.map Y4.e))],eE s,eE t]=some (aa .i64 (dQ (IB s t) bs)):=by
 refine ae rfl ?_
 simp +contextual (maxSteps:=9^9) [nP]
 refine aB bh Cl.fin [.f,.t,.t,.t,.f,.f,.f,.t,.f,.f,.f,.f,.f,.f,.f,.f,.f,.f,.f,.f,.f,.f,.f,.f,.f,.f,.f,.f,.f,.f,.f,.f,.f,.f] (fun k=>[(7,aa .i64 k)]) bs.length (iE (IB s t) bs) rfl (by simp) (fun k hk hj=> ?_) (fun hj _=> ?_)
 ·have hf:=tb hk hj
  simp +contextual (maxSteps:=9^9) [iV,iE,IB,hk,hf,aL h hk,bd hk,Y4.e.eq_1 bs[k]]
 ·simp +contextual (maxSteps:=9^9) [iV,ta hj]
end Gi
