/- Of this proof. -/
import Derived.Test.YtlmhdkdolfpedaaGreatGip
import Derived.Test.YtlmhdkdolfpedaaGreatGps
import Derived.Test.YtlmhdkdolfpedaaGreatGka
set_option linter.all false
namespace Gi
open Go Go.RowKit
variable {KI:KF}
structure QF (w W:World) (b:Nat):Prop where
 os:W.os=w.os
 tape:W.tape=w.tape
 output:W.output=w.output
 size:w.heap.size<=W.heap.size
 block:∀k,k<w.heap.size->k≠b->W.heap[k]? =w.heap[k]?
def QF.below {w W W':World}{b:Nat}(h:QF w W b)(g:Below W.heap.size W W'):QF w W' b:=
 ⟨g.os.trans h.os,g.tape.trans h.tape,g.output.trans h.output,Zc h.size g.size,fun k hk hb=>(g.block k (ZD hk h.size)).trans (h.block k hk hb)⟩
def Below.cX {w W:World}{b:Nat}(g:Below w.heap.size w W):QF w W b:=⟨g.os,g.tape,g.output,g.size,fun k hk _=>g.block k hk⟩
def iW.below {w W:World}{b:Nat}{cur:Array Value}(h:iW w b cur)(g:Below w.heap.size w W):iW W b cur:=by
 obtain⟨T,hT⟩:=h;have hlt:b<w.heap.size:=by rcases Nat.lt_or_ge b w.heap.size with q|q;exact q;rw[Yt q]at hT;cases hT
 exact⟨T,(g.block b hlt).trans hT⟩
def nB (p:Nat->Bool)(n:Nat):List Nat:=(List.range n).filter fun j=> !p j
def HI (p:Nat->Bool)(n:Nat):nB p (n+1)=nB p n++(if p n then []else [n]):=by unfold nB;rw[List.range_succ,List.filter_append];congr 1;cases h:p n<;>simp[YS,h]
def aaU {p:Nat->Bool}{n t u:Nat}(h:(nB p n)[t]? =some u):u<n:=by have:=Zn h;simp only[nB,QK,QO]at this;exact this.1
def Fl {p:Nat->Bool}{n:Nat}(h:∀j,j<n->p j=false):nB p n=List.range n:=by unfold nB;rw[List.filter_eq_self];intro j hj;rw[h j (by simpa using hj)];rfl
structure QD (p:Nat->Bool) (z:Nat) (w wr:World) (b:Nat) (cur ck:Array Value) (i j:Nat):Prop where
 rel:QF w wr b
 row:iW wr b ck
 size:ck.size=cur.size
 len:i=(nB p j).length
 lt:i<j
 low:∀(t u:Nat),(nB p j)[t]? =some u->∀q,q<z->ck[t*z+q]? =cur[u*z+q]?
 high:∀u,j*z<=u->ck[u]? =cur[u]?
def QD.start {p:Nat->Bool}{z:Nat}{w wr:World}{b k:Nat}{cur:Array Value}(h:Below w.heap.size w wr)(hr:iW w b cur)(hk:p k=true)(hj:∀j,j<k->p j=false):QD p z w wr b cur cur k (k+1):=by
 have e:nB p (k+1)=List.range k:=by rw[HI,Fl hj,hk];simp
 refine⟨Below.cX h,iW.below hr h,rfl,by rw[e,List.length_range],by omega,fun t u ht q hq=> ?_,fun _ _=>rfl⟩;rw[e]at ht;obtain⟨h1,h2⟩:=Zb.1 ht;simp at h2;rw[h2]
def JH {i j z:Nat}(h:i<j):i*z+z<=j*z:=by
 calc i*z+z=(i+1)*z:=by rw[Nat.add_mul,Yk]
  _<=j*z:=ZE _ h
section
variable {p:Nat->Bool}{z:Nat}{w wr w2:World}{b i j:Nat}{cur ck:Array Value}
def QD.skip (h:QD p z w wr b cur ck i j)(hp:p j=true)(hd:Below wr.heap.size wr w2):QD p z w w2 b cur ck i (j+1):=by
 have e:nB p (j+1)=nB p j:=by rw[HI,hp];simp
 refine⟨h.rel.below hd,h.row.below hd,h.size,by rw[e];exact h.len,Nat.lt_succ_of_lt h.lt,by rw[e];exact h.low,fun u hu=>h.high u ?_⟩;have:=JH (z:=z) (show j<j+1 by omega);omega
def QD.keep (h:QD p z w wr b cur ck i j)(hp:p j=false)(hd:Below wr.heap.size wr w2){vs:List Value}(hl:vs.length=z)(hv:∀q,q<z->vs[q]? =cur[j*z+q]?)(hj:j*z+z<=cur.size):∃a2,QD p z w (w2.setCells b (i*z) vs) b cur a2 (i+1) (j+1):=by
 have e:nB p (j+1)=nB p j++[j]:=by rw[HI,hp];simp
 have aO:=JH (z:=z) h.lt;have aQ:=JH (z:=z) (show j<j+1 by omega);obtain⟨a2,h1,h2,h3⟩:=gW b vs (i*z) w2 ck (h.row.below hd) (by rw[hl,h.size];omega);have a6:=fE b 0 (YA _) vs (i*z) w2 w2 (Below.refl _ _);have d2:=h.rel.below hd;refine⟨a2,⟨a6.os.trans d2.os,a6.tape.trans d2.tape,a6.output.trans d2.output,by rw[gD];exact d2.size,fun k hk hb=>(gu b vs (i*z) w2 k hb).trans (d2.block k hk hb)⟩,h1,h2.trans h.size,by rw[e,Zv,<-h.len];rfl,Nat.succ_lt_succ h.lt,fun t u a5 q hq=> ?_,fun u hu=> ?_⟩;rw[e]at a5;rw[h3];by_cases ht:t<i;rw[Ze (by rw[<-h.len];exact ht)]at a5;have:=O7 ht hq;rw[if_neg (by omega)];exact h.low t u a5 q hq;have aq:=(Zb.1 a5).1;rw[Zv,<-h.len]at aq;simp only[Zo,Zx]at aq;obtain rfl:t=i:=by omega
 rw[Zm (by rw[<-h.len];exact Zi _),<-h.len,YH,Yg]at a5;cases a5;rw[if_pos ⟨by omega,by omega⟩,show t*z+q-t*z=q by omega];exact hv q hq;rw[h3,if_neg (by omega)];exact h.high u (by omega)
def QD.done (h:QD p z w wr b cur ck i j){vs:List Value}(hl:vs.length=(j-i)*z)(hj:j*z<=cur.size):∃a2,iW (wr.setCells b (i*z) vs) b a2/\ a2.size=cur.size/\ QF w (wr.setCells b (i*z) vs) b/\ ∀(t u:Nat),(nB p j)[t]? =some u->∀q,q<z->a2[t*z+q]? =cur[u*z+q]? :=by
 have hm:i*z+(j-i)*z=j*z:=by rw[<-Nat.add_mul,show i+(j-i)=j by have:=h.lt;omega]
 obtain⟨a2,h1,h2,h3⟩:=gW b vs (i*z) wr ck h.row (by rw[hl,h.size,hm];exact hj);have a6:=fE b 0 (YA _) vs (i*z) wr wr (Below.refl _ _);refine⟨a2,h1,h2.trans h.size,⟨a6.os.trans h.rel.os,a6.tape.trans h.rel.tape,a6.output.trans h.rel.output,by rw[gD];exact h.rel.size,fun k hk hb=>(gu b vs (i*z) wr k hb).trans (h.rel.block k hk hb)⟩,fun t u a5 q hq=> ?_⟩;have ht:t<i:=by rw[h.len];exact(Zb.1 a5).1
 have:=O7 ht hq;rw[h3,if_neg (by omega)];exact h.low t u a5 q hq
end
def Ly {zs:Array Value}{n:Nat}{P:Value->Prop}(h:∀v∈zs,P v)(hz:0<zs.size):∀v∈(Builtin.zeroCells zs n).toList,P v:=by intro v hv;simp only[Builtin.zeroCells,ZZ,ZV]at hv;obtain⟨i,_,rfl⟩:=hv;have hlt:=Qh i hz;rw[getElem!_pos zs _ hlt];exact h _ (QV hlt)
def Rw {P:Program}(w:World)(t e ty:TypeId)(zv:Value)(z:Nat)(ht:P.underlying t=some (.slice e))(hv:∀w,(zeroValue e).run P w= .ok zv w)(hz:zv.cells.size=z)(aR:0<z)(h1:∀v∈zv.cells,v.oneCell'=true)(b o n c:Nat)(hn:0<n)
 (hc:∀j,j<n*z->(w.cell? ⟨b,o+j,none⟩).isSome=true) (hf:∀j,j<n*z->w.frozen? ⟨b,o+j,none⟩=false):
 (Builtin.clear_ #[t] ty #[.slice (some ⟨b,o,none⟩) n c]).run P w= .ok (.tuple #[]) (w.setCells b o (Builtin.zeroCells zv.cells n).toList):=by
 have hl:(Builtin.zeroCells zv.cells n).toList.length=n*z:=by rw[Yo,<-hz];unfold Builtin.zeroCells;rw[Array.size_map,Array.size_range]
 have ar:=run_storeCells_cells (P:=P) b o (Builtin.zeroCells zv.cells n).toList 0 w (by rw[hl];simpa using hc) (by rw[hl];simpa using hf) (Ly h1 (by omega));simp only[Yx]at ar;obtain⟨m,rfl⟩:∃m,n=m+1:=⟨n-1,by omega⟩;simp[Builtin.clear_,run_underlying ht,hv,ar]
def iH {w W:World}{b o:Nat}{v:Value}(h:w.cell? ⟨b,o,none⟩=some v)(g:Below w.heap.size w W):W.cell? ⟨b,o,none⟩=some v:=by
 have hlt:b<w.heap.size:=by rcases Nat.lt_or_ge b w.heap.size with q|q;exact q;simp[World.cell?,Yt q]at h
 unfold World.cell? at*;rw[g.block b hlt];exact h
def vL {w W W':World}(h:Below w.heap.size w W)(g:Below W.heap.size W W'):Below w.heap.size w W':=
 ⟨g.os.trans h.os,g.tape.trans h.tape,g.output.trans h.output,Zc h.size g.size,fun k hk=>(g.block k (ZD hk h.size)).trans (h.block k hk)⟩
def yI (w:World)(o:Obj):Below w.heap.size w (w.alloc o):=⟨rfl,rfl,rfl,by simp,fun k hk=>iu w o k hk⟩
def aeh (P:Program)(f z:Nat):Prop:=
 ∀(w:World)(fc:FuncId)(cs:Array Value)(p:Nat->Bool),(∀args w,(callFunc fc args).run P w= .ok (.enter fc args) w)->
  (∀ad:Option Addr,Calls P f #[.slice ad 0 0, .func (.func fc) #[] cs] w fun e w'=>e= .returned (.slice ad 0 0)/\ Below w.heap.size w w')/\
  ∀(b n cap:Nat)(cur:Array Value),iW w b cur->cur.size=cap*z->n<=cap->cap<=maxLen->(∀(u:Nat)v,u<n*z->cur[u]? =some v->v.oneCell'=true)->
   (∀j,j<n->∀W,QF w W b->Calls P fc (#[.agg (cur.extract (j*z) (j*z+z))]++cs) W fun e W'=>e= .returned (.bool (p j))/\ Below W.heap.size W W')->
   Calls P f #[.slice (some ⟨b,0,none⟩) n cap, .func (.func fc) #[] cs] w fun e w'=>∃cur',e= .returned (.slice (some ⟨b,0,none⟩) (nB p n).length cap)/\ iW w' b cur'/\ cur'.size=cur.size/\ QF w w' b/\
    ∀(t u:Nat),(nB p n)[t]? =some u->∀q,q<z->cur'[t*z+q]? =cur[u*z+q]?
def PR (p:List PV->Bool)(es:List (List PV)):(nB (fun j=>match es[j]? with|some e=>p e|none=>false) es.length).length=(es.filter fun e=> !p e).length/\
 ∀(t:Nat)(e:List PV),(es.filter fun e=> !p e)[t]? =some e->∃u,(nB (fun j=>match es[j]? with|some e=>p e|none=>false) es.length)[t]? =some u/\ es[u]? =some e:=by
 have key:∀k,k<=es.length->(es.take k).filter (fun e=> !p e)=(nB (fun j=>match es[j]? with|some e=>p e|none=>false) k).filterMap (fun u=>es[u]?)/\
  (nB (fun j=>match es[j]? with|some e=>p e|none=>false) k).length=((es.take k).filter (fun e=> !p e)).length:=by
  intro k;induction k with
  |zero=>intro _;simp[nB]
  |succ k ih=>
   intro hk;obtain⟨i1,i2⟩:=ih (by omega);have hlt:k<es.length:=by omega
   rw[ZQ hlt,List.filter_append,HI,List.filterMap_append,Zv,Zv,<-i1,<-i2,Zk hlt];cases h:p es[k]<;>simp[YS,h,hlt]
 obtain⟨k1,k2⟩:=key es.length (Zi _);rw[Yd]at k1 k2;refine⟨k2,fun t e he=> ?_⟩;generalize hK:nB (fun j=>match es[j]? with|some e=>p e|none=>false) es.length=K at k1 k2;have ai:∀u∈K,∃x,es[u]? =some x:=fun u hu=>by rw[<-hK]at hu;obtain⟨i,hi⟩:=List.mem_iff_getElem?.1 hu;exact⟨_,Zk (aaU hi)⟩
 have aA:∀(K:List Nat),(∀u∈K,∃x,es[u]? =some x)->∀(t:Nat)(e:List PV),(K.filterMap fun u=>es[u]?)[t]? =some e->∃u,K[t]? =some u/\ es[u]? =some e:=by
  intro K;induction K with
  |nil=>intro _ t e h;simp at h
  |cons u K ih=>
   intro ha t e h;obtain⟨x,hx⟩:=ha u (by simp);rw[YR,hx]at h;cases t with
   |zero=>simp only[Yg]at h;cases h;exact⟨u,rfl,hx⟩
   |succ t=>simp only[Yp]at h⊢;exact ih (fun u hu=>ha u (by simp[hu])) t e h
 rw[k1]at he;exact aA K ai t e he
def ab1 {Γ:Ctx}{P:Program}{f z:Nat}(hv:aeh P f z):abU Γ P f z:=by
 intro c cs es p aB aC;have au:∀fc,kf fc=some c->∀(args:Array Value)(w:World),(callFunc fc args).run P w= .ok (.enter fc args) w:=fun fc a8 args w=>by obtain⟨fn,h1,h2,h3⟩:=aB fc a8;simp only[callFunc,run_program,Sem.run_bind,Result.andThen_ok,h1,h2,h3];simp
 constructor;intro ab M w g ad hG hg;obtain⟨fc,ae,rfl,a8,hlen,af⟩:=hg;exact(hv w fc ae (fun _=>false) (au fc a8)).1 ad;intro hz ab;refine⟨fun e he=>ab e (QK.1 he).1,YC _ _,?_⟩;intro M w g b cap cur hG hB hM hg aw aj ax hn ag a1;obtain⟨fc,ae,rfl,a8,hlen,af⟩:=hg;obtain⟨f1,f2⟩:=PR p es;obtain⟨pN,ay⟩:∃pN:Nat->Bool,pN=fun j=>match es[j]? with|some e=>p e|none=>false:=⟨_,rfl⟩
 rw[<-ay]at f1 f2;have aD:∀j(hj:j<es.length),pN j=p es[j]:=fun j hj=>by rw[ay];simp only[Zk hj]
 refine((hv w fc ae pN (au fc a8)).2 b es.length cap cur aj ax hn ag ?_ ?_).mono ?_;intro u v hu hc;have hd:=Qy u z;have hm:=Qh u hz;have hj:u/z<es.length:=(YY hz).2 hu;have he:=Zk hj;have hl:=ab _ (Zf hj);obtain⟨v',aa,hr⟩:=a1 (u/z) _ (u%z) _ he (Zk (by rw[hl];exact hm));rw[YG,hd,hc]at aa;cases aa;exact hr.one;intro j hj W hW;have he:=Zk hj;have hl:=ab _ (Zf hj);have ak:QH M M w W:=⟨hW.size,fun _ _ h=>h,fun k hk hm=>hW.block k hk (fun e=>hm (e▸aw))⟩;have aE:Γ.G W:=Γ.keep w W hG ⟨hW.os,hW.tape,hW.output,hW.size,fun k hk=>hW.block k (ZD hk (Γ.size w hG)) (by omega)⟩;have al:j*z+z<=cur.size:=by
  rw[ax];calc j*z+z=(j+1)*z:=by rw[Nat.add_mul,Yk]
   _<=cap*z:=ZE _ (by omega)
 have hs:=aC _ (Zf hj) fc a8;rw[aD j hj];have ha:um M W (.agg (es[j].map .pv)::cs.map wR) (#[Value.agg (cur.extract (j*z) (j*z+z))]++ae).toList:=by
  refine⟨by simp[hlen],fun i x u hx hu=> ?_⟩;cases i with
  |zero=>
   simp only[Yg]at hx;cases hx;have aF:Value.agg (cur.extract (j*z) (j*z+z))=u:=by simpa using hu
   rw[<-aF];refine⟨_,rfl,by simp[hl];omega,fun q l v hq hv=> ?_⟩;rw[Zp]at hq;cases hp:es[j][q]? with
   |none=>rw[hp]at hq;cases hq
   |some pv=>
    rw[hp]at hq;cases hq;have aS:q<z:=by have:=(Zb.1 hp).1;omega
    obtain⟨v',aa,hr⟩:=a1 j _ q pv he hp;have az:(cur.extract (j*z) (j*z+z))[q]? =some v:=by rw[<-Array.getElem?_toList];exact hv
    rw[Array.getElem?_extract,if_pos (by omega),aa]at az;cases az;exact cE.go ak pv _ hr
  |succ i=>
   rw[Yp,Zp]at hx;have aH:ae[i]? =some u:=by simpa using hu
   cases hc:cs[i]? with
   |none=>rw[hc]at hx;cases hx
   |some e=>rw[hc]at hx;cases hx;exact((af i e u hc aH).go ak).arg
 have hS:=hs.2 M W _ aE (fun k hk=>ZD (hM k hk) hW.size) ha;refine hS.mono fun e w'⟨v,aI,hb,J',_,aJ⟩=> ?_;have an:cE (Mu M J' []) w' (.bool (p es[j])) v:=aJ;have:v= .bool (p es[j]):=by simpa only[cE]using an
 subst this;exact⟨aI,hb⟩;intro e w' ⟨cur',he,aK,aL,hd,a7⟩;refine⟨cur',by rw[he,f1],aK,aL,hd.os,hd.tape,hd.output,hd.size,hd.block,?_⟩;intro i e j pv hi hj;obtain⟨u,hu,heu⟩:=f2 i e hi;have ak:QH M M w w':=⟨hd.size,fun _ _ h=>h,fun k hk hm=>hd.block k hk (fun e=>hm (e▸aw))⟩;have aM:j<z:=by have h1:=(Zb.1 hj).1;rw[ab e (Zn heu)]at h1;exact h1
 obtain⟨v,aa,hr⟩:=a1 u e j pv heu hj;exact⟨v,by rw[a7 i u hu j aM];exact aa,hr⟩
end Gi
namespace Gi
open Go Go.RowKit
mutual
def nar :PTy->Bool
 | .lst ts=>decide (ts.length<=64)&&Tg ts
 |_=>true
def Tg :List PTy->Bool
 |[]=>true
 |t::ts=>nar t&&Tg ts
end
mutual
def acn (mT:Int->List UInt8):∀(p:PV)(t:PTy)(k:Int),qa t p->nar t=true->(oK mT p k).2<=k+1+64*(sz p:Int)
 | .int κ n,t,k,h,hn=>by simp only[oK,sz];omega
 | .bool b,t,k,h,hn=>by simp only[oK,sz];omega
 | .str s,t,k,h,hn=>by simp only[oK,sz];omega
 | .lst rows,t,k,h,hn=>by
  cases t with
  |lst ts=>simp only[nar,Zg,decide_eq_true_eq]at hn;have:=NN mT rows ts k (dJ h).2 hn.1 hn.2;rw[mG];simp only[oK];omega
  |int κ=>simp[qa]at h
  |bool=>simp[qa]at h
  |str=>simp[qa]at h
def Ux (mT:Int->List UInt8):∀(ps:List PV)(ts:List PTy)(k:Int),dW ts ps->Tg ts=true->(uj mT ps k).2<=k+ps.length+64*(gT ps:Int)
 |[],ts,k,h,hn=>by simp only[uj,gT,Zx];omega
 |p::ps,[],k,h,hn=>by simp[dW]at h
 |p::ps,t::ts,k,h,hn=>by
  simp only[Tg,Zg]at hn;have h1:qa t p/\ dW ts ps:=by simpa only[dW]using h
  have a:=acn mT p t k h1.1 hn.1;have b:=Ux mT ps ts (oK mT p k).2 h1.2 hn.2;simp only[uj,gT,Zo];omega
def NN (mT:Int->List UInt8):∀(rows:List (List PV))(ts:List PTy)(k:Int),(∀r∈rows,dW ts r)->ts.length<=64->Tg ts=true->(fu mT rows k).2<=k+64*((rows.length:Int)+(dP rows:Int))
 |[],ts,k,h,hl,hn=>by simp only[fu,dP,Zx];omega
 |r::rows,ts,k,h,hl,hn=>by have hr:=h r (by simp);have a:=Ux mT r ts k hr hn;have b:=NN mT rows ts (uj mT r k).2 (fun r m=>h r (by simp[m])) hl hn;have:=nK hr;simp only[fu,dP,Zo];omega
end
def Ao (mT:Int->List UInt8):∀(ps:List PV)(ts:List PTy)(k:Int),dW ts ps->Tg ts=true->(jk mT ps k).2<=k+64*(gT ps:Int)
 |[],ts,k,h,hn=>by simp only[jk,gT];omega
 |p::ps,[],k,h,hn=>by simp[dW]at h
 |p::ps,t::ts,k,h,hn=>by
  simp only[Tg,Zg]at hn;have h1:qa t p/\ dW ts ps:=by simpa only[dW]using h
  cases p with
  |lst rows=>
   cases t with
   |lst us=>have ao:=hn.1;simp only[nar,Zg,decide_eq_true_eq]at ao;have a:=NN mT rows us k (dJ h1.1).2 ao.1 ao.2;have b:=Ao mT ps ts (fu mT rows k).2 h1.2 hn.2;simp only[jk,gT,mG];omega
   |int κ=>simp[qa]at h1
   |bool=>simp[qa]at h1
   |str=>simp[qa]at h1
  |int κ n=>have b:=Ao mT ps ts k h1.2 hn.2;simp only[jk,gT];omega
  |bool c=>have b:=Ao mT ps ts k h1.2 hn.2;simp only[jk,gT];omega
  |str s=>have b:=Ao mT ps ts k h1.2 hn.2;simp only[jk,gT];omega
def acx {ts:List PTy}{ps:List PV}(h:dW ts ps):(lc ts ps).map ft=ps.map .pv:=by refine jL (P:=fun ts ps=>(lc ts ps).map ft=ps.map .pv) rfl ?_ ?_ ts ps h;intro us rows ts ps _ _ ih;cases rows<;>simp only[lc,B5,Zt,ft,ih];intro t p ts ps h1 ht hp _ ih;simp only[lc,Df ht h1,Zt,ft,ih]
def We {ts:List PTy}{ps:List PV}(h:dW ts ps)(hh:List Q0):vY hh (.agg (lc ts ps))=(.agg (mX hh.length ts ps),hh++kM ts ps):=by
 have key:∀(ts:List PTy)(ps:List PV),dW ts ps->∀hh:List Q0,∃ds,thawL hh (lc ts ps)=(mX hh.length ts ps,hh++ds)/\ ds.map Q0.zone=kM ts ps:=by
  refine jL ?_ ?_ ?_;intro hh;exact⟨[],by simp[lc,thawL,mX],rfl⟩;intro us rows ts ps _ _ ih hh;cases rows with
  |nil=>obtain⟨ds,e1,e2⟩:=ih (hh++[.arr us.length []]);refine⟨.arr us.length []::ds,?_,by simp only[Zt,e2,Q0.zone,kM]⟩;simp only[lc,B5,thawL,e1,mX,Zv,ZI,List.append_assoc,Zh,Zj]
  |cons r rows=>obtain⟨ds,e1,e2⟩:=ih (hh++[.b9 us.length (r::rows)]);refine⟨.b9 us.length (r::rows)::ds,?_,by simp only[Zt,e2,Q0.zone,kM]⟩;simp only[lc,B5,thawL,e1,mX,Zv,ZI,List.append_assoc,Zh,Zj]
  intro t p ts ps h1 ht hp _ ih hh;obtain⟨ds,e1,e2⟩:=ih hh;refine⟨ds,?_,by rw[e2,k6 ht]⟩;simp only[lc,Df ht h1];rw[qj ht];simp only[thawL,e1]
 obtain⟨ds,e1,_⟩:=key ts ps h hh;obtain⟨aT,f1,f2⟩:=key ts ps h [];simp only[vY,thaw,e1,f1,Zj,f2]
end Gi
namespace Gi
open Go Go.RowKit
set_option maxHeartbeats 8000000
set_option maxRecDepth 8000
attribute [local simp] start iI cD cj cS dy dX eX Opd.ev put V.cells plain dM iZ isInt isStr isBool bin ff un asList L.view cy V.view viewL dd cu eY ee comp cV dS cz V.flat L.flat fb ft dK putAt freezeVs freezeLs freezeL V.mut L.mut lent Q0.bW L.bJ vk ye nM yn oV Bc PV.bare PV.flat nC gM thaw thawL Q0.zone ma A5 Lm kD vT WX mkI WY MS.ts kY kC kL iY kK
def ln (z:Nat):List (List PV)->L
 |[]=> .pv (.lst [])
 |r::rs=> .down z (r::rs)
def oz (z:Nat)(rows ah:List (List PV)):List (Bool×List L):=match rows with
 |[]=>[]
 |_::_=>[(false,[.down z ah])]
def Mf (z:Nat)(c:List (List PV)):(c=[]/\ nd z c= .nil/\ ln z c= .pv (.lst [])/\ (∀r,oz z c r=[])/\ oW z c= .nil) \/(c≠[]/\ nd z c= .down z c/\ ln z c= .down z c/\ (∀r,oz z c r=[(false,[.down z r])])/\ oW z c= .own z c):=by
 cases c with
 |nil=>exact .inl ⟨rfl,rfl,rfl,fun _=>rfl,rfl⟩
 |cons r rs=>exact .inr ⟨by simp,rfl,rfl,fun _=>rfl,rfl⟩
def qs (c3 c4 c6 c7 c8 c9:List (List PV))(k:Int):List (List (List PV)×Int):=
 let q3:=fu cH c3 k
 let q4:=fu cH c4 q3.2
 let q6:=fu cH c6 q4.2
 let q7:=fu cH c7 q6.2
 let q8:=fu cH c8 q7.2
 let q9:=fu cH c9 q8.2
 [q3,q4,q6,q7,q8,q9]
def Hk (k:Int):cf Ph cL (426+iP) [.agg [.pv (.lst [])],ce .i64 k]=some (.b8 [(false,[.pv (.int .i64 k)])]):=by have c:=(zp (ext:=cL)).1 k;refine yO (fn:=pV) rfl rfl rfl ?_;simp[pV,c]
def mkW {c0 c2 c5:Int}{on:Bool}{c3 c4 c6 c7 c8 c9:List (List PV)}(h:dW i9 [.int .i64 c0, .bool on, .int .i64 c2, .lst c3, .lst c4, .int .i64 c5, .lst c6, .lst c7, .lst c8, .lst c9]){k:Int}(k0:0<=k)(hk:(fu cH c9 (fu cH c8 (fu cH c7 (fu cH c6 (fu cH c4 (fu cH c3 k).2).2).2).2).2).2<=Bf):
 cf Ph cL (420+iP) [.agg [.pv (.int .i64 c0), .pv (.bool on), .pv (.int .i64 c2),ln 24 c3, .down 11 c4, .pv (.int .i64 c5), .down 4 c6, .down 3 c7,ln 4 c8,ln 5 c9],ce .i64 k]=some (.b8 ((false,[.pv (.int .i64 (fu cH c9 (fu cH c8 (fu cH c7 (fu cH c6 (fu cH c4 (fu cH c3 k).2).2).2).2).2).2)])::(oz 24 c3 (fu cH c3 k).1++((false,[.down 11 (fu cH c4 (fu cH c3 k).2).1])::(false,[.down 4 (fu cH c6 (fu cH c4 (fu cH c3 k).2).2).1])::(false,[.down 3 (fu cH c7 (fu cH c6 (fu cH c4 (fu cH c3 k).2).2).2).1])::(oz 4 c8 (fu cH c8 (fu cH c7 (fu cH c6 (fu cH c4 (fu cH c3 k).2).2).2).2).1++oz 5 c9 (fu cH c9 (fu cH c8 (fu cH c7 (fu cH c6 (fu cH c4 (fu cH c3 k).2).2).2).2).2).1))))):=by
 simp only[i9,dW]at h;obtain⟨_,_,_,g3,g4,_,g6,g7,g8,g9,_⟩:=h;have l3:=tV (mT:=cH) c3 k;have l4:=tV (mT:=cH) c4 (fu cH c3 k).2;have l6:=tV (mT:=cH) c6 (fu cH c4 (fu cH c3 k).2).2;have l7:=tV (mT:=cH) c7 (fu cH c6 (fu cH c4 (fu cH c3 k).2).2).2;have l8:=tV (mT:=cH) c8 (fu cH c7 (fu cH c6 (fu cH c4 (fu cH c3 k).2).2).2).2;have l9:=tV (mT:=cH) c9 (fu cH c8 (fu cH c7 (fu cH c6 (fu cH c4 (fu cH c3 k).2).2).2).2).2;have s3:cf Ph cL (426+iP) [.agg [ln 24 c3],ce .i64 k]=some (.b8 ((false,[.pv (.int .i64 (fu cH c3 k).2)])::oz 24 c3 (fu cH c3 k).1)):=by
  cases c3 with
  |nil=>exact Hk k
  |cons r rs=>exact zr (ext:=cL) [.lst (r::rs)] ⟨g3,trivial⟩ k k0 (by show(fu cH (r::rs) k).2<=Bf;omega)
 have s4:cf Ph cL (427+iP) [.one (.down 11 c4),ce .i64 (fu cH c3 k).2]=some (.b8 [(false,[.pv (.int .i64 (fu cH c4 (fu cH c3 k).2).2)]),(false,[.down 11 (fu cH c4 (fu cH c3 k).2).1])]):=(Dz (ext:=cL)).2 c4 g4 _ (by omega) (by omega);have s6:cf Ph cL (428+iP) [.agg [.down 4 c6],ce .i64 (fu cH c4 (fu cH c3 k).2).2]=some (.b8 [(false,[.pv (.int .i64 (fu cH c6 (fu cH c4 (fu cH c3 k).2).2).2)]),(false,[.down 4 (fu cH c6 (fu cH c4 (fu cH c3 k).2).2).1])]):=xj (ext:=cL) [.lst c6] ⟨g6,trivial⟩ _ (by omega) (by show(fu cH c6 _).2<=Bf;omega);have s7:cf Ph cL (429+iP) [.agg [.down 3 c7],ce .i64 (fu cH c6 (fu cH c4 (fu cH c3 k).2).2).2]=some (.b8 [(false,[.pv (.int .i64 (fu cH c7 (fu cH c6 (fu cH c4 (fu cH c3 k).2).2).2).2)]),(false,[.down 3 (fu cH c7 (fu cH c6 (fu cH c4 (fu cH c3 k).2).2).2).1])]):=zq (ext:=cL) [.lst c7] ⟨g7,trivial⟩ _ (by omega) (by show(fu cH c7 _).2<=Bf;omega);have s8:cf Ph cL (430+iP) [.one (ln 4 c8),ce .i64 (fu cH c7 (fu cH c6 (fu cH c4 (fu cH c3 k).2).2).2).2]=some (.b8 ((false,[.pv (.int .i64 (fu cH c8 (fu cH c7 (fu cH c6 (fu cH c4 (fu cH c3 k).2).2).2).2).2)])::oz 4 c8 (fu cH c8 (fu cH c7 (fu cH c6 (fu cH c4 (fu cH c3 k).2).2).2).2).1)):=by
  cases c8 with
  |nil=>exact(xZ (ext:=cL)).1 _
  |cons r rs=>exact(xZ (ext:=cL)).2 (r::rs) g8 _ (by omega) (by omega)
 have s9:cf Ph cL (431+iP) [.one (ln 5 c9),ce .i64 (fu cH c8 (fu cH c7 (fu cH c6 (fu cH c4 (fu cH c3 k).2).2).2).2).2]=some (.b8 ((false,[.pv (.int .i64 (fu cH c9 (fu cH c8 (fu cH c7 (fu cH c6 (fu cH c4 (fu cH c3 k).2).2).2).2).2).2)])::oz 5 c9 (fu cH c9 (fu cH c8 (fu cH c7 (fu cH c6 (fu cH c4 (fu cH c3 k).2).2).2).2).2).1)):=by
  cases c9 with
  |nil=>exact(vl (ext:=cL)).1 _
  |cons r rs=>exact(vl (ext:=cL)).2 (r::rs) g9 _ (by omega) (by omega)
 clear hk k0 g3 g4 g6 g7 g8 g9 l3 l4 l6 l7 l8 l9;generalize fu cH c3 k=q3 at s3 s4 s6 s7 s8 s9⊢;generalize fu cH c4 q3.2=q4 at s4 s6 s7 s8 s9⊢;generalize fu cH c6 q4.2=q6 at s6 s7 s8 s9⊢;generalize fu cH c7 q6.2=q7 at s7 s8 s9⊢;generalize fu cH c8 q7.2=q8 at s8 s9⊢;generalize fu cH c9 q8.2=q9 at s9⊢;rcases Mf 24 c3 with⟨_,_,u3,v3,_⟩|⟨_,_,u3,v3,_⟩<;>rcases Mf 4 c8 with⟨_,_,u8,v8,_⟩|⟨_,_,u8,v8,_⟩<;>rcases Mf 5 c9 with⟨_,_,u9,v9,_⟩|⟨_,_,u9,v9,_⟩<;>simp only[u3,v3,u8,v8,u9,v9]at s3 s8 s9⊢ <;>(refine yO (fn:=rU) rfl rfl rfl ?_;simp[rU,s3,s4,s6,s7,s8,s9])
def WR (c0:Int)(c1:Bool)(c2:Int)(c3 c4:List (List PV))(c5:Int)(c6 c7 c8 c9:List (List PV)):List PV:=[.int .i64 c0, .bool c1, .int .i64 c2, .lst c3, .lst c4, .int .i64 c5, .lst c6, .lst c7, .lst c8, .lst c9]
def WP (c0:Int)(c1:Bool)(c2:Int)(c3 c4:List (List PV))(c5:Int)(c6 c7 c8 c9:List (List PV)):List L:=[.pv (.int .i64 c0), .pv (.bool c1), .pv (.int .i64 c2), .pv (.lst c3), .pv (.lst c4), .pv (.int .i64 c5), .pv (.lst c6), .pv (.lst c7), .pv (.lst c8), .pv (.lst c9)]
def aco (k:Int):fu cH [] k=([],k):=rfl
end Gi
namespace Gi
open Go Go.RowKit
set_option maxHeartbeats 4000000
set_option maxRecDepth 4000
attribute [local simp] start qY dX eX fi gx fh gv gC gB sE sO sF sP sG sQ sH sR sI sS sJ sU sK sV sM sW sN sX V.cells plain dM iZ isInt isStr isBool bin ez je eA jf gy un asList L.view cy V.view viewL dd cu eD dN ee comp cV dS eV dV dC dz dA cG ct df cq cF cO cA dx du cI dD dF V.flat L.flat fb ft dK putAt thaw thawL thawT V.ow gA fk fm eB gz eC fj freezeVs freezeLs freezeL V.mut L.mut cN fI iE dj dQ cZ fK ed dE ew L.bC cT fA ep fD ej eG wp_seq wp_block dk fq eE dO eF wp_skip wp_exit wp_ret eJ eM eP eO eS eT eR dU cM L.bA cY cW cX fo dI storeD de hJ co eK cJ nI L.bE L.closed V.closed PV.bare PV.flat
def rg (n a b:Int):Bool:= !(dZ n a)&& !(dZ b n)
def dR (n a b:Int):cf Ph cL 61 [ce .i64 n,ce .i64 a,ce .i64 b]=some (cK (rg n a b)):=by refine ca rfl ?_;simp +contextual (maxSteps:=9^9) [uy,rg]
def eN (n a b:Int):cf Ph cL 58 [ce .i64 n,ce .i64 a,ce .i64 b]=some (cK (rg n a b)):=by refine ca rfl ?_;simp +contextual (maxSteps:=9^9) [yW,rg]
def sgn (a b:Int):Int:=if dZ a b then-1 else if dZ b a then 1 else 0
def AK (a b:Int):cf Ph cL 362 [ce .i64 a,ce .i64 b]=some (ce .i64 (sgn a b)):=by refine ca rfl ?_;simp +contextual (maxSteps:=9^9) [pP,sgn]
def J4 (a b:Bool):cf Ph cL 359 [cK a,cK b]=some (ce .i64 (if a=true then-1 else if b=true then 1 else 0)):=by refine ca rfl ?_;simp +contextual (maxSteps:=9^9) [wq]
def SD (sl:Bool)(s:List UInt8)(k:Nat):Bool:=match s[k]? with
 |some b=>(dZ b.toNat 97||dZ 122 b.toNat)&& !(sl&&(b.toNat:Int)==47)
 |none=>false
def vi (s:List UInt8)(m:Int)(sl:Bool):Bool:= !(jP s.length (SD sl s))&&rg s.length 1 m
abbrev fU (s:List UInt8):Bool:=vi s 8 false
def zj {s:List UInt8}(h:s.length<=maxLen)(m:Int)(sl:Bool):cf Ph cL 213 [fY s,ce .i64 m,cK sl]=some (cK (vi s m sl)):=by refine ca rfl ?_;simp +contextual (maxSteps:=9^9) [wh];refine cP dG Cl.fin [.t,.t,.t,.f,.f,.f,.f,.t,.f,.f,.f,.f,.f,.f,.f,.f,.f,.f,.f,.f,.f,.f,.f,.f,.f,.f,.f,.f,.f,.f,.f,.f,.f,.f,.f,.f,.f,.f] (fun k=>[(7,ce .i64 k)]) s.length (SD sl s) rfl (by simp) (fun k hk _=> ?_) (fun _ hp=> ?_);simp +contextual (maxSteps:=9^9) [pq,SD,vi,hk,da h hk,dw hk];simp +contextual (maxSteps:=9^9) [pq,vi,hp,dR]
def eL {s:List UInt8}(h:s.length<=maxLen):cf Ph cL 178 [fY s]=some (cK (fU s)):=by refine ca rfl ?_;simp[wc,zj h]
def fR {s:List UInt8}(h:s.length<=maxLen):cf Ph cL 177 [fY s]=some (cK (fU s)):=by refine ca rfl ?_;simp +contextual (maxSteps:=9^9) [wi];refine cP dG Cl.fin [.t,.f,.f,.t,.f,.f,.f,.f,.f,.f,.f,.f,.f,.f,.f,.f,.f,.f,.f,.f,.f,.f,.f] (fun k=>[(3,ce .i64 k)]) s.length (SD false s) rfl (by simp) (fun k hk _=> ?_) (fun _ hp=> ?_);simp +contextual (maxSteps:=9^9) [pt,SD,fU,vi,hk,da h hk,dw hk];simp +contextual (maxSteps:=9^9) [pt,fU,vi,hp,eN]
def aai (s:List UInt8)(k:Nat):Bool:=match s[k]? with
 |some b=>(dZ b.toNat 97||dZ 122 b.toNat)&&(dZ b.toNat 48||dZ 57 b.toNat)
 |none=>false
def zk (s:List UInt8):Bool:= !(jP s.length (aai s))&& !(dZ 12 s.length)
def Dt {s:List UInt8}(h:s.length<=maxLen):cf Ph cL 90 [fY s]=some (cK (zk s)):=by refine ca rfl ?_;simp +contextual (maxSteps:=9^9) [rS];refine cP dG Cl.fin [.t,.f,.f,.t,.f,.f,.f,.f,.f,.f,.f,.f,.f,.f,.f,.f,.f,.f,.f,.f,.f,.f,.f,.f,.f,.f,.f,.f,.f,.f,.f,.f,.f,.f,.f,.f] (fun k=>[(3,ce .i64 k)]) s.length (aai s) rfl (by simp) (fun k hk _=> ?_) (fun _ hp=> ?_);simp +contextual (maxSteps:=9^9) [mo,aai,zk,hk,da h hk,dw hk];simp +contextual (maxSteps:=9^9) [mo,zk,hp]
def J5 {s:List UInt8}(h:s.length<=maxLen):cf Ph cL 88 [fY s]=some (cK (zk s)):=by refine ca rfl ?_;simp +contextual (maxSteps:=9^9) [wu];refine cP dG Cl.fin [.t,.f,.f,.t,.f,.f,.f,.f,.f,.f,.f,.f,.f,.f,.f,.f,.f,.f,.f,.f,.f,.f,.f,.f,.f,.f,.f,.f,.f,.f,.f,.f,.f,.f,.f] (fun k=>[(3,ce .i64 k)]) s.length (aai s) rfl (by simp) (fun k hk _=> ?_) (fun _ hp=> ?_);simp +contextual (maxSteps:=9^9) [pz,aai,zk,hk,da h hk,dw hk];simp +contextual (maxSteps:=9^9) [pz,zk,hp]
def nA (a:Y7):Bool:=rg a.aX 1 3&&rg a.n (-1000000000000) 1000000000000&&(!(a.aX==2)||a.n==0)&&zk a.ad&&(!(a.aX==1)||a.ad==[])
def pb {a:Y7}(h:a.Ok maxLen):cf Ph cL 67 [a.v]=some (cK (nA a)):=by refine ca rfl ?_;simp +contextual (maxSteps:=9^9) [xI,dR,Dt h.2.2,nA]<;>grind
def pf {a:Y7}(h:a.Ok maxLen):cf Ph cL 65 [a.v]=some (cK (nA a)):=by refine ca rfl ?_;simp +contextual (maxSteps:=9^9) [xJ,eN,J5 h.2.2,nA]<;>grind
def LB (a b:List UInt8):cf Ph cL 363 [fY a,fY b]=some (ce .i64 (Lib.compareBytes a b)):=Vm rfl rfl
def kR :∀(a b:List UInt8),Lib.compareBytes a b=if Op.bytesLess a b=true then-1 else if Op.bytesLess b a=true then 1 else 0
 |[],[]=>rfl
 |[],_::_=>rfl
 |_::_,[]=>rfl
 |a::xz,b::bs=>by
  have ih:=kR xz bs;simp only[Lib.compareBytes,Op.bytesLess,ih];by_cases h1:a<b;simp[h1];by_cases h2:b<a;have h3:¬a=b:=fun h=>by subst h;exact absurd h2 (UInt8.lt_irrefl _)
  simp[h1,h2,h3];obtain rfl:a=b:=UInt8.le_antisymm (UInt8.not_lt.1 h2) (UInt8.not_lt.1 h1);simp[UInt8.lt_irrefl]
def wU (a b:Y7):Int:=if nA a=false \/nA b=false then 0 else if a.aX≠b.aX then sgn a.aX b.aX else if a.n≠b.n then sgn a.n b.n else Lib.compareBytes a.ad b.ad
def lB {a b:Y7}(ha:a.Ok maxLen)(hb:b.Ok maxLen):cf Ph cL 355 [a.v,b.v]=some (ce .i64 (wU a b)):=by refine ca rfl ?_;simp +contextual (maxSteps:=9^9) [pJ,pb,AK,LB,ha,hb,wU];grind [sgn,dZ]
def lC {a b:Y7}(ha:a.Ok maxLen)(hb:b.Ok maxLen):cf Ph cL 351 [a.v,b.v]=some (ce .i64 (wU a b)):=by refine ca rfl ?_;simp +contextual (maxSteps:=9^9) [pX,pf,J4,ha,hb,wU,kR];grind [sgn,dZ]
def Pa (fs:List Q8)(k:Nat):Bool:=match fs[k]?,fs[k-1]? with
 |some x,some y=> !(fU x.aG)||(!(rg x.n 0 1000000000)||(dZ 0 k&& !(Op.bytesLess y.aG x.aG)))
 |_,_=>false
def gJ (fs:List Q8):Bool:= !(jP fs.length (Pa fs))&& !(dZ 6 fs.length)
def oC {r:X6}(h:r.Ok maxLen):cf Ph cL 246 [r.v]=some (cK (gJ r.fs)):=by refine ca rfl ?_;simp +contextual (maxSteps:=9^9) [tw];refine cP dG Cl.fin [.f,.t,.f,.f,.f,.f,.t,.t,.t,.f,.f,.f,.f,.f,.f,.f,.f,.f,.f,.f,.f,.f,.f,.f,.f,.f,.f,.f,.f,.f,.f,.f,.f,.f,.f,.f,.f,.f,.f,.f,.f,.f,.f,.f] (fun k=>[(8,ce .i64 k)]) r.fs.length (Pa r.fs) rfl (by simp) (fun k hk _=> ?_) (fun _ hp=> ?_);obtain⟨q1,q2⟩:=AQ h.1 hk;simp +contextual (maxSteps:=9^9) [ni,Pa,gJ,hk,q1,q2,da h.1 hk,dw hk,Q8.e.eq_1 r.fs[k],Q8.e.eq_1 r.fs[k-1],eL (h.2 _ (Zf hk)).1,dR];simp +contextual (maxSteps:=9^9) [ni,gJ,hp]
def lY {r:X6}(h:r.Ok maxLen):cf Ph cL 243 [r.v]=some (cK (gJ r.fs)):=by refine ca rfl ?_;simp +contextual (maxSteps:=9^9) [tL];refine cP dG Cl.fin [.f,.t,.f,.t,.f,.f,.f,.f,.f,.f,.f,.f,.f,.f,.f,.f,.f,.f,.f,.f,.f,.f,.f,.f,.f,.f,.f,.f,.f,.f,.f,.f,.f,.f,.f,.f,.f,.f,.f,.f,.f,.f,.f,.f,.f,.f,.f,.f,.f,.f,.f,.f,.f] (fun k=>[(3,ce .i64 k)]) r.fs.length (Pa r.fs) rfl (by simp) (fun k hk _=> ?_) (fun _ hp=> ?_);obtain⟨q1,q2⟩:=AQ h.1 hk;simp +contextual (maxSteps:=9^9) [nq,Pa,gJ,hk,q1,q2,da h.1 hk,dw hk,Q8.e.eq_1 r.fs[k],Q8.e.eq_1 r.fs[k-1],fR (h.2 _ (Zf hk)).1,eN];simp +contextual (maxSteps:=9^9) [nq,gJ,hp]
def fO {α:Type}(p:α->Bool)(xs:List α):Int:=match xs.findIdx? p with
 |some i=>(i:Int)
 |none=> -1
def kE {α:Type}(p:α->Bool)(xs:List α)(k:Nat):Bool:=match xs[k]? with
 |some x=>p x
 |none=>false
def wB {α:Type}{p:α->Bool}{xs:List α}{k:Nat}(hk:k<xs.length)(hj:∀j,j<k->kE p xs j=false)(h:p xs[k]=true):fO p xs=(k:Int):=by
 have:xs.findIdx? p=some k:=by
  rw[ZS];refine⟨hk,h,fun j aN=> ?_⟩;have h1:j<xs.length:=by omega
  have:=hj j aN;simpa[kE,h1]using this
 simp[fO,this]
def wA {α:Type}{p:α->Bool}{xs:List α}(hj:∀j,j<xs.length->kE p xs j=false):fO p xs= -1:=by
 have:xs.findIdx? p=none:=by rw[YB];intro x hx;obtain⟨j,h1,rfl⟩:=Yb.1 hx;simpa[kE,h1]using hj j h1
 simp[fO,this]
def Ai {α:Type}(p:α->Bool)(xs:List α):fO p xs= -1 \/∃j,∃hj:j<xs.length,fO p xs=(j:Int)/\ p xs[j]=true:=by
 unfold fO;cases h:xs.findIdx? p with
 |none=>exact .inl rfl
 |some i=>rw[ZS]at h;obtain⟨h1,h2,_⟩:=h;exact .inr ⟨i,h1,rfl,h2⟩
def ixB (z:Nat):Q6:=(.seq (.region [⟨(some 9),(.bin .lss (.tmp 8) (.tmp 7)),none⟩]) (.seq (.cond (.tmp 9) .skip (.exit 0)) (.seq (.block 1 (.seq (.region [⟨(some 10),(.mv (.tmp 8)),none⟩,⟨(some 5),(.mv (.tmp 10)),none⟩]) (.seq (.region [⟨(some 11),(.mv (.tmp 1)),none⟩,⟨(some 12),(.mv (.tmp 0)),none⟩,⟨(some 13),(.mv (.tmp 5)),none⟩,⟨(some 14),(.bF z (.tmp 12) (.tmp 13)),none⟩,⟨(some 15),(.load true z (.tmp 14)),none⟩,⟨(some 16),(.bl (.tmp 11) [(.tmp 15)]),none⟩]) (.cond (.tmp 16) (.seq (.region [⟨(some 17),(.mv (.tmp 5)),none⟩,⟨(some 4),(.mv (.tmp 17)),none⟩]) .ret) .skip)))) (.region [⟨(some 18),(.bin .add (.tmp 8) (.pv (.int .i64 1))),none⟩,⟨(some 8),(.mv (.tmp 18)),none⟩]))))
def ixF (z:Nat):AFn:=⟨19,[(.tmp 4)],(.seq (.region [⟨(some 4),(.mv (.pv (.int .i64 0))),none⟩]) (.seq (.seq (.region [⟨(some 6),(.mv (.tmp 0)),none⟩,⟨(some 7),(.len (.tmp 6)),none⟩,⟨(some 8),(.mv (.pv (.int .i64 0))),none⟩]) (.block 0 (.loop (ixB z)))) (.seq (.region [⟨(some 4),(.mv (.pv (.int .i64 (-1)))),none⟩]) .ret)))⟩
def B2 {α:Type}{e:α->List PV}{p:α->Bool}{xs:List α}{k z kc:Nat}{caps:List (List PV)}(hk:Ph k=some (ixF z))(hl:xs.length<=maxLen)(hz:∀x,(e x).length=z)(hp:∀x∈xs,cf Ph cL kc (.agg ((e x).map .pv)::caps.map wR)=some (cK (p x))):cf Ph cL k [eQ (xs.map e), .one (.fn kc caps)]=some (ce .i64 (fO p xs)):=by refine ca hk ?_;simp +contextual (maxSteps:=9^9) [ixF];refine cP dG Cl.fin [.t,.t,.f,.f,.f,.f,.f,.t,.t,.f,.f,.f,.f,.f,.f,.f,.f,.f,.f] (fun k=>[(8,ce .i64 k)]) xs.length (kE p xs) rfl (by simp) (fun k hk hj=> ?_) (fun hj _=> ?_);have hc:=hp _ (Zf hk);have ht:List.take z ((e xs[k]).map L.pv)=(e xs[k]).map L.pv:=Zs (by simp[hz]);have hf:=wB hk hj;simp +contextual (maxSteps:=9^9) [ixB,kE,hk,hz,ht,hc,hf,da hl hk,dw hk,vE];simp +contextual (maxSteps:=9^9) [ixB,wA hj]
def yE (s t:List UInt8)(x:Q1):Bool:=x.aP==s&&x.av==t
def km {bs:List Q1}(h:bs.length<=maxLen)(s t:List UInt8):cf Ph cL 175 [.agg [.pv (.lst (bs.map Q1.e))],fY s,fY t]=some (ce .i64 (fO (yE s t) bs)):=by
 have e1:=B2 (e:=Q1.e) (p:=yE s t) (xs:=bs) (k:=209) (z:=24) (kc:=210) (caps:=[[.str s],[.str t]]) rfl h (fun _=>rfl) (fun x _=>by
  refine ca rfl ?_
  simp +contextual (maxSteps:=9^9) [oM,Q1.e.eq_1,wR,yE])
 refine ca rfl ?_;simp +contextual (maxSteps:=9^9) [qp,nN,tZ,e1]
def js {bs:List Q1}(h:bs.length<=maxLen)(s t:List UInt8):cf Ph cL 145 [.agg [.pv (.lst (bs.map Q1.e))],fY s,fY t]=some (ce .i64 (fO (yE s t) bs)):=by refine ca rfl ?_;simp +contextual (maxSteps:=9^9) [qC];refine cP dG Cl.fin [.f,.t,.t,.t,.f,.f,.f,.t,.f,.f,.f,.f,.f,.f,.f,.f,.f,.f,.f,.f,.f,.f,.f,.f,.f,.f,.f,.f,.f,.f,.f,.f,.f,.f] (fun k=>[(7,ce .i64 k)]) bs.length (kE (yE s t) bs) rfl (by simp) (fun k hk hj=> ?_) (fun hj _=> ?_);have hf:=wB hk hj;simp +contextual (maxSteps:=9^9) [lh,kE,yE,hk,hf,da h hk,dw hk,Q1.e.eq_1 bs[k]];simp +contextual (maxSteps:=9^9) [lh,wA hj]
end Gi
