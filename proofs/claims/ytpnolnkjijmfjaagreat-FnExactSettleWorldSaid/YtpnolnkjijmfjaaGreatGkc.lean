/- Of this proof. -/
import Derived.Test.YtpnolnkjijmfjaaGreatGip
import Derived.Test.YtpnolnkjijmfjaaGreatGps
import Derived.Test.YtpnolnkjijmfjaaGreatGka
set_option linter.all false
namespace Gi
open Go Go.RowKit
variable {KI:KF}
structure QF (w W:World) (b:Nat):Prop where
 os:W.os=w.os
 tape:W.tape=w.tape
 output:W.output=w.output
 size:w.heap.size<=W.heap.size
 block:∀k,k<w.heap.size->k≠b->W.heap[k]? =w.heap[k]?
def QF.below {w W W':World}{b:Nat}(h:QF w W b)(g:Below W.heap.size W W'):QF w W' b:=
 ⟨g.os.trans h.os,g.tape.trans h.tape,g.output.trans h.output,Zc h.size g.size,fun k hk hb=>(g.block k (ZD hk h.size)).trans (h.block k hk hb)⟩
def Below.cg {w W:World}{b:Nat}(g:Below w.heap.size w W):QF w W b:=⟨g.os,g.tape,g.output,g.size,fun k hk _=>g.block k hk⟩
def jb.below {w W:World}{b:Nat}{cur:Array Value}(h:jb w b cur)(g:Below w.heap.size w W):jb W b cur:=by
 obtain⟨T,hT⟩:=h;have hlt:b<w.heap.size:=by rcases Qp b w.heap.size with q|q;exact q;rw[Yt q]at hT;cases hT
 exact⟨T,(g.block b hlt).trans hT⟩
def nJ (p:Nat->Bool)(n:Nat):List Nat:=(List.range n).filter fun j=> !p j
def H9 (p:Nat->Bool)(n:Nat):nJ p (n+1)=nJ p n++(if p n then []else [n]):=by unfold nJ;rw[List.range_succ,List.filter_append];congr 1;cases h:p n<;>simp[YT,h]
def abo {p:Nat->Bool}{n t u:Nat}(h:(nJ p n)[t]? =some u):u<n:=by have:=Zn h;simp only[nJ,QL,QP]at this;exact this.1
def FI {p:Nat->Bool}{n:Nat}(h:∀j,j<n->p j=false):nJ p n=List.range n:=by unfold nJ;rw[List.filter_eq_self];intro j hj;rw[h j (by simpa using hj)];rfl
structure QD (p:Nat->Bool) (z:Nat) (w wr:World) (b:Nat) (cur ck:Array Value) (i j:Nat):Prop where
 rel:QF w wr b
 row:jb wr b ck
 size:ck.size=cur.size
 len:i=(nJ p j).length
 lt:i<j
 low:∀(t u:Nat),(nJ p j)[t]? =some u->∀q,q<z->ck[t*z+q]? =cur[u*z+q]?
 high:∀u,j*z<=u->ck[u]? =cur[u]?
def QD.start {p:Nat->Bool}{z:Nat}{w wr:World}{b k:Nat}{cur:Array Value}(h:Below w.heap.size w wr)(hr:jb w b cur)(hk:p k=true)(hj:∀j,j<k->p j=false):QD p z w wr b cur cur k (k+1):=by
 have e:nJ p (k+1)=List.range k:=by rw[H9,FI hj,hk];simp
 refine⟨Below.cg h,jb.below hr h,rfl,by rw[e,List.length_range],by omega,fun t u ht q hq=> ?_,fun _ _=>rfl⟩;rw[e]at ht;obtain⟨h1,h2⟩:=Zb.1 ht;simp at h2;rw[h2]
def J4 {i j z:Nat}(h:i<j):i*z+z<=j*z:=by
 calc i*z+z=(i+1)*z:=by rw[Nat.add_mul,Yl]
  _<=j*z:=ZE _ h
section
variable {p:Nat->Bool}{z:Nat}{w wr w2:World}{b i j:Nat}{cur ck:Array Value}
def QD.skip (h:QD p z w wr b cur ck i j)(hp:p j=true)(hd:Below wr.heap.size wr w2):QD p z w w2 b cur ck i (j+1):=by
 have e:nJ p (j+1)=nJ p j:=by rw[H9,hp];simp
 refine⟨h.rel.below hd,h.row.below hd,h.size,by rw[e];exact h.len,Nat.lt_succ_of_lt h.lt,by rw[e];exact h.low,fun u hu=>h.high u ?_⟩;have:=J4 (z:=z) (show j<j+1 by omega);omega
def QD.keep (h:QD p z w wr b cur ck i j)(hp:p j=false)(hd:Below wr.heap.size wr w2){vs:List Value}(hl:vs.length=z)(hv:∀q,q<z->vs[q]? =cur[j*z+q]?)(hj:j*z+z<=cur.size):∃a2,QD p z w (w2.setCells b (i*z) vs) b cur a2 (i+1) (j+1):=by
 have e:nJ p (j+1)=nJ p j++[j]:=by rw[H9,hp];simp
 have aO:=J4 (z:=z) h.lt;have aQ:=J4 (z:=z) (show j<j+1 by omega);obtain⟨a2,h1,h2,h3⟩:=gY b vs (i*z) w2 ck (h.row.below hd) (by rw[hl,h.size];omega);have a6:=fH b 0 (YB _) vs (i*z) w2 w2 (Below.refl _ _);have d2:=h.rel.below hd;refine⟨a2,⟨a6.os.trans d2.os,a6.tape.trans d2.tape,a6.output.trans d2.output,by rw[gF];exact d2.size,fun k hk hb=>(gE b vs (i*z) w2 k hb).trans (d2.block k hk hb)⟩,h1,h2.trans h.size,by rw[e,Zv,<-h.len];rfl,Nat.succ_lt_succ h.lt,fun t u a5 q hq=> ?_,fun u hu=> ?_⟩;rw[e]at a5;rw[h3];by_cases ht:t<i;rw[Ze (by rw[<-h.len];exact ht)]at a5;have:=Py ht hq;rw[if_neg (by omega)];exact h.low t u a5 q hq;have aq:=(Zb.1 a5).1;rw[Zv,<-h.len]at aq;simp only[Zo,Zx]at aq;obtain rfl:t=i:=by omega
 rw[Zm (by rw[<-h.len];exact Zi _),<-h.len,YI,Yh]at a5;cases a5;rw[if_pos ⟨by omega,by omega⟩,show t*z+q-t*z=q by omega];exact hv q hq;rw[h3,if_neg (by omega)];exact h.high u (by omega)
def QD.done (h:QD p z w wr b cur ck i j){vs:List Value}(hl:vs.length=(j-i)*z)(hj:j*z<=cur.size):∃a2,jb (wr.setCells b (i*z) vs) b a2/\ a2.size=cur.size/\ QF w (wr.setCells b (i*z) vs) b/\ ∀(t u:Nat),(nJ p j)[t]? =some u->∀q,q<z->a2[t*z+q]? =cur[u*z+q]? :=by
 have hm:i*z+(j-i)*z=j*z:=by rw[<-Nat.add_mul,show i+(j-i)=j by have:=h.lt;omega]
 obtain⟨a2,h1,h2,h3⟩:=gY b vs (i*z) wr ck h.row (by rw[hl,h.size,hm];exact hj);have a6:=fH b 0 (YB _) vs (i*z) wr wr (Below.refl _ _);refine⟨a2,h1,h2.trans h.size,⟨a6.os.trans h.rel.os,a6.tape.trans h.rel.tape,a6.output.trans h.rel.output,by rw[gF];exact h.rel.size,fun k hk hb=>(gE b vs (i*z) wr k hb).trans (h.rel.block k hk hb)⟩,fun t u a5 q hq=> ?_⟩;have ht:t<i:=by rw[h.len];exact(Zb.1 a5).1
 have:=Py ht hq;rw[h3,if_neg (by omega)];exact h.low t u a5 q hq
end
def LX {zs:Array Value}{n:Nat}{P:Value->Prop}(h:∀v∈zs,P v)(hz:0<zs.size):∀v∈(Builtin.zeroCells zs n).toList,P v:=by intro v hv;simp only[Builtin.zeroCells,ZZ,ZV]at hv;obtain⟨i,_,rfl⟩:=hv;have hlt:=Qh i hz;rw[getElem!_pos zs _ hlt];exact h _ (QW hlt)
def R2 {P:Program}(w:World)(t e ty:TypeId)(zv:Value)(z:Nat)(ht:P.underlying t=some (.slice e))(hv:∀w,(zeroValue e).run P w= .ok zv w)(hz:zv.cells.size=z)(aR:0<z)(h1:∀v∈zv.cells,v.oneCell'=true)(b o n c:Nat)(hn:0<n)
 (hc:∀j,j<n*z->(w.cell? ⟨b,o+j,none⟩).isSome=true) (hf:∀j,j<n*z->w.frozen? ⟨b,o+j,none⟩=false):
 (Builtin.clear_ #[t] ty #[.slice (some ⟨b,o,none⟩) n c]).run P w= .ok (.tuple #[]) (w.setCells b o (Builtin.zeroCells zv.cells n).toList):=by
 have hl:(Builtin.zeroCells zv.cells n).toList.length=n*z:=by rw[Yo,<-hz];unfold Builtin.zeroCells;rw[Array.size_map,Array.size_range]
 have ar:=run_storeCells_cells (P:=P) b o (Builtin.zeroCells zv.cells n).toList 0 w (by rw[hl];simpa using hc) (by rw[hl];simpa using hf) (LX h1 (by omega));simp only[Yx]at ar;obtain⟨m,rfl⟩:∃m,n=m+1:=⟨n-1,by omega⟩;simp[Builtin.clear_,run_underlying ht,hv,ar]
def iM {w W:World}{b o:Nat}{v:Value}(h:w.cell? ⟨b,o,none⟩=some v)(g:Below w.heap.size w W):W.cell? ⟨b,o,none⟩=some v:=by
 have hlt:b<w.heap.size:=by rcases Qp b w.heap.size with q|q;exact q;simp[World.cell?,Yt q]at h
 unfold World.cell? at*;rw[g.block b hlt];exact h
def vZ {w W W':World}(h:Below w.heap.size w W)(g:Below W.heap.size W W'):Below w.heap.size w W':=
 ⟨g.os.trans h.os,g.tape.trans h.tape,g.output.trans h.output,Zc h.size g.size,fun k hk=>(g.block k (ZD hk h.size)).trans (h.block k hk)⟩
def za (w:World)(o:Obj):Below w.heap.size w (w.alloc o):=⟨rfl,rfl,rfl,by simp,fun k hk=>iw w o k hk⟩
def aeS (P:Program)(f z:Nat):Prop:=
 ∀(w:World)(fc:FuncId)(cs:Array Value)(p:Nat->Bool),(∀args w,(callFunc fc args).run P w= .ok (.enter fc args) w)->
  (∀ad:Option Addr,Calls P f #[.slice ad 0 0, .func (.func fc) #[] cs] w fun e w'=>e= .returned (.slice ad 0 0)/\ Below w.heap.size w w')/\
  ∀(b n cap:Nat)(cur:Array Value),jb w b cur->cur.size=cap*z->n<=cap->cap<=maxLen->(∀(u:Nat)v,u<n*z->cur[u]? =some v->v.oneCell'=true)->
   (∀j,j<n->∀W,QF w W b->Calls P fc (#[.agg (cur.extract (j*z) (j*z+z))]++cs) W fun e W'=>e= .returned (.bool (p j))/\ Below W.heap.size W W')->
   Calls P f #[.slice (some ⟨b,0,none⟩) n cap, .func (.func fc) #[] cs] w fun e w'=>∃cur',e= .returned (.slice (some ⟨b,0,none⟩) (nJ p n).length cap)/\ jb w' b cur'/\ cur'.size=cur.size/\ QF w w' b/\
    ∀(t u:Nat),(nJ p n)[t]? =some u->∀q,q<z->cur'[t*z+q]? =cur[u*z+q]?
def Rh (p:List PV->Bool)(es:List (List PV)):(nJ (fun j=>match es[j]? with|some e=>p e|none=>false) es.length).length=(es.filter fun e=> !p e).length/\
 ∀(t:Nat)(e:List PV),(es.filter fun e=> !p e)[t]? =some e->∃u,(nJ (fun j=>match es[j]? with|some e=>p e|none=>false) es.length)[t]? =some u/\ es[u]? =some e:=by
 have key:∀k,k<=es.length->(es.take k).filter (fun e=> !p e)=(nJ (fun j=>match es[j]? with|some e=>p e|none=>false) k).filterMap (fun u=>es[u]?)/\
  (nJ (fun j=>match es[j]? with|some e=>p e|none=>false) k).length=((es.take k).filter (fun e=> !p e)).length:=by
  intro k;induction k with
  |zero=>intro _;simp[nJ]
  |succ k ih=>
   intro hk;obtain⟨i1,i2⟩:=ih (by omega);have hlt:k<es.length:=by omega
   rw[ZQ hlt,List.filter_append,H9,List.filterMap_append,Zv,Zv,<-i1,<-i2,Zj hlt];cases h:p es[k]<;>simp[YT,h,hlt]
 obtain⟨k1,k2⟩:=key es.length (Zi _);rw[Yd]at k1 k2;refine⟨k2,fun t e he=> ?_⟩;generalize hK:nJ (fun j=>match es[j]? with|some e=>p e|none=>false) es.length=K at k1 k2;have ai:∀u∈K,∃x,es[u]? =some x:=fun u hu=>by rw[<-hK]at hu;obtain⟨i,hi⟩:=List.mem_iff_getElem?.1 hu;exact⟨_,Zj (abo hi)⟩
 have aA:∀(K:List Nat),(∀u∈K,∃x,es[u]? =some x)->∀(t:Nat)(e:List PV),(K.filterMap fun u=>es[u]?)[t]? =some e->∃u,K[t]? =some u/\ es[u]? =some e:=by
  intro K;induction K with
  |nil=>intro _ t e h;simp at h
  |cons u K ih=>
   intro ha t e h;obtain⟨x,hx⟩:=ha u (by simp);rw[YS,hx]at h;cases t with
   |zero=>simp only[Yh]at h;cases h;exact⟨u,rfl,hx⟩
   |succ t=>simp only[Yp]at h⊢;exact ih (fun u hu=>ha u (by simp[hu])) t e h
 rw[k1]at he;exact aA K ai t e he
def acz {Γ:Ctx}{P:Program}{f z:Nat}(hv:aeS P f z):acp Γ P f z:=by
 intro c cs es p aB aC;have au:∀fc,kf fc=some c->∀(args:Array Value)(w:World),(callFunc fc args).run P w= .ok (.enter fc args) w:=fun fc a8 args w=>by obtain⟨fn,h1,h2,h3⟩:=aB fc a8;simp only[callFunc,run_program,Sem.run_bind,Result.andThen_ok,h1,h2,h3];simp
 constructor;intro ab M w g ad hG hg;obtain⟨fc,ae,rfl,a8,hlen,af⟩:=hg;exact(hv w fc ae (fun _=>false) (au fc a8)).1 ad;intro hz ab;refine⟨fun e he=>ab e (QL.1 he).1,YD _ _,?_⟩;intro M w g b cap cur hG hB hM hg aw aj ax hn ag a1;obtain⟨fc,ae,rfl,a8,hlen,af⟩:=hg;obtain⟨f1,f2⟩:=Rh p es;obtain⟨pN,ay⟩:∃pN:Nat->Bool,pN=fun j=>match es[j]? with|some e=>p e|none=>false:=⟨_,rfl⟩
 rw[<-ay]at f1 f2;have aD:∀j(hj:j<es.length),pN j=p es[j]:=fun j hj=>by rw[ay];simp only[Zj hj]
 refine((hv w fc ae pN (au fc a8)).2 b es.length cap cur aj ax hn ag ?_ ?_).mono ?_;intro u v hu hc;have hd:=Qz u z;have hm:=Qh u hz;have hj:u/z<es.length:=(YY hz).2 hu;have he:=Zj hj;have hl:=ab _ (Zf hj);obtain⟨v',aa,hr⟩:=a1 (u/z) _ (u%z) _ he (Zj (by rw[hl];exact hm));rw[YH,hd,hc]at aa;cases aa;exact hr.one;intro j hj W hW;have he:=Zj hj;have hl:=ab _ (Zf hj);have ak:QH M M w W:=⟨hW.size,fun _ _ h=>h,fun k hk hm=>hW.block k hk (fun e=>hm (e▸aw))⟩;have aE:Γ.G W:=Γ.keep w W hG ⟨hW.os,hW.tape,hW.output,hW.size,fun k hk=>hW.block k (ZD hk (Γ.size w hG)) (by omega)⟩;have al:j*z+z<=cur.size:=by
  rw[ax];calc j*z+z=(j+1)*z:=by rw[Nat.add_mul,Yl]
   _<=cap*z:=ZE _ (by omega)
 have hs:=aC _ (Zf hj) fc a8;rw[aD j hj];have ha:uD M W (.agg (es[j].map .pv)::cs.map xg) (#[Value.agg (cur.extract (j*z) (j*z+z))]++ae).toList:=by
  refine⟨by simp[hlen],fun i x u hx hu=> ?_⟩;cases i with
  |zero=>
   simp only[Yh]at hx;cases hx;have aF:Value.agg (cur.extract (j*z) (j*z+z))=u:=by simpa using hu
   rw[<-aF];refine⟨_,rfl,by simp[hl];omega,fun q l v hq hv=> ?_⟩;rw[Zp]at hq;cases hp:es[j][q]? with
   |none=>rw[hp]at hq;cases hq
   |some pv=>
    rw[hp]at hq;cases hq;have aS:q<z:=by have:=(Zb.1 hp).1;omega
    obtain⟨v',aa,hr⟩:=a1 j _ q pv he hp;have az:(cur.extract (j*z) (j*z+z))[q]? =some v:=by rw[<-Array.getElem?_toList];exact hv
    rw[Array.getElem?_extract,if_pos (by omega),aa]at az;cases az;exact cG.go ak pv _ hr
  |succ i=>
   rw[Yp,Zp]at hx;have aH:ae[i]? =some u:=by simpa using hu
   cases hc:cs[i]? with
   |none=>rw[hc]at hx;cases hx
   |some e=>rw[hc]at hx;cases hx;exact((af i e u hc aH).go ak).arg
 have hS:=hs.2 M W _ aE (fun k hk=>ZD (hM k hk) hW.size) ha;refine hS.mono fun e w'⟨v,aI,hb,J',_,aJ⟩=> ?_;have an:cG (Mu M J' []) w' (.bool (p es[j])) v:=aJ;have:v= .bool (p es[j]):=by simpa only[cG]using an
 subst this;exact⟨aI,hb⟩;intro e w' ⟨cur',he,aK,aL,hd,a7⟩;refine⟨cur',by rw[he,f1],aK,aL,hd.os,hd.tape,hd.output,hd.size,hd.block,?_⟩;intro i e j pv hi hj;obtain⟨u,hu,heu⟩:=f2 i e hi;have ak:QH M M w w':=⟨hd.size,fun _ _ h=>h,fun k hk hm=>hd.block k hk (fun e=>hm (e▸aw))⟩;have aM:j<z:=by have h1:=(Zb.1 hj).1;rw[ab e (Zn heu)]at h1;exact h1
 obtain⟨v,aa,hr⟩:=a1 u e j pv heu hj;exact⟨v,by rw[a7 i u hu j aM];exact aa,hr⟩
end Gi
namespace Gi
open Go Go.RowKit
mutual
def nar :PTy->Bool
 | .lst ts=>decide (ts.length<=64)&&TH ts
 |_=>true
def TH :List PTy->Bool
 |[]=>true
 |t::ts=>nar t&&TH ts
end
mutual
def acW (mT:Int->List UInt8):∀(p:PV)(t:PTy)(k:Int),mY t p->nar t=true->(oS mT p k).2<=k+1+64*(sz p:Int)
 | .int κ n,t,k,h,hn=>by simp only[oS,sz];omega
 | .bool b,t,k,h,hn=>by simp only[oS,sz];omega
 | .str s,t,k,h,hn=>by simp only[oS,sz];omega
 | .lst rows,t,k,h,hn=>by
  cases t with
  |lst ts=>simp only[nar,Zg,decide_eq_true_eq]at hn;have:=Ob mT rows ts k (dM h).2 hn.1 hn.2;rw[mP];simp only[oS];omega
  |int κ=>simp[mY]at h
  |bool=>simp[mY]at h
  |str=>simp[mY]at h
def UW (mT:Int->List UInt8):∀(ps:List PV)(ts:List PTy)(k:Int),dX ts ps->TH ts=true->(uA mT ps k).2<=k+ps.length+64*(gV ps:Int)
 |[],ts,k,h,hn=>by simp only[uA,gV,Zx];omega
 |p::ps,[],k,h,hn=>by simp[dX]at h
 |p::ps,t::ts,k,h,hn=>by
  simp only[TH,Zg]at hn;have h1:mY t p/\ dX ts ps:=by simpa only[dX]using h
  have a:=acW mT p t k h1.1 hn.1;have b:=UW mT ps ts (oS mT p k).2 h1.2 hn.2;simp only[uA,gV,Zo];omega
def Ob (mT:Int->List UInt8):∀(rows:List (List PV))(ts:List PTy)(k:Int),(∀r∈rows,dX ts r)->ts.length<=64->TH ts=true->(fA mT rows k).2<=k+64*((rows.length:Int)+(dR rows:Int))
 |[],ts,k,h,hl,hn=>by simp only[fA,dR,Zx];omega
 |r::rows,ts,k,h,hl,hn=>by have hr:=h r (by simp);have a:=UW mT r ts k hr hn;have b:=Ob mT rows ts (uA mT r k).2 (fun r m=>h r (by simp[m])) hl hn;have:=nT hr;simp only[fA,dR,Zo];omega
end
def AH (mT:Int->List UInt8):∀(ps:List PV)(ts:List PTy)(k:Int),dX ts ps->TH ts=true->(jn mT ps k).2<=k+64*(gV ps:Int)
 |[],ts,k,h,hn=>by simp only[jn,gV];omega
 |p::ps,[],k,h,hn=>by simp[dX]at h
 |p::ps,t::ts,k,h,hn=>by
  simp only[TH,Zg]at hn;have h1:mY t p/\ dX ts ps:=by simpa only[dX]using h
  cases p with
  |lst rows=>
   cases t with
   |lst us=>have ao:=hn.1;simp only[nar,Zg,decide_eq_true_eq]at ao;have a:=Ob mT rows us k (dM h1.1).2 ao.1 ao.2;have b:=AH mT ps ts (fA mT rows k).2 h1.2 hn.2;simp only[jn,gV,mP];omega
   |int κ=>simp[mY]at h1
   |bool=>simp[mY]at h1
   |str=>simp[mY]at h1
  |int κ n=>have b:=AH mT ps ts k h1.2 hn.2;simp only[jn,gV];omega
  |bool c=>have b:=AH mT ps ts k h1.2 hn.2;simp only[jn,gV];omega
  |str s=>have b:=AH mT ps ts k h1.2 hn.2;simp only[jn,gV];omega
def ac6 {ts:List PTy}{ps:List PV}(h:dX ts ps):(ly ts ps).map fv=ps.map .pv:=by refine jP (P:=fun ts ps=>(ly ts ps).map fv=ps.map .pv) rfl ?_ ?_ ts ps h;intro us rows ts ps _ _ ih;cases rows<;>simp only[ly,Cp,Zt,fv,ih];intro t p ts ps h1 ht hp _ ih;simp only[ly,Dx ht h1,Zt,fv,ih]
def WL {ts:List PTy}{ps:List PV}(h:dX ts ps)(hh:List Q0):wv hh (.agg (ly ts ps))=(.agg (na hh.length ts ps),hh++kT ts ps):=by
 have key:∀(ts:List PTy)(ps:List PV),dX ts ps->∀hh:List Q0,∃ds,thawL hh (ly ts ps)=(na hh.length ts ps,hh++ds)/\ ds.map Q0.zone=kT ts ps:=by
  refine jP ?_ ?_ ?_;intro hh;exact⟨[],by simp[ly,thawL,na],rfl⟩;intro us rows ts ps _ _ ih hh;cases rows with
  |nil=>obtain⟨ds,e1,e2⟩:=ih (hh++[.arr us.length []]);refine⟨.arr us.length []::ds,?_,by simp only[Zt,e2,Q0.zone,kT]⟩;simp only[ly,Cp,thawL,e1,na,Zv,ZJ,List.append_assoc,Zh,Zk]
  |cons r rows=>obtain⟨ds,e1,e2⟩:=ih (hh++[.bA us.length (r::rows)]);refine⟨.bA us.length (r::rows)::ds,?_,by simp only[Zt,e2,Q0.zone,kT]⟩;simp only[ly,Cp,thawL,e1,na,Zv,ZJ,List.append_assoc,Zh,Zk]
  intro t p ts ps h1 ht hp _ ih hh;obtain⟨ds,e1,e2⟩:=ih hh;refine⟨ds,?_,by rw[e2,lq ht]⟩;simp only[ly,Dx ht h1];rw[qx ht];simp only[thawL,e1]
 obtain⟨ds,e1,_⟩:=key ts ps h hh;obtain⟨aT,f1,f2⟩:=key ts ps h [];simp only[wv,thaw,e1,f1,Zk,f2]
end Gi
namespace Gi
open Go Go.RowKit
set_option maxHeartbeats 8000000
set_option maxRecDepth 8000
attribute [local simp] start iN cD cj cT dG dY fa Opd.ev put V.cells plain dP ja isInt isStr isBool bin ft un asList L.view cy V.view viewL dd cu fb eh comp cU dS cz V.flat L.flat fe fv dK putAt freezeVs freezeLs freezeL V.mut L.mut lent Q0.ba L.bL vB yy nV yI pd Bw PV.bare PV.flat nK gP thaw thawL Q0.zone ml Bp LL kJ wl mkC mkI mkN MS.ts lh kI kS jd kR
def ln (z:Nat):List (List PV)->L
 |[]=> .pv (.lst [])
 |r::rs=> .down z (r::rs)
def oz (z:Nat)(rows ah:List (List PV)):List (Bool×List L):=match rows with
 |[]=>[]
 |_::_=>[(false,[.down z ah])]
def ME (z:Nat)(c:List (List PV)):(c=[]/\ nd z c= .nil/\ ln z c= .pv (.lst [])/\ (∀r,oz z c r=[])/\ pm z c= .nil) \/(c≠[]/\ nd z c= .down z c/\ ln z c= .down z c/\ (∀r,oz z c r=[(false,[.down z r])])/\ pm z c= .own z c):=by
 cases c with
 |nil=>exact .inl ⟨rfl,rfl,rfl,fun _=>rfl,rfl⟩
 |cons r rs=>exact .inr ⟨by simp,rfl,rfl,fun _=>rfl,rfl⟩
def qs (c3 c4 c6 c7 c8 c9:List (List PV))(k:Int):List (List (List PV)×Int):=
 let q3:=fA cI c3 k
 let q4:=fA cI c4 q3.2
 let q6:=fA cI c6 q4.2
 let q7:=fA cI c7 q6.2
 let q8:=fA cI c8 q7.2
 let q9:=fA cI c9 q8.2
 [q3,q4,q6,q7,q8,q9]
def HI (k:Int):cf Ph cK (426+iT) [.agg [.pv (.lst [])],ce .i64 k]=some (.b8 [(false,[.pv (.int .i64 k)])]):=by have c:=(zL (ext:=cK)).1 k;refine zg (fn:=p9) rfl rfl rfl ?_;simp[p9,c]
def mkW {c0 c2 c5:Int}{on:Bool}{c3 c4 c6 c7 c8 c9:List (List PV)}(h:dX jh [.int .i64 c0, .bool on, .int .i64 c2, .lst c3, .lst c4, .int .i64 c5, .lst c6, .lst c7, .lst c8, .lst c9]){k:Int}(k0:0<=k)(hk:(fA cI c9 (fA cI c8 (fA cI c7 (fA cI c6 (fA cI c4 (fA cI c3 k).2).2).2).2).2).2<=Bz):
 cf Ph cK (420+iT) [.agg [.pv (.int .i64 c0), .pv (.bool on), .pv (.int .i64 c2),ln 24 c3, .down 11 c4, .pv (.int .i64 c5), .down 4 c6, .down 3 c7,ln 4 c8,ln 5 c9],ce .i64 k]=some (.b8 ((false,[.pv (.int .i64 (fA cI c9 (fA cI c8 (fA cI c7 (fA cI c6 (fA cI c4 (fA cI c3 k).2).2).2).2).2).2)])::(oz 24 c3 (fA cI c3 k).1++((false,[.down 11 (fA cI c4 (fA cI c3 k).2).1])::(false,[.down 4 (fA cI c6 (fA cI c4 (fA cI c3 k).2).2).1])::(false,[.down 3 (fA cI c7 (fA cI c6 (fA cI c4 (fA cI c3 k).2).2).2).1])::(oz 4 c8 (fA cI c8 (fA cI c7 (fA cI c6 (fA cI c4 (fA cI c3 k).2).2).2).2).1++oz 5 c9 (fA cI c9 (fA cI c8 (fA cI c7 (fA cI c6 (fA cI c4 (fA cI c3 k).2).2).2).2).2).1))))):=by
 simp only[jh,dX]at h;obtain⟨_,_,_,g3,g4,_,g6,g7,g8,g9,_⟩:=h;have l3:=ud (mT:=cI) c3 k;have l4:=ud (mT:=cI) c4 (fA cI c3 k).2;have l6:=ud (mT:=cI) c6 (fA cI c4 (fA cI c3 k).2).2;have l7:=ud (mT:=cI) c7 (fA cI c6 (fA cI c4 (fA cI c3 k).2).2).2;have l8:=ud (mT:=cI) c8 (fA cI c7 (fA cI c6 (fA cI c4 (fA cI c3 k).2).2).2).2;have l9:=ud (mT:=cI) c9 (fA cI c8 (fA cI c7 (fA cI c6 (fA cI c4 (fA cI c3 k).2).2).2).2).2;have s3:cf Ph cK (426+iT) [.agg [ln 24 c3],ce .i64 k]=some (.b8 ((false,[.pv (.int .i64 (fA cI c3 k).2)])::oz 24 c3 (fA cI c3 k).1)):=by
  cases c3 with
  |nil=>exact HI k
  |cons r rs=>exact zN (ext:=cK) [.lst (r::rs)] ⟨g3,trivial⟩ k k0 (by show(fA cI (r::rs) k).2<=Bz;omega)
 have s4:cf Ph cK (427+iT) [.one (.down 11 c4),ce .i64 (fA cI c3 k).2]=some (.b8 [(false,[.pv (.int .i64 (fA cI c4 (fA cI c3 k).2).2)]),(false,[.down 11 (fA cI c4 (fA cI c3 k).2).1])]):=(DT (ext:=cK)).2 c4 g4 _ (by omega) (by omega);have s6:cf Ph cK (428+iT) [.agg [.down 4 c6],ce .i64 (fA cI c4 (fA cI c3 k).2).2]=some (.b8 [(false,[.pv (.int .i64 (fA cI c6 (fA cI c4 (fA cI c3 k).2).2).2)]),(false,[.down 4 (fA cI c6 (fA cI c4 (fA cI c3 k).2).2).1])]):=xB (ext:=cK) [.lst c6] ⟨g6,trivial⟩ _ (by omega) (by show(fA cI c6 _).2<=Bz;omega);have s7:cf Ph cK (429+iT) [.agg [.down 3 c7],ce .i64 (fA cI c6 (fA cI c4 (fA cI c3 k).2).2).2]=some (.b8 [(false,[.pv (.int .i64 (fA cI c7 (fA cI c6 (fA cI c4 (fA cI c3 k).2).2).2).2)]),(false,[.down 3 (fA cI c7 (fA cI c6 (fA cI c4 (fA cI c3 k).2).2).2).1])]):=zM (ext:=cK) [.lst c7] ⟨g7,trivial⟩ _ (by omega) (by show(fA cI c7 _).2<=Bz;omega);have s8:cf Ph cK (430+iT) [.one (ln 4 c8),ce .i64 (fA cI c7 (fA cI c6 (fA cI c4 (fA cI c3 k).2).2).2).2]=some (.b8 ((false,[.pv (.int .i64 (fA cI c8 (fA cI c7 (fA cI c6 (fA cI c4 (fA cI c3 k).2).2).2).2).2)])::oz 4 c8 (fA cI c8 (fA cI c7 (fA cI c6 (fA cI c4 (fA cI c3 k).2).2).2).2).1)):=by
  cases c8 with
  |nil=>exact(yr (ext:=cK)).1 _
  |cons r rs=>exact(yr (ext:=cK)).2 (r::rs) g8 _ (by omega) (by omega)
 have s9:cf Ph cK (431+iT) [.one (ln 5 c9),ce .i64 (fA cI c8 (fA cI c7 (fA cI c6 (fA cI c4 (fA cI c3 k).2).2).2).2).2]=some (.b8 ((false,[.pv (.int .i64 (fA cI c9 (fA cI c8 (fA cI c7 (fA cI c6 (fA cI c4 (fA cI c3 k).2).2).2).2).2).2)])::oz 5 c9 (fA cI c9 (fA cI c8 (fA cI c7 (fA cI c6 (fA cI c4 (fA cI c3 k).2).2).2).2).2).1)):=by
  cases c9 with
  |nil=>exact(vC (ext:=cK)).1 _
  |cons r rs=>exact(vC (ext:=cK)).2 (r::rs) g9 _ (by omega) (by omega)
 clear hk k0 g3 g4 g6 g7 g8 g9 l3 l4 l6 l7 l8 l9;generalize fA cI c3 k=q3 at s3 s4 s6 s7 s8 s9⊢;generalize fA cI c4 q3.2=q4 at s4 s6 s7 s8 s9⊢;generalize fA cI c6 q4.2=q6 at s6 s7 s8 s9⊢;generalize fA cI c7 q6.2=q7 at s7 s8 s9⊢;generalize fA cI c8 q7.2=q8 at s8 s9⊢;generalize fA cI c9 q8.2=q9 at s9⊢;rcases ME 24 c3 with⟨_,_,u3,v3,_⟩|⟨_,_,u3,v3,_⟩<;>rcases ME 4 c8 with⟨_,_,u8,v8,_⟩|⟨_,_,u8,v8,_⟩<;>rcases ME 5 c9 with⟨_,_,u9,v9,_⟩|⟨_,_,u9,v9,_⟩<;>simp only[u3,v3,u8,v8,u9,v9]at s3 s8 s9⊢ <;>(refine zg (fn:=sN) rfl rfl rfl ?_;simp[sN,s3,s4,s6,s7,s8,s9])
def WR (c0:Int)(c1:Bool)(c2:Int)(c3 c4:List (List PV))(c5:Int)(c6 c7 c8 c9:List (List PV)):List PV:=[.int .i64 c0, .bool c1, .int .i64 c2, .lst c3, .lst c4, .int .i64 c5, .lst c6, .lst c7, .lst c8, .lst c9]
def WP (c0:Int)(c1:Bool)(c2:Int)(c3 c4:List (List PV))(c5:Int)(c6 c7 c8 c9:List (List PV)):List L:=[.pv (.int .i64 c0), .pv (.bool c1), .pv (.int .i64 c2), .pv (.lst c3), .pv (.lst c4), .pv (.int .i64 c5), .pv (.lst c6), .pv (.lst c7), .pv (.lst c8), .pv (.lst c9)]
def acX (k:Int):fA cI [] k=([],k):=rfl
end Gi
namespace Gi
open Go Go.RowKit
set_option maxHeartbeats 4000000
set_option maxRecDepth 4000
attribute [local simp] start qt dY fa fh gj fg gi gr gq rB rY rE rZ rH r8 rI r9 rJ sa rS sd rU se rV sf rW sh V.cells plain dP ja isInt isStr isBool bin eu i7 ew i9 gl un asList L.view cy V.view viewL dd cu eC dN eh comp cU dS eV dW dD dA dC cF ct df co cE cO cA dx du cH dE dF V.flat L.flat fe fv dK putAt thaw thawL thawT V.ow gn fj fk ez gm eA fi freezeVs freezeLs freezeL V.mut L.mut cN fx iI dj dQ cZ fI ed dH eB L.bD cQ fy ej fE ep eH wp_seq wp_block dh fo eD dO eE wp_skip wp_exit wp_ret eG eM eP eN eT eU eS dV cM L.bB cX cV cW fm dI storeD dg gZ cq eK cJ nP L.bG L.closed V.closed PV.bare PV.flat
def rg (n a b:Int):Bool:= !(dZ n a)&& !(dZ b n)
def dU (n a b:Int):cf Ph cK 61 [ce .i64 n,ce .i64 a,ce .i64 b]=some (cL (rg n a b)):=by refine ca rfl ?_;simp +contextual (maxSteps:=9^9) [uK,rg]
def eQ (n a b:Int):cf Ph cK 58 [ce .i64 n,ce .i64 a,ce .i64 b]=some (cL (rg n a b)):=by refine ca rfl ?_;simp +contextual (maxSteps:=9^9) [zw,rg]
def sgn (a b:Int):Int:=if dZ a b then-1 else if dZ b a then 1 else 0
def A6 (a b:Int):cf Ph cK 362 [ce .i64 a,ce .i64 b]=some (ce .i64 (sgn a b)):=by refine ca rfl ?_;simp +contextual (maxSteps:=9^9) [pZ,sgn]
def Kt (a b:Bool):cf Ph cK 359 [cL a,cL b]=some (ce .i64 (if a=true then-1 else if b=true then 1 else 0)):=by refine ca rfl ?_;simp +contextual (maxSteps:=9^9) [wJ]
def S6 (sl:Bool)(s:List UInt8)(k:Nat):Bool:=match s[k]? with
 |some b=>(dZ b.toNat 97||dZ 122 b.toNat)&& !(sl&&(b.toNat:Int)==47)
 |none=>false
def vz (s:List UInt8)(m:Int)(sl:Bool):Bool:= !(jU s.length (S6 sl s))&&rg s.length 1 m
abbrev fV (s:List UInt8):Bool:=vz s 8 false
def zH {s:List UInt8}(h:s.length<=maxLen)(m:Int)(sl:Bool):cf Ph cK 213 [fZ s,ce .i64 m,cL sl]=some (cL (vz s m sl)):=by refine ca rfl ?_;simp +contextual (maxSteps:=9^9) [wC];refine cP dz Cl.fin [.t,.t,.t,.f,.f,.f,.f,.t,.f,.f,.f,.f,.f,.f,.f,.f,.f,.f,.f,.f,.f,.f,.f,.f,.f,.f,.f,.f,.f,.f,.f,.f,.f,.f,.f,.f,.f,.f] (fun k=>[(7,ce .i64 k)]) s.length (S6 sl s) rfl (by simp) (fun k hk _=> ?_) (fun _ hp=> ?_);simp +contextual (maxSteps:=9^9) [pE,S6,vz,hk,cY h hk,dw hk];simp +contextual (maxSteps:=9^9) [pE,vz,hp,dU]
def eO {s:List UInt8}(h:s.length<=maxLen):cf Ph cK 178 [fZ s]=some (cL (fV s)):=by refine ca rfl ?_;simp[wz,zH h]
def fS {s:List UInt8}(h:s.length<=maxLen):cf Ph cK 177 [fZ s]=some (cL (fV s)):=by refine ca rfl ?_;simp +contextual (maxSteps:=9^9) [wD];refine cP dz Cl.fin [.t,.f,.f,.t,.f,.f,.f,.f,.f,.f,.f,.f,.f,.f,.f,.f,.f,.f,.f,.f,.f,.f,.f] (fun k=>[(3,ce .i64 k)]) s.length (S6 false s) rfl (by simp) (fun k hk _=> ?_) (fun _ hp=> ?_);simp +contextual (maxSteps:=9^9) [pF,S6,fV,vz,hk,cY h hk,dw hk];simp +contextual (maxSteps:=9^9) [pF,fV,vz,hp,eQ]
def aaM (s:List UInt8)(k:Nat):Bool:=match s[k]? with
 |some b=>(dZ b.toNat 97||dZ 122 b.toNat)&&(dZ b.toNat 48||dZ 57 b.toNat)
 |none=>false
def zI (s:List UInt8):Bool:= !(jU s.length (aaM s))&& !(dZ 12 s.length)
def DN {s:List UInt8}(h:s.length<=maxLen):cf Ph cK 90 [fZ s]=some (cL (zI s)):=by refine ca rfl ?_;simp +contextual (maxSteps:=9^9) [sM];refine cP dz Cl.fin [.t,.f,.f,.t,.f,.f,.f,.f,.f,.f,.f,.f,.f,.f,.f,.f,.f,.f,.f,.f,.f,.f,.f,.f,.f,.f,.f,.f,.f,.f,.f,.f,.f,.f,.f,.f] (fun k=>[(3,ce .i64 k)]) s.length (aaM s) rfl (by simp) (fun k hk _=> ?_) (fun _ hp=> ?_);simp +contextual (maxSteps:=9^9) [mE,aaM,zI,hk,cY h hk,dw hk];simp +contextual (maxSteps:=9^9) [mE,zI,hp]
def Ku {s:List UInt8}(h:s.length<=maxLen):cf Ph cK 88 [fZ s]=some (cL (zI s)):=by refine ca rfl ?_;simp +contextual (maxSteps:=9^9) [wK];refine cP dz Cl.fin [.t,.f,.f,.t,.f,.f,.f,.f,.f,.f,.f,.f,.f,.f,.f,.f,.f,.f,.f,.f,.f,.f,.f,.f,.f,.f,.f,.f,.f,.f,.f,.f,.f,.f,.f] (fun k=>[(3,ce .i64 k)]) s.length (aaM s) rfl (by simp) (fun k hk _=> ?_) (fun _ hp=> ?_);simp +contextual (maxSteps:=9^9) [pI,aaM,zI,hk,cY h hk,dw hk];simp +contextual (maxSteps:=9^9) [pI,zI,hp]
def nI (a:Y7):Bool:=rg a.aW 1 3&&rg a.n (-1000000000000) 1000000000000&&(!(a.aW==2)||a.n==0)&&zI a.ad&&(!(a.aW==1)||a.ad==[])
def pk {a:Y7}(h:a.Ok maxLen):cf Ph cK 67 [a.v]=some (cL (nI a)):=by refine ca rfl ?_;simp +contextual (maxSteps:=9^9) [x5,dU,DN h.2.2,nI]<;>grind
def px {a:Y7}(h:a.Ok maxLen):cf Ph cK 65 [a.v]=some (cL (nI a)):=by refine ca rfl ?_;simp +contextual (maxSteps:=9^9) [ya,eQ,Ku h.2.2,nI]<;>grind
def L0 (a b:List UInt8):cf Ph cK 363 [fZ a,fZ b]=some (ce .i64 (Lib.compareBytes a b)):=VQ rfl rfl
def kZ :∀(a b:List UInt8),Lib.compareBytes a b=if Op.bytesLess a b=true then-1 else if Op.bytesLess b a=true then 1 else 0
 |[],[]=>rfl
 |[],_::_=>rfl
 |_::_,[]=>rfl
 |a::xz,b::bs=>by
  have ih:=kZ xz bs;simp only[Lib.compareBytes,Op.bytesLess,ih];by_cases h1:a<b;simp[h1];by_cases h2:b<a;have h3:¬a=b:=fun h=>by subst h;exact absurd h2 (UInt8.lt_irrefl _)
  simp[h1,h2,h3];obtain rfl:a=b:=UInt8.le_antisymm (UInt8.not_lt.1 h2) (UInt8.not_lt.1 h1);simp[UInt8.lt_irrefl]
def xj (a b:Y7):Int:=if nI a=false \/nI b=false then 0 else if a.aW≠b.aW then sgn a.aW b.aW else if a.n≠b.n then sgn a.n b.n else Lib.compareBytes a.ad b.ad
def lJ {a b:Y7}(ha:a.Ok maxLen)(hb:b.Ok maxLen):cf Ph cK 355 [a.v,b.v]=some (ce .i64 (xj a b)):=by refine ca rfl ?_;simp +contextual (maxSteps:=9^9) [pT,pk,A6,L0,ha,hb,xj];grind [sgn,dZ]
def lK {a b:Y7}(ha:a.Ok maxLen)(hb:b.Ok maxLen):cf Ph cK 351 [a.v,b.v]=some (ce .i64 (xj a b)):=by refine ca rfl ?_;simp +contextual (maxSteps:=9^9) [qb,px,Kt,ha,hb,xj,kZ];grind [sgn,dZ]
def PD (fs:List Q9)(k:Nat):Bool:=match fs[k]?,fs[k-1]? with
 |some x,some y=> !(fV x.aG)||(!(rg x.n 0 1000000000)||(dZ 0 k&& !(Op.bytesLess y.aG x.aG)))
 |_,_=>false
def gL (fs:List Q9):Bool:= !(jU fs.length (PD fs))&& !(dZ 6 fs.length)
def oK {r:X7}(h:r.Ok maxLen):cf Ph cK 246 [r.v]=some (cL (gL r.fs)):=by refine ca rfl ?_;simp +contextual (maxSteps:=9^9) [tP];refine cP dz Cl.fin [.f,.t,.f,.f,.f,.f,.t,.t,.t,.f,.f,.f,.f,.f,.f,.f,.f,.f,.f,.f,.f,.f,.f,.f,.f,.f,.f,.f,.f,.f,.f,.f,.f,.f,.f,.f,.f,.f,.f,.f,.f,.f,.f,.f] (fun k=>[(8,ce .i64 k)]) r.fs.length (PD r.fs) rfl (by simp) (fun k hk _=> ?_) (fun _ hp=> ?_);obtain⟨q1,q2⟩:=Bc h.1 hk;simp +contextual (maxSteps:=9^9) [ny,PD,gL,hk,q1,q2,cY h.1 hk,dw hk,Q9.e.eq_1 r.fs[k],Q9.e.eq_1 r.fs[k-1],eO (h.2 _ (Zf hk)).1,dU];simp +contextual (maxSteps:=9^9) [ny,gL,hp]
def mi {r:X7}(h:r.Ok maxLen):cf Ph cK 243 [r.v]=some (cL (gL r.fs)):=by refine ca rfl ?_;simp +contextual (maxSteps:=9^9) [t6];refine cP dz Cl.fin [.f,.t,.f,.t,.f,.f,.f,.f,.f,.f,.f,.f,.f,.f,.f,.f,.f,.f,.f,.f,.f,.f,.f,.f,.f,.f,.f,.f,.f,.f,.f,.f,.f,.f,.f,.f,.f,.f,.f,.f,.f,.f,.f,.f,.f,.f,.f,.f,.f,.f,.f,.f,.f] (fun k=>[(3,ce .i64 k)]) r.fs.length (PD r.fs) rfl (by simp) (fun k hk _=> ?_) (fun _ hp=> ?_);obtain⟨q1,q2⟩:=Bc h.1 hk;simp +contextual (maxSteps:=9^9) [nE,PD,gL,hk,q1,q2,cY h.1 hk,dw hk,Q9.e.eq_1 r.fs[k],Q9.e.eq_1 r.fs[k-1],fS (h.2 _ (Zf hk)).1,eQ];simp +contextual (maxSteps:=9^9) [nE,gL,hp]
def fP {α:Type}(p:α->Bool)(xs:List α):Int:=match xs.findIdx? p with
 |some i=>(i:Int)
 |none=> -1
def kK {α:Type}(p:α->Bool)(xs:List α)(k:Nat):Bool:=match xs[k]? with
 |some x=>p x
 |none=>false
def wV {α:Type}{p:α->Bool}{xs:List α}{k:Nat}(hk:k<xs.length)(hj:∀j,j<k->kK p xs j=false)(h:p xs[k]=true):fP p xs=(k:Int):=by
 have:xs.findIdx? p=some k:=by
  rw[ZS];refine⟨hk,h,fun j aN=> ?_⟩;have h1:j<xs.length:=by omega
  have:=hj j aN;simpa[kK,h1]using this
 simp[fP,this]
def wU {α:Type}{p:α->Bool}{xs:List α}(hj:∀j,j<xs.length->kK p xs j=false):fP p xs= -1:=by
 have:xs.findIdx? p=none:=by rw[YC];intro x hx;obtain⟨j,h1,rfl⟩:=Yb.1 hx;simpa[kK,h1]using hj j h1
 simp[fP,this]
def AB {α:Type}(p:α->Bool)(xs:List α):fP p xs= -1 \/∃j,∃hj:j<xs.length,fP p xs=(j:Int)/\ p xs[j]=true:=by
 unfold fP;cases h:xs.findIdx? p with
 |none=>exact .inl rfl
 |some i=>rw[ZS]at h;obtain⟨h1,h2,_⟩:=h;exact .inr ⟨i,h1,rfl,h2⟩
def ixB (z:Nat):Q7:=(.seq (.region [⟨(some 9),(.bin .lss (.tmp 8) (.tmp 7)),none⟩]) (.seq (.cond (.tmp 9) .skip (.exit 0)) (.seq (.block 1 (.seq (.region [⟨(some 10),(.mv (.tmp 8)),none⟩,⟨(some 5),(.mv (.tmp 10)),none⟩]) (.seq (.region [⟨(some 11),(.mv (.tmp 1)),none⟩,⟨(some 12),(.mv (.tmp 0)),none⟩,⟨(some 13),(.mv (.tmp 5)),none⟩,⟨(some 14),(.bH z (.tmp 12) (.tmp 13)),none⟩,⟨(some 15),(.load true z (.tmp 14)),none⟩,⟨(some 16),(.bp (.tmp 11) [(.tmp 15)]),none⟩]) (.cond (.tmp 16) (.seq (.region [⟨(some 17),(.mv (.tmp 5)),none⟩,⟨(some 4),(.mv (.tmp 17)),none⟩]) .ret) .skip)))) (.region [⟨(some 18),(.bin .add (.tmp 8) (.pv (.int .i64 1))),none⟩,⟨(some 8),(.mv (.tmp 18)),none⟩]))))
def ixF (z:Nat):AFn:=⟨19,[(.tmp 4)],(.seq (.region [⟨(some 4),(.mv (.pv (.int .i64 0))),none⟩]) (.seq (.seq (.region [⟨(some 6),(.mv (.tmp 0)),none⟩,⟨(some 7),(.len (.tmp 6)),none⟩,⟨(some 8),(.mv (.pv (.int .i64 0))),none⟩]) (.block 0 (.loop (ixB z)))) (.seq (.region [⟨(some 4),(.mv (.pv (.int .i64 (-1)))),none⟩]) .ret)))⟩
def Cm {α:Type}{e:α->List PV}{p:α->Bool}{xs:List α}{k z kc:Nat}{caps:List (List PV)}(hk:Ph k=some (ixF z))(hl:xs.length<=maxLen)(hz:∀x,(e x).length=z)(hp:∀x∈xs,cf Ph cK kc (.agg ((e x).map .pv)::caps.map xg)=some (cL (p x))):cf Ph cK k [eW (xs.map e), .one (.fn kc caps)]=some (ce .i64 (fP p xs)):=by refine ca hk ?_;simp +contextual (maxSteps:=9^9) [ixF];refine cP dz Cl.fin [.t,.t,.f,.f,.f,.f,.f,.t,.t,.f,.f,.f,.f,.f,.f,.f,.f,.f,.f] (fun k=>[(8,ce .i64 k)]) xs.length (kK p xs) rfl (by simp) (fun k hk hj=> ?_) (fun hj _=> ?_);have hc:=hp _ (Zf hk);have ht:List.take z ((e xs[k]).map L.pv)=(e xs[k]).map L.pv:=Zs (by simp[hz]);have hf:=wV hk hj;simp +contextual (maxSteps:=9^9) [ixB,kK,hk,hz,ht,hc,hf,cY hl hk,dw hk,vS];simp +contextual (maxSteps:=9^9) [ixB,wU hj]
def yX (s t:List UInt8)(x:Q1):Bool:=x.aP==s&&x.av==t
def kA {bs:List Q1}(h:bs.length<=maxLen)(s t:List UInt8):cf Ph cK 175 [.agg [.pv (.lst (bs.map Q1.e))],fZ s,fZ t]=some (ce .i64 (fP (yX s t) bs)):=by
 have e1:=Cm (e:=Q1.e) (p:=yX s t) (xs:=bs) (k:=209) (z:=24) (kc:=210) (caps:=[[.str s],[.str t]]) rfl h (fun _=>rfl) (fun x _=>by
  refine ca rfl ?_
  simp +contextual (maxSteps:=9^9) [oV,Q1.e.eq_1,xg,yX])
 refine ca rfl ?_;simp +contextual (maxSteps:=9^9) [qB,nW,uj,e1]
def jv {bs:List Q1}(h:bs.length<=maxLen)(s t:List UInt8):cf Ph cK 145 [.agg [.pv (.lst (bs.map Q1.e))],fZ s,fZ t]=some (ce .i64 (fP (yX s t) bs)):=by refine ca rfl ?_;simp +contextual (maxSteps:=9^9) [qP];refine cP dz Cl.fin [.f,.t,.t,.t,.f,.f,.f,.t,.f,.f,.f,.f,.f,.f,.f,.f,.f,.f,.f,.f,.f,.f,.f,.f,.f,.f,.f,.f,.f,.f,.f,.f,.f,.f] (fun k=>[(7,ce .i64 k)]) bs.length (kK (yX s t) bs) rfl (by simp) (fun k hk hj=> ?_) (fun hj _=> ?_);have hf:=wV hk hj;simp +contextual (maxSteps:=9^9) [lB,kK,yX,hk,hf,cY h hk,dw hk,Q1.e.eq_1 bs[k]];simp +contextual (maxSteps:=9^9) [lB,wU hj]
end Gi
