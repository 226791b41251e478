/- Of this proof. -/
import Derived.Test.YtpnolnkjijmfjaaGreatGsm
set_option linter.all false
namespace Gi
open Go
def SU :L->Bool
 | .pv _=>true
 | .nil=>true
 |_=>false
def AOp.bn :AOp->Bool
 | .alloc z=>z.all SU
 | .build z _=>z.all SU
 | .bY _ _ _=>false
 | .bg _ _=>false
 | .bh _ _ _=>false
 | .c3 _=>false
 | .bN _ _ _=>false
 | .bq _ _ _=>false
 | .bf _ _=>false
 | .bd z=>z.all SU
 | .bK _ _=>false
 | .c5 _ _=>false
 | .bt _ _=>false
 | .storeAt _ _ _ _=>false
 |_=>true
def Q7.bn :Q7->Bool
 | .region ops=>ops.all fun o=>o.op.bn
 | .seq a b=>a.bn&&b.bn
 | .cond _ a b=>a.bn&&b.bn
 | .block _ c=>c.bn
 | .loop c=>c.bn
 |_=>true
def vU (call:Nat->List V->Option V):Prop:=∀k xz r,call k xz=some r->r.clean=true
section
variable {f:List Nat}{h h':List Q0}{Z X:St}{call:Nat->List V->Option V}
def Ih :∀{ls:List L},ls.all SU=true->cZ f ls ls
 |[],_=>trivial
 |l::ls,hc=>by
  simp only[Zq,Zg]at hc;refine⟨.inr ?_,Ih hc.2⟩;cases l with
  |pv p=>rfl
  |nil=>rfl
  |_=>exact absurd hc.1 (by simp[SU])
def WM {l l':L}(e:l.bD f=some l'):plain l'=plain l:=by
 cases l with
 |ptr o i j=>obtain⟨o',_,rfl⟩:=j8 e;rfl
 |arr o=>obtain⟨o',_,rfl⟩:=jB e;rfl
 |sub o c=>obtain⟨o',_,rfl⟩:=ur e;rfl
 |cB o l q=>cases e
 |_=>simp only[L.bD]at e;cases e;rfl
def cZ.plain :∀{ls ls':List L},cZ f ls ls'->ls.all Gi.plain=true->ls'.all Gi.plain=true
 |[],[],_,_=>rfl
 |l::ls,l'::ls',r,e=>by simp only[Zq,Zg]at e⊢;refine⟨?_,cZ.plain r.2 e.2⟩;rcases r.1 with q|q;subst q;exact absurd e.1 (by simp[Gi.plain]);rw[WM q];exact e.1
 |[],_::_,e,_=>e.elim
 |_::_,[],e,_=>e.elim
def dQ.plain {v v':V}(r:dQ f v v')(e:v.cells.all Gi.plain=true):cZ f v.cells v'.cells/\ v'.cells.all Gi.plain=true:=by
 cases v with
 |one l=>rcases r with q|⟨l',rfl,r⟩;subst q;exact absurd e (by simp[V.cells,Gi.plain]);have:cZ f [l] [l']:=⟨.inr r,trivial⟩;exact⟨this,this.plain e⟩
 |agg ls=>obtain⟨ls',rfl,r⟩:=r;exact⟨r,r.plain e⟩
 |b8 xs=>exact absurd e (by simp[V.cells,Gi.plain])
def dQ.viewL (k:Y3 f h h'){v v':V}{ps:List PV}(r:dQ f v v')(e:Gi.viewL h v.cells=some ps):iJ f v.cells v'.cells/\ Gi.viewL h' v'.cells=some ps:=by
 cases v with
 |one l=>rcases r with rfl|⟨l',rfl,r1⟩;cases e;obtain⟨a1,a2,_⟩:=(show cZ f [l] [l']from⟨.inr r1,trivial⟩).view k e;exact⟨a1,a2⟩
 |agg ls=>obtain⟨ls',rfl,r1⟩:=r;obtain⟨a1,a2,_⟩:=r1.view k e;exact⟨a1,a2⟩
 |b8 xs=>cases e
def iJ.length {ls ls':List L}(r:iJ f ls ls'):ls.length=ls'.length:=r.rel.length
def iJ.bB (k:Y3 f h h'){o o':Nat}(ho:f[o]? =some o'):∀{ls ls':List L},iJ f ls ls'->ls.all (L.bB o)=true->ls'.all (L.bB o')=true
 |[],[],_,_=>rfl
 |l::ls,l'::ls',r,e=>by
  simp only[Zq,Zg]at e⊢;refine⟨?_,iJ.bB k ho r.2 e.2⟩;have r1:=r.1;cases l with
  |arr p=>obtain⟨p',h1,rfl⟩:=jB r1;have e1:=e.1;simp only[L.bB,Zz,beq_eq_false_iff_ne]at e1⊢;intro q;subst q;exact e1 (k.inj h1 ho)
  |ptr p i j=>obtain⟨p',h1,rfl⟩:=j8 r1;rfl
  |sub p c=>obtain⟨p',h1,rfl⟩:=ur r1;rfl
  |cB p l q=>cases r1
  |_=>simp only[L.bD]at r1;cases r1;rfl
 |[],_::_,e,_=>e.elim
 |_::_,[],e,_=>e.elim
def Ap (s:Cln f Z X){d n:Int}{o:Option Opd}(e:eH Z d o=some n):eH X d o=some n:=by
 cases o with
 |none=>exact e
 |some x=>simp only[eH]at e⊢;split at e;rename_i k m h1;cases e;rw[(s.ev x).isInt h1];cases e
def Mv (s:Cln f Z X):∀{ps:List (Nat×Nat×Opd)}{cs cs' ds:List L},cZ f cs cs'->fy cs (ps.map fun x=>(x.1,x.2.1,x.2.2.ev Z))=some ds->∃ak,fy cs' (ps.map fun x=>(x.1,x.2.1,x.2.2.ev X))=some ak/\ cZ f ds ak
 |[],cs,cs',ds,r,e=>by simp only[Zy,fy]at e⊢;cases e;exact⟨_,rfl,r⟩
 |(off,n,x)::ps,cs,cs',ds,r,e=>by simp only[Zt,fy]at e⊢;split at e;rename_i h1;obtain⟨a1,a2⟩:=(s.ev x).plain h1.2.2;rw[if_pos ⟨a1.length▸h1.1,by rw[<-r.length];exact h1.2.1,a2⟩];exact Mv s (r.putAt off a1) e;cases e
def BM :∀{ls ls':List L}{e:List PV},cZ f ls ls'->ej ls=some e->ej ls'=some e
 |[],[],e,_,h=>h
 |l::ls,l'::ls',e,r,h=>by
  cases l with
  |pv p=>simp only[ej]at h;split at h;rename_i ps h1;have r1:=r.1;rcases r1 with q|q;cases q;simp only[L.bD]at q;cases q;simp only[ej,BM r.2 h1];exact h;cases h
  |_=>cases h
 |[],_::_,_,r,_=>r.elim
 |_::_,[],_,r,_=>r.elim
def MJ (s:Cln f Z X):∀(ps:List Opd){es:List (List PV)},fE (ps.map (Opd.ev Z))=some es->fE (ps.map (Opd.ev X))=some es
 |[],es,h=>h
 |x::ps,es,h=>by
  simp only[Zt,fE]at h⊢;split at h;rename_i e es' h1 h2;cases h;have r:=s.ev x;have hx:ej (x.ev X).cells=some e:=by
   cases hv:x.ev Z with
   |one l=>rw[hv]at h1 r;rcases r with q|⟨l',h3,r⟩;subst q;cases h1;rw[h3];exact BM (show cZ f [l] [l']from⟨.inr r,trivial⟩) h1
   |agg ls=>rw[hv]at h1 r;obtain⟨ls',h3,r⟩:=r;rw[h3];exact BM r h1
   |b8 xs=>rw[hv]at h1;cases h1
  rw[hx,MJ s ps h2];cases h
def MD (s:Cln f Z X){a:Opd}(hq:ep Z.h (a.ev Z)=true):ep X.h (a.ev X)=true:=by
 have r:=s.ev a;unfold ep at hq;split at hq;rename_i o i j h1;rw[h1]at r;rcases r with q|⟨l',h2,r⟩;cases q;obtain⟨o',h3,rfl⟩:=j8 r;rw[h2];obtain⟨ob,ob',h4,h5,h6⟩:=s.heap.get h3;rw[h4]at hq;simp only[ep,h5];cases ob with
 |box cs=>obtain⟨cs',rfl,_⟩:=h6;rfl
 |bM ps=>rw[dk h6 (by simp) (by simp)]
 |_=>cases hq
 rename_i e' j' h1;rw[h1]at r;rcases r with q|⟨l',h2,r⟩;cases q;simp only[L.bD]at r;cases r;rw[h2];rfl;cases hq
def Ip (s:Cln f Z X){a b:Opd}(hq:oU (a.ev Z) (b.ev Z)=true):oU (a.ev X) (b.ev X)=true:=by
 have ra:=s.ev a;have rb:=s.ev b;unfold oU at hq;split at hq;rename_i o i j o2 i2 j2 h1 h2;rw[h1]at ra;rw[h2]at rb;rcases ra with q|⟨l',h3,ra⟩;cases q;obtain⟨o',h4,rfl⟩:=j8 ra;rcases rb with q|⟨l',h5,rb⟩;cases q;obtain⟨ae,h6,rfl⟩:=j8 rb;rw[h3,h5];simp only[oU,Zz,beq_eq_false_iff_ne]at hq⊢;exact fun e=>by subst e;exact hq (s.heap.inj h4 h6)
 rename_i e j o2 i2 j2 h1 h2;rw[h1]at ra;rw[h2]at rb;rcases ra with q|⟨l',h3,ra⟩;cases q;simp only[L.bD]at ra;cases ra;rcases rb with q|⟨l',h5,rb⟩;cases q;obtain⟨ae,h6,rfl⟩:=j8 rb;rw[h3,h5];rfl;cases hq
def wc (s:Cln f Z X){g:Bool}{n:Nat}{a:Opd}{v:V}(e:dP Z.h g n (a.ev Z)=some v):∃v',dY call X (.load g n a)=some v'/\ dQ f v v':=by
 simp only[dY];unfold dP at e⊢;have r:=s.ev a;split at e;rename_i o i j h1;rw[h1]at r;rcases r with q|⟨l',h2,r⟩;cases q;obtain⟨o',h3,rfl⟩:=j8 r;rw[h2];obtain⟨ob,ob',h4,h5,h6⟩:=s.heap.get h3;simp only[h4]at e;simp only[h5];cases ob with
 |box cs=>obtain⟨cs',rfl,h6⟩:=h6;simp only at e⊢;split at e;rename_i hi;rw[if_pos hi];exact Aq h6 e;cases e
 |arr z es=>rw[dk h6 (by simp) (by simp)];simp only at e⊢;split at e;rename_i e0 he;exact Aq (xG e0) e;cases e
 |bI z es=>rw[dk h6 (by simp) (by simp)];simp only at e⊢;split at e;rename_i e0 he;exact Aq (xG e0) e;cases e
 |bA z es=>rw[dk h6 (by simp) (by simp)];simp only at e⊢;split at e;rename_i e0 he;exact Aq (xG e0) e;cases e
 |bM ps=>rw[dk h6 (by simp) (by simp)];simp only at e⊢;split at e;rename_i hi;rw[if_pos hi];exact Aq (xG ps) e;cases e
 |_=>cases e
 rename_i e0 j h1;rw[h1]at r;rcases r with q|⟨l',h2,r⟩;cases q;simp only[L.bD]at r;cases r;rw[h2];exact Aq (xG e0) e;cases e
def UK (s:Cln f Z X)(hc:vU call){op:AOp}{v:V}(hz:op.bn=true)(e:dY call Z op=some v):∃v',dY call X op=some v'/\ dQ f v v':=by
 cases op with
 |mv x=>simp only[dY]at e⊢;cases e;exact⟨_,rfl,s.ev x⟩
 |pick c a b=>simp only[dY]at e⊢;split at e;rename_i t h1;rw[(s.ev c).isBool h1];cases e;refine⟨_,rfl,?_⟩;cases t;exact s.ev b;exact s.ev a;cases e
 |load g n a=>exact wc s e
 |build zero parts=>simp only[dY]at e⊢;split at e;rename_i cs h1;cases e;obtain⟨ak,h2,h3⟩:=Mv s (Ih hz) h1;rw[h2];exact⟨_,rfl,_,rfl,h3⟩;cases e
 |bin op x y=>simp only[dY]at e⊢;obtain⟨p,q,r,h1,h2,rfl⟩:=ad4 e;have r1:=s.ev x;have r2:=s.ev y;rw[h1]at r1 e;rw[h2]at r2 e;rw[uq r1,uq r2];exact⟨_,e,dQ.pv r⟩
 |cX neg x y=>simp only[dY]at e⊢;split at e;rename_i a b h1 h2;cases e;rw[(s.ev x).isBool h1,(s.ev y).isBool h2];exact⟨_,rfl,dQ.pv _⟩;cases e
 |un op x=>simp only[dY]at e⊢;obtain⟨p,r,h1,rfl⟩:=afu e;have r1:=s.ev x;rw[h1]at r1 e;rw[uq r1];exact⟨_,e,dQ.pv r⟩
 |conv k x=>simp only[dY]at e⊢;split at e;rename_i k' n h1;cases e;rw[(s.ev x).isInt h1];exact⟨_,rfl,dQ.pv _⟩;cases e
 |cS x=>simp only[dY]at e⊢;split at e;rename_i es h1;rw[((s.ev x).asList s.heap h1).1];simp only;split at e;rename_i t h2;cases e;exact⟨_,rfl,dQ.pv _⟩;cases e;cases e
 |bo x off=>simp only[dY]at e⊢;have r:=s.ev x;split at e;rename_i o i j h1;rw[h1]at r;rcases r with q|⟨l',h2,r⟩;cases q;obtain⟨o',h3,rfl⟩:=j8 r;rw[h2];cases e;exact⟨_,rfl, .inr ⟨_,rfl,by simp only[L.bD,h3]⟩⟩;rename_i e0 j h1;rw[h1]at r;rcases r with q|⟨l',h2,r⟩;cases q;simp only[L.bD]at r;cases r;rw[h2];cases e;exact⟨_,rfl, .inr ⟨_,rfl,rfl⟩⟩;cases e
 |bH z x i=>
  simp only[dY]at e⊢;split at e;rename_i k n h1;rw[(s.ev i).isInt h1];simp only;split at e;rename_i hn;rw[if_pos hn];have r:=s.ev x;unfold cN at e⊢;split at e;rename_i o h2;rw[h2]at r;rcases r with q|⟨l',h3,r⟩;cases q;obtain⟨o',h4,rfl⟩:=jB r;rw[h3];obtain⟨ob,ob',h5,h6,h7⟩:=s.heap.get h4;simp only[h5]at e;simp only[h6];cases ob with
  |arr z' es=>rw[dk h7 (by simp) (by simp)];simp only at e⊢;split at e;rename_i h8;cases e;rw[if_pos h8];exact⟨_,rfl, .inr ⟨_,rfl,by simp only[L.bD,h4]⟩⟩;cases e
  |bI z' es=>rw[dk h7 (by simp) (by simp)];simp only at e⊢;split at e;rename_i h8;cases e;rw[if_pos h8];exact⟨_,rfl, .inr ⟨_,rfl,by simp only[L.bD,h4]⟩⟩;cases e
  |bA z' es=>rw[dk h7 (by simp) (by simp)];simp only at e⊢;split at e;rename_i h8;cases e;rw[if_pos h8];exact⟨_,rfl, .inr ⟨_,rfl,by simp only[L.bD,h4]⟩⟩;cases e
  |_=>cases e
  rename_i es h2;rw[h2]at r;rw[uq r];simp only;split at e;rename_i e0 h3;split at e;rename_i h4;cases e;rw[if_pos h4];exact⟨_,rfl, .inr ⟨_,rfl,rfl⟩⟩;cases e;cases e;cases e;cases e;cases e
 |cD x i=>simp only[dY]at e⊢;split at e;rename_i t k n h1 h2;rw[(s.ev x).isStr h1,(s.ev i).isInt h2];simp only;split at e;rename_i hn;rw[if_pos hn];split at e;rename_i b h3;cases e;exact⟨_,rfl,dQ.pv _⟩;cases e;cases e;cases e
 |extract x i=>
  simp only[dY]at e⊢;have r:=s.ev x;split at e;rename_i vs h1;rw[h1]at r;obtain⟨ys,h2,r⟩:=r;rw[h2];simp only;have key:∀{xs ys:List (Bool×List L)}{i:Nat}{x:Bool×List L},ed f xs ys->xs[i]? =some x->∃y,ys[i]? =some y/\ x.1=y.1/\ cZ f x.2 y.2:=fun{xs}=>by
   induction xs with
   |nil=>intro ys i x _ h;simp at h
   |cons a xs ih=>
    intro ys i x r h;cases ys with
    |nil=>exact r.elim
    |cons b ys=>
     cases i with
     |zero=>simp at h;subst h;exact⟨b,rfl,r.1,r.2.1⟩
     |succ i=>simpa using ih (i:=i) r.2.2 (by simpa using h)
  split at e;rename_i ls h3;cases e;obtain⟨⟨b,ls'⟩,h4,h5,h6⟩:=key r h3;simp only at h5 h6;subst h5;rw[h4];exact⟨_,rfl,_,rfl,h6⟩;rename_i l h3;cases e;obtain⟨⟨b,ls'⟩,h4,h5,h6⟩:=key r h3;simp only at h5 h6;subst h5;cases ls' with
  |nil=>exact h6.elim
  |cons l' ls'=>
   cases ls' with
   |nil=>rw[h4];exact⟨_,rfl,dQ.one h6.1⟩
   |cons _ _=>exact h6.2.elim
  cases e;cases e
 |len x=>simp only[dY]at e⊢;split at e;rename_i es h1;cases e;rw[((s.ev x).asList s.heap h1).1];exact⟨_,rfl,dQ.pv _⟩;cases e
 |cN x=>simp only[dY]at e⊢;split at e;rename_i t h1;cases e;rw[(s.ev x).isStr h1];exact⟨_,rfl,dQ.pv _⟩;cases e
 |call k args fl fz=>simp only[dY]at e⊢;split at e;rename_i h0;rw[if_pos h0];split at e;rename_i h1;split at e;rename_i xz h2;obtain⟨a1,a2,a3⟩:=(dj.ev s args).view s.heap h2;rw[<-a3,if_pos h1,a2];simp only;split at e;rename_i r h3;split at e;cases e;rename_i h4;cases e;rw[if_neg h4];exact⟨_,rfl,Kf (hc _ _ _ h3)⟩;cases e;cases e;cases e;cases e
 |mm isMax x y=>simp only[dY]at e⊢;split at e;rename_i k a k' b h1 h2;rw[(s.ev x).isInt h1,(s.ev y).isInt h2];simp only;split at e;rename_i hk;cases e;rw[if_pos hk];exact⟨_,rfl,dQ.pv _⟩;cases e;cases e
 |bp x args=>simp only[dY]at e⊢;have r:=s.ev x;split at e;rename_i k caps h1;rw[h1]at r;rcases r with q|⟨l',h2,r⟩;cases q;simp only[L.bD]at r;cases r;rw[h2];simp only;split at e;rename_i xz h3;rw[((dj.ev s args).view s.heap h3).2.1];simp only;split at e;rename_i r h4;split at e;rename_i h5;cases e;rw[if_pos h5];exact⟨_,rfl,Kf (hc _ _ _ h4)⟩;cases e;cases e;cases e;cases e
 |c7 g n a=>simp only[dY]at e⊢;split at e;rename_i hq;have af:ep X.h (a.ev X)=true:=MD s hq;rw[if_pos af];have key:∃v',dY call X (.load g n a)=some v'/\ dQ f v v':=wc s e;exact key;cases e
 |bj g n a r=>
  simp only[dY]at e⊢;split at e;rename_i hq;have ab:(oU (a.ev X) ((Opd.tmp (r%65536)).ev X)&&(r/65536==0||oU (a.ev X) ((Opd.tmp (r/65536)).ev X)))=true:=by rw[Zg,YM]at hq⊢;exact⟨Ip s hq.1,hq.2.imp id (Ip s)⟩
  rw[if_pos ab];have key:∃v',dY call X (.load g n a)=some v'/\ dQ f v v':=wc s e;exact key;cases e
 |bs g n a=>
  simp only[dY]at e⊢;split at e;cases e;rename_i hq;have af:¬ep X.h (a.ev X)=true:=by
   intro ab;have r:=s.ev a;unfold dP at e;unfold ep at hq;split at e;rename_i o i j h1;rw[h1]at r hq;rcases r with q|⟨l',h2,r⟩;cases q;obtain⟨o',h3,rfl⟩:=j8 r;rw[h2]at ab;obtain⟨ob,ob',h4,h5,h6⟩:=s.heap.get h3;rw[h4]at e;simp only[h4]at hq;simp only[ep,h5]at ab;cases ob with
   |box cs=>exact hq rfl
   |bM ps=>exact hq rfl
   |arr z es=>rw[dk h6 (by simp) (by simp)]at ab;cases ab
   |bI z es=>rw[dk h6 (by simp) (by simp)]at ab;cases ab
   |bA z es=>rw[dk h6 (by simp) (by simp)]at ab;cases ab
   |_=>cases e
   rename_i e' j' h1;rw[h1]at hq;exact hq rfl;cases e
  rw[if_neg af];have key:∃v',dY call X (.load g n a)=some v'/\ dQ f v v':=wc s e;exact key
 |c8 z x lo hi=>simp only[dY]at e⊢;split at e;rename_i es h1;have r:=s.ev x;rw[h1]at r;rw[uq r];simp only;split at e;rename_i l r h2 h3;rw[Ap s h2,Ap s h3];simp only;split at e;rename_i h5;cases e;rw[if_pos h5];exact⟨_,rfl,dQ.pv _⟩;cases e;cases e;cases e
 |bc z ps=>
  simp only[dY]at e⊢;split at e;rename_i es h1;rw[MJ s ps h1];simp only;split at e;rename_i h5;cases e;rw[if_pos h5];refine⟨_,rfl,?_⟩;cases es with
  |nil=>exact .inr ⟨_,rfl,rfl⟩
  |cons _ _=>exact dQ.pv _
  cases e;cases e
 |cM x=>simp only[dY]at e⊢;split at e;rename_i t h1;cases e;rw[(s.ev x).isStr h1];exact⟨_,rfl,dQ.pv _⟩;cases e
 |cY neg ks x y=>simp only[dY]at e⊢;have r1:=s.ev x;have r2:=s.ev y;split at e;rename_i ls ls' h1 h2;rw[h1]at r1;rw[h2]at r2;obtain⟨ms,h3,r1⟩:=r1;obtain⟨al,h4,r2⟩:=r2;rw[h3,h4];simp only;split at e;rename_i b h5;cases e;rw[Rb r1 r2 h5];exact⟨_,rfl,dQ.pv _⟩;cases e;cases e
 |c3 x=>cases hz
 |bN z x i=>cases hz
 |bq g n a=>cases hz
 |bf k args=>cases hz
 |_=>cases e
def xY (k:Y3 f h h'){o o':Nat}(e:f[o]? =some o'){r:Nat×List (List PV)}(hd:dg h o=some r):dg h' o'=some r:=by
 obtain⟨ob,ob',h1,h2,h3⟩:=k.get e;unfold dg at hd⊢;rw[h1]at hd;rw[h2];cases ob with
 |arr z es=>rw[dk h3 (by simp) (by simp)];exact hd
 |bA z es=>rw[dk h3 (by simp) (by simp)];exact hd
 |_=>cases hd
def Oc (k:Y3 f h h'):∀{ls ls':List L},iJ f ls ls'->ls.all (L.bG h)=true->ls'.all (L.bG h')=true
 |[],[],_,_=>rfl
 |l::ls,l'::ls',r,e=>by
  simp only[Zq,Zg]at e⊢;refine⟨?_,Oc k r.2 e.2⟩;have r1:=r.1;have e1:=e.1;cases l with
  |arr o=>
   obtain⟨o',h1,rfl⟩:=jB r1;obtain⟨ob,ob',g1,g2,g3⟩:=k.get h1;simp only[L.bG,g1]at e1;simp only[L.bG,g2];cases ob with
   |arr z es=>rw[dk g3 (by simp) (by simp)];exact e1
   |bA z es=>rw[dk g3 (by simp) (by simp)]
   |_=>cases e1
  |pv p=>simp only[L.bD]at r1;cases r1;exact e1
  |nil=>simp only[L.bD]at r1;cases r1;rfl
  |_=>cases e1
 |[],_::_,e,_=>e.elim
 |_::_,[],e,_=>e.elim
def xf :∀{ls ls':List L},iJ f ls ls'->∀o'∈cz ls',∃o∈cz ls,f[o]? =some o'
 |[],[],_,o',h=>by simp[cz]at h
 |l::ls,l'::ls',r,o',h=>by
  have r1:=r.1;cases l with
  |arr o=>obtain⟨p,h1,rfl⟩:=jB r1;rcases ZG.1 (show o'∈p::cz ls' by simpa[cz]using h)with rfl|h;exact⟨o,by simp[cz],h1⟩;obtain⟨q,h2,h3⟩:=xf r.2 o' h;exact⟨q,by simp only[cz,YS,ZG];exact .inr h2,h3⟩
  |ptr o i j=>obtain⟨p,h1,rfl⟩:=j8 r1;obtain⟨q,h2,h3⟩:=xf r.2 o' (by simpa[cz]using h);exact⟨q,by simpa[cz]using h2,h3⟩
  |sub o c=>obtain⟨p,h1,rfl⟩:=ur r1;obtain⟨q,h2,h3⟩:=xf r.2 o' (by simpa[cz]using h);exact⟨q,by simpa[cz]using h2,h3⟩
  |cB o l q=>cases r1
  |_=>simp only[L.bD]at r1;cases r1;obtain⟨q,h2,h3⟩:=xf r.2 o' (by simpa[cz]using h);exact⟨q,by simpa[cz]using h2,h3⟩
 |[],_::_,e,_,_=>e.elim
 |_::_,[],e,_,_=>e.elim
def oE (k:Y3 f h h'):∀{ls ls':List L},iJ f ls ls'->(cz ls).Nodup->(cz ls').Nodup
 |[],[],_,_=>by simp[cz]
 |l::ls,l'::ls',r,e=>by
  have r1:=r.1;cases l with
  |arr o=>
   obtain⟨p,h1,rfl⟩:=jB r1;have e':(o::cz ls).Nodup:=by simpa[cz]using e
   have:(p::cz ls').Nodup:=by refine Yn.2 ⟨fun hp=> ?_,oE k r.2 (Yn.1 e').2⟩;obtain⟨q,h2,h3⟩:=xf r.2 p hp;exact(Yn.1 e').1 (by rw[k.inj h1 h3];exact h2)
   simpa[cz]using this
  |ptr o i j=>obtain⟨p,h1,rfl⟩:=j8 r1;simpa[cz]using oE k r.2 (by simpa[cz]using e)
  |sub o c=>obtain⟨p,h1,rfl⟩:=ur r1;simpa[cz]using oE k r.2 (by simpa[cz]using e)
  |cB o l q=>cases r1
  |_=>simp only[L.bD]at r1;cases r1;simpa[cz]using oE k r.2 (by simpa[cz]using e)
 |[],_::_,e,_=>e.elim
 |_::_,[],e,_=>e.elim
def iJ.append :∀{ls ls' ms al:List L},iJ f ls ls'->iJ f ms al->iJ f (ls++ms) (ls'++al)
 |[],[],_,_,_,k=>k
 |_::_,_::_,_,_,e,k=>⟨e.1,iJ.append e.2 k⟩
 |[],_::_,_,_,e,_=>e.elim
 |_::_,[],_,_,e,_=>e.elim
def xL.flat :∀{vs vs':List V},xL f vs vs'->iJ f (vs.flatMap V.cells) (vs'.flatMap V.cells)
 |[],[],_=>trivial
 |v::vs,v'::vs',e=>by simp only[Y'];exact iJ.append e.1 (xL.flat e.2)
 |[],_::_,e=>e.elim
 |_::_,[],e=>e.elim
def abW (f:List Nat)(a b:Option (Nat×List (List PV))):Prop:=(a=none/\ b=none) \/∃o o' es,a=some (o,es)/\ b=some (o',es)/\ f[o]? =some o'
def abU (k:Y3 f h h'){z:Nat}{v v':V}{src:Option (Nat×List (List PV))}(r:dQ f v v')(e:gZ h z v=some src):∃a8,gZ h' z v'=some a8/\ abW f src a8:=by
 cases v with
 |one l=>
  rcases r with rfl|⟨l',rfl,r⟩;cases e;cases l with
  |nil=>simp only[L.bD]at r;cases r;simp only[gZ]at e⊢;cases e;exact⟨_,rfl, .inl ⟨rfl,rfl⟩⟩
  |arr o=>obtain⟨o',h1,rfl⟩:=jB r;simp only[gZ]at e⊢;split at e;rename_i z' es hd;rw[xY k h1 hd];simp only;split at e;rename_i hz;cases e;rw[if_pos hz];exact⟨_,rfl, .inr ⟨o,o',es,rfl,rfl,h1⟩⟩;cases e;cases e
  |_=>cases e
 |_=>cases e
def adp (k:Y3 f h h'){z:Nat}{v v':V}{src a8:Option (Nat×List (List PV))}{ys:List (List PV)}(r:dQ f v v')(rs:abW f src a8)(e:nP h z src v=some ys):nP h' z a8 v'=some ys/\ iJ f v.cells v'.cells:=by
 cases v with
 |one l=>
  rcases r with rfl|⟨l',rfl,r⟩;cases e;cases l with
  |nil=>simp only[L.bD]at r;cases r;simp only[nP]at e⊢;exact⟨e,rfl,trivial⟩
  |pv p=>
   simp only[L.bD]at r;cases r;cases p with
   |lst l=>simp only[nP]at e⊢;exact⟨e,rfl,trivial⟩
   |_=>cases e
  |arr o=>
   have r0:=r;obtain⟨o',h1,rfl⟩:=jB r;simp only[nP]at e⊢;split at e;rename_i z' es hd;rw[xY k h1 hd];simp only;split at e;rename_i hz;cases e;have hn:eK a8 o'=true:=by rcases rs with⟨rfl,rfl⟩|⟨p,p',es',rfl,rfl,hp⟩;rfl;have:=hz.2;simp only[eK,Zz,beq_eq_false_iff_ne]at this⊢;exact fun q=>this (k.inj hp (by rw[q];exact h1))
   rw[if_pos ⟨hz.1,hn⟩];exact⟨rfl,r0,trivial⟩;cases e;cases e
  |_=>cases e
 |_=>cases e
def Y3.bl (k:Y3 f h h')(ob:Q0)(hb:∀cs,ob≠ .box cs):Y3 (f++[h'.length]) (h++[ob]) (h'++[ob]):=by
 refine k.push ?_;cases ob with
 |box cs=>exact absurd rfl (hb cs)
 |dead=>trivial
 |_=>rfl
def Y3.new (k:Y3 f h h'):(f++[h'.length])[h.length]? =some h'.length:=by rw[<-k.len];simp
def IP (s:Cln f Z X)(hc:vU call){op:AOp}{v:V}{h1:List Q0}(hb:∀n a x,op≠ .bR n a x)(aj:∀n a x,op≠ .storeD n a x)(hz:op.bn=true)(e:fa call Z op=some (v,h1)):∃v' aa g,fa call X op=some (v',aa)/\ Y3 (f++g) h1 aa/\ dQ (f++g) v v':=by
 cases op with
 |alloc zero=>simp only[fa]at e⊢;cases e;exact⟨_,_,[X.h.length],rfl,s.heap.push ⟨zero,rfl,Ih hz⟩, .inr ⟨_,rfl,by simp only[L.bD,s.heap.new]⟩⟩
 |box x=>simp only[fa]at e⊢;split at e;rename_i hp;cases e;obtain⟨a1,a2⟩:=(s.ev x).plain hp;rw[if_pos a2];exact⟨_,_,[X.h.length],rfl,s.heap.push ⟨_,rfl,a1.mono⟩, .inr ⟨_,rfl,by simp only[L.bD,s.heap.new]⟩⟩;cases e
 |bO z parts=>
  simp only[fa]at e⊢;split at e;rename_i hp;split at e;rename_i es he;cases e;obtain⟨a1,a2⟩:=(dj.ev s parts).rows s.heap he;have hlen:∀{vs vs':List V},xL f vs vs'->(vs.all (fun v=>v.cells.length==z))=(vs'.all (fun v=>v.cells.length==z))/\ vs.length=vs'.length:=fun{vs}=>by
   induction vs with
   |nil=>intro vs' r;cases vs' with
    |nil=>exact⟨rfl,rfl⟩
    |cons _ _=>exact r.elim
   |cons a vs ih=>intro vs' r;cases vs' with
    |nil=>exact r.elim
    |cons b vs'=>
     obtain⟨i1,i2⟩:=ih r.2
     refine⟨by simp only[Zq,r.1.length,i1],by simp[i2]⟩
  obtain⟨b1,b2⟩:=hlen a1;rw[b1,b2]at hp;rw[if_pos hp,a2];have k:=s.heap.freezeVs a1;exact⟨_,_,[_],rfl,k.bl _ (by simp), .inr ⟨_,rfl,by simp only[L.bD,k.new]⟩⟩;cases e;cases e
 |store n a x=>
  simp only[fa,dK]at e⊢;have r:=s.ev a;have rx:=s.ev x;by_cases hn:(x.ev Z).cells.length=n;rw[if_pos hn]at e;generalize hv:a.ev Z=va at e r;cases va with
  |one l=>
   cases l with
   |ptr o i j=>
    rcases r with q|⟨l',h2,r⟩;cases q;obtain⟨o',h3,rfl⟩:=j8 r;rw[h2];obtain⟨ob,ob',h4,h5,h6⟩:=s.heap.get h3;simp only[h4]at e;simp only[h5];cases ob with
    |box cs=>obtain⟨cs',rfl,h6⟩:=h6;simp only at e⊢;split at e;rename_i hh ad;split at ad;rename_i hp;cases ad;cases e;obtain⟨a1,a2⟩:=rx.plain hp.2.2;rw[if_pos (a1.length▸hn),if_pos ⟨hp.1,by rw[<-h6.length];exact hp.2.1,a2⟩];refine⟨_,_,[],rfl,?_,dQ.none⟩;rw[Zw];exact s.heap.set h3 ⟨_,rfl,h6.putAt j a1⟩;cases ad;cases e
    |arr z es=>
     rw[dk h6 (by simp) (by simp)];simp only at e⊢;cases he:es[i]? with
     |none=>simp[he]at e
     |some e0=>
      cases ag:Gi.viewL Z.h (x.ev Z).cells with
      |none=>simp[he,ag]at e
      |some ps=>simp only[he,ag]at e;obtain⟨a1,a2⟩:=rx.viewL s.heap ag;split at e;rename_i hh ad;split at ad;rename_i hp;cases ad;cases e;simp only[a2];rw[if_pos (a1.length▸hn),if_pos ⟨hp.1,iJ.bB s.heap h3 a1 hp.2⟩];refine⟨_,_,[],rfl,?_,dQ.none⟩;rw[Zw];exact(s.heap.freezeLs a1).set h3 rfl;cases ad;cases e
    |_=>simp at e
   |_=>simp at e
  |_=>simp at e
  rw[if_neg hn]at e;simp at e
 |make bytes zero n=>simp only[fa]at e⊢;split at e;rename_i k m h2;rw[(s.ev n).isInt h2];simp only;split at e;rename_i h3;cases e;rw[if_pos h3];exact⟨_,_,[X.h.length],rfl,s.heap.bl _ (by simp), .inr ⟨_,rfl,by simp only[L.bD,s.heap.new]⟩⟩;cases e;cases e
 |append z bytes x y=>
  simp only[fa]at e⊢;have r:=s.ev x;split at e;rename_i ys h2 h3;rw[h2]at r;rcases r with q|⟨l',h4,r⟩;cases q;simp only[L.bD]at r;cases r;rw[h4,((s.ev y).asList s.heap h3).1];simp only;split at e;rename_i h5;cases e;rw[if_pos h5];exact⟨_,_,[X.h.length],rfl,s.heap.bl _ (by simp), .inr ⟨_,rfl,by simp only[L.bD,s.heap.new]⟩⟩;cases e;rename_i o ys h2 h3;rw[h2]at r;rcases r with q|⟨l',h4,r⟩;cases q;obtain⟨o',h5,rfl⟩:=jB r;obtain⟨a1,a2⟩:=(s.ev y).asList s.heap h3;rw[h4,a1];obtain⟨ob,ob',h6,h7,h8⟩:=s.heap.get h5;simp only[h6]at e;simp only[h7];cases ob with
  |arr z' es=>rw[dk h8 (by simp) (by simp)];simp only at e⊢;split at e;rename_i h9;cases e;rw[if_pos ⟨h9.1,h9.2.1,h9.2.2.1,h9.2.2.2.1,iJ.bB s.heap h5 a2 h9.2.2.2.2⟩];have k:=s.heap.set h5 (ob:= .dead) (ob':= .dead) trivial;have k2:=k.bl (.arr z (es++ys)) (by simp);simp only[ZC]at k2;have hn:=k.new;simp only[ZC]at hn;exact⟨_,_,[_],rfl,k2, .inr ⟨_,rfl,by simp only[L.bD,hn]⟩⟩;cases e
  |_=>cases e
  cases e
 |bT bytes x y=>
  simp only[fa]at e⊢;have r:=s.ev x;split at e;rename_i t h2 h3;rw[h2]at r;rcases r with q|⟨l',h4,r⟩;cases q;simp only[L.bD]at r;cases r;rw[h4,(s.ev y).isStr h3];simp only;split at e;rename_i h5;cases e;rw[if_pos h5];exact⟨_,_,[X.h.length],rfl,s.heap.bl _ (by simp), .inr ⟨_,rfl,by simp only[L.bD,s.heap.new]⟩⟩;cases e;rename_i o t h2 h3;rw[h2]at r;rcases r with q|⟨l',h4,r⟩;cases q;obtain⟨o',h5,rfl⟩:=jB r;rw[h4,(s.ev y).isStr h3];obtain⟨ob,ob',h6,h7,h8⟩:=s.heap.get h5;simp only[h6]at e;simp only[h7];cases ob with
  |arr z' es=>rw[dk h8 (by simp) (by simp)];simp only at e⊢;split at e;rename_i h9;cases e;rw[if_pos h9];have k:=s.heap.set h5 (ob:= .dead) (ob':= .dead) trivial;have k2:=k.bl (.arr 1 (es++cC t)) (by simp);simp only[ZC]at k2;have hn:=k.new;simp only[ZC]at hn;exact⟨_,_,[_],rfl,k2, .inr ⟨_,rfl,by simp only[L.bD,hn]⟩⟩;cases e
  |_=>cases e
  cases e
 |c2 z x lo hi=>simp only[fa]at e⊢;split at e;rename_i es h2;obtain⟨a1,a2⟩:=(s.ev x).asList s.heap h2;rw[a1];simp only;split at e;rename_i l r h3 h4;rw[Ap s h3,Ap s h4];simp only;split at e;rename_i h5;cases e;rw[if_pos h5];refine⟨_,_,[],rfl,?_,dQ.pv _⟩;rw[Zw];exact s.heap.freezeLs a2;cases e;cases e;cases e
 |bS k args=>simp only[fa]at e⊢;split at e;rename_i xz h2;obtain⟨a1,a2,a3⟩:=(dj.ev s args).view s.heap h2;rw[a2];simp only;split at e;rename_i r h3;cases e;refine⟨_,_,[],rfl,?_,Kf (hc _ _ _ h3)⟩;rw[Zw];exact s.heap.freezeVs a1;cases e;cases e
 |bR n a x=>exact absurd rfl (hb n a x)
 |storeD n a x=>exact absurd rfl (aj n a x)
 |bY n a x=>cases hz
 |bK i zero=>cases hz
 |c5 n x=>cases hz
 |bd zero=>
  simp only[fa]at e⊢;cases e;have k1:=s.heap.push (ob:= .box zero) (ob':= .box zero) ⟨zero,rfl,Ih hz⟩;have k2:=k1.bl .res (by simp);rw[List.append_assoc,List.append_assoc,List.append_assoc]at k2;have hn:(f++([X.h.length]++[(X.h++[Q0.box zero]).length]))[Z.h.length]? =some X.h.length:=by rw[<-s.heap.len];simp
  exact⟨_,_,_,rfl,k2, .inr ⟨_,rfl,by simp only[L.bD,hn]⟩⟩
 |bg k args=>cases hz
 |bh k x y=>cases hz
 |bt k args=>cases hz
 |storeAt i n a x=>cases hz
 |bP k args=>
  simp only[fa]at e⊢;split at e;rename_i xz h2;obtain⟨a1,a2,a3⟩:=(dj.ev s args).view s.heap h2;rw[a2];simp only;split at e;rename_i r h3;have e':=(Option.some.inj e);have hk:Y3 f (if r.closed=true then Z.h else Gi.freezeVs Z.h (args.map (Opd.ev Z))) (if r.closed=true then X.h else Gi.freezeVs X.h (args.map (Opd.ev X))):=by split;exact s.heap;exact s.heap.freezeVs a1
  obtain⟨g,k1,k2⟩:=hk.thaw (hc _ _ _ h3);rw[e']at k1 k2;exact⟨_,_,g,rfl,k1,k2⟩;cases e;cases e
 |bZ z parts=>
  simp only[fa]at e⊢;split at e;rename_i hp;split at e;rename_i es he;cases e;obtain⟨a1,a2⟩:=(dj.ev s parts).rows s.heap he;have hlen:∀{vs vs':List V},xL f vs vs'->(vs.all (fun v=>v.cells.length==z))=(vs'.all (fun v=>v.cells.length==z))/\ vs.length=vs'.length:=fun{vs}=>by
   induction vs with
   |nil=>intro vs' r;cases vs' with
    |nil=>exact⟨rfl,rfl⟩
    |cons _ _=>exact r.elim
   |cons a vs ih=>intro vs' r;cases vs' with
    |nil=>exact r.elim
    |cons b vs'=>
     obtain⟨i1,i2⟩:=ih r.2
     refine⟨by simp only[Zq,r.1.length,i1],by simp[i2]⟩
  obtain⟨b1,b2⟩:=hlen a1;simp only[Zg,decide_eq_true_eq]at hp;rw[b1,b2]at hp;have aw:((parts.map (Opd.ev X)).all (fun v=>v.cells.length==z)&&decide (0<z)&&decide ((parts.map (Opd.ev X)).length*z<=16777216)&&((parts.map (Opd.ev X)).flatMap V.cells).all (L.bG X.h)&&decide ((cz ((parts.map (Opd.ev X)).flatMap V.cells)).Nodup))=true:=by simp only[Zg,decide_eq_true_eq];exact⟨⟨hp.1.1,Oc s.heap a1.flat hp.1.2⟩,oE s.heap a1.flat hp.2⟩
  rw[if_pos aw,a2];have k:=s.heap.freezeVs a1;exact⟨_,_,[_],rfl,k.bl _ (by simp), .inr ⟨_,rfl,by simp only[L.bD,k.new]⟩⟩;cases e;cases e
 |bJ z bytes x y=>
  simp only[fa]at e⊢;split at e;cases e;rename_i src hs;obtain⟨a8,ax,rs⟩:=abU s.heap (s.ev x) hs;rw[ax];simp only;split at e;cases e;rename_i ys hy;obtain⟨ay,a1⟩:=adp s.heap (s.ev y) rs hy;rw[ay];simp only;have ah:cq a8=cq src:=by rcases rs with⟨rfl,rfl⟩|⟨p,p',es',rfl,rfl,hp⟩<;>rfl
  rw[ah];split at e;rename_i hp;cases e;rw[if_pos hp];have k:Y3 f (cJ src (Gi.freezeLs Z.h (y.ev Z).cells)) (cJ a8 (Gi.freezeLs X.h (y.ev X).cells)):=by rcases rs with⟨rfl,rfl⟩|⟨p,p',es',rfl,rfl,hq⟩;exact s.heap.freezeLs a1;exact(s.heap.freezeLs a1).set hq trivial
  have hlen:∀(h:List Q0)(ls:List L),(cJ src (Gi.freezeLs h ls)).length=(Gi.freezeLs h ls).length:=fun h ls=>by rcases rs with⟨rfl,rfl⟩|⟨p,p',es',rfl,rfl,hq⟩<;>simp[cJ]
  have ai:∀(h:List Q0)(ls:List L),(cJ a8 (Gi.freezeLs h ls)).length=(Gi.freezeLs h ls).length:=fun h ls=>by rcases rs with⟨rfl,rfl⟩|⟨p,p',es',rfl,rfl,hq⟩<;>simp[cJ]
  have k2:=k.bl (.bA z (cq src++ys)) (by simp);have hn:=k.new;simp only[hlen,ai,qZ]at k2 hn;exact⟨_,_,[_],rfl,k2, .inr ⟨_,rfl,by simp only[L.bD,hn]⟩⟩;cases e
 |bX n=>simp only[fa]at e⊢;cases e;exact⟨_,_,[X.h.length],rfl,s.heap.bl _ (by simp), .inr ⟨_,rfl,rfl⟩⟩
 |storeT n a x=>simp only[fa]at e⊢;have r:=s.ev a;have rx:=s.ev x;split at e;rename_i m h1;rw[h1]at r;rcases r with q|⟨l',h2,r⟩;cases q;simp only[L.bD]at r;cases r;rw[h2];simp only;split at e;rename_i hp;cases e;obtain⟨a1,a2⟩:=rx.plain hp.2.2;rw[if_pos ⟨hp.1,a1.length▸hp.2.1,a2⟩];refine⟨_,_,[],rfl,?_,dQ.none⟩;rw[Zw];exact s.heap;cases e;cases e
 |insert k z bytes x i v=>
  simp only[fa]at e⊢;have rx:=s.ev x;have ri:=s.ev i;have rv:=s.ev v;split at e;rename_i n o2 ex ei ev;rw[ex]at rx;rw[ev]at rv;rcases rx with q|⟨lx,hx,rx⟩;cases q;simp only[L.bD]at rx;cases rx;rcases rv with q|⟨lv,hv,rv⟩;cases q;obtain⟨ae,h2,rfl⟩:=jB rv;rw[hx,hv,ri.isInt ei];obtain⟨ob,ob',h5,h6,h7⟩:=s.heap.get h2;simp only[h5]at e;simp only[h6];cases ob with
  |arr z2 vs=>rw[dk h7 (by simp) (by simp)];simp only at e⊢;split at e;rename_i h8;cases e;rw[if_pos h8];exact⟨_,_,[X.h.length],rfl,s.heap.bl _ (by simp), .inr ⟨_,rfl,by simp only[L.bD,s.heap.new]⟩⟩;cases e
  |bA z2 vs=>rw[dk h7 (by simp) (by simp)];simp only at e⊢;split at e;rename_i h8;cases e;rw[if_pos h8];have k:=s.heap.set h2 (ob:= .dead) (ob':= .dead) trivial;have k2:=k.bl (.bA z vs) (by simp);have hn:=k.new;simp only[ZC]at k2 hn;exact⟨_,_,[_],rfl,k2, .inr ⟨_,rfl,by simp only[L.bD,hn]⟩⟩;cases e
  |_=>cases e
  rename_i o1 n o2 ex ei ev;rw[ex]at rx;rw[ev]at rv;rcases rx with q|⟨lx,hx,rx⟩;cases q;obtain⟨ar,h1,rfl⟩:=jB rx;rcases rv with q|⟨lv,hv,rv⟩;cases q;obtain⟨ae,h2,rfl⟩:=jB rv;rw[hx,hv,ri.isInt ei];obtain⟨oa,az,a5,a6,a7⟩:=s.heap.get h1;obtain⟨ob,ob',h5,h6,h7⟩:=s.heap.get h2;simp only[a5,h5]at e;simp only[a6,h6];cases ob with
  |arr z2 vs=>
   cases oa with
   |arr z1 es=>rw[dk h7 (by simp) (by simp),dk a7 (by simp) (by simp)];simp only at e⊢;split at e;rename_i h8;cases e;have an:ar≠ae:=fun q=>h8.2.2.1 (s.heap.inj h1 (by rw[h2,q]));rw[if_pos ⟨h8.1,h8.2.1,an,h8.2.2.2⟩];have k:=s.heap.set h1 (ob:= .dead) (ob':= .dead) trivial;have k2:=k.bl (.arr z (es.take n.toNat++vs++es.drop n.toNat)) (by simp);simp only[ZC]at k2;have hn:=k.new;simp only[ZC]at hn;exact⟨_,_,[_],rfl,k2, .inr ⟨_,rfl,by simp only[L.bD,hn]⟩⟩;cases e
   |_=>cases e
  |bA z2 vs=>rw[dk h7 (by simp) (by simp)];simp only at e⊢;split at e;rename_i z1 es hd;rw[xY s.heap h1 hd];simp only;split at e;rename_i h8;cases e;have an:ar≠ae:=fun q=>h8.2.2.1 (s.heap.inj h1 (by rw[h2,q]));rw[if_pos ⟨h8.1,h8.2.1,an,h8.2.2.2⟩];have k:=(s.heap.set h1 (ob:= .dead) (ob':= .dead) trivial).set h2 (ob:= .dead) (ob':= .dead) trivial;have k2:=k.bl (.bA z (es.take n.toNat++vs++es.drop n.toNat)) (by simp);have hn:=k.new;simp only[ZC]at k2 hn;exact⟨_,_,[_],rfl,k2, .inr ⟨_,rfl,by simp only[L.bD,hn]⟩⟩;cases e;cases e
  |_=>cases e
  cases e
 |c9 k z x gf=>
  simp only[fa]at e⊢;have rx:=s.ev x;have rg:=s.ev gf;split at e;rename_i c cs ex eg;rw[ex]at rx;rw[eg]at rg;rcases rx with q|⟨lx,hx,rx⟩;cases q;simp only[L.bD]at rx;cases rx;rcases rg with q|⟨lg,hg,rg⟩;cases q;simp only[L.bD]at rg;cases rg;rw[hx,hg];simp only;cases e;refine⟨_,_,[],rfl,?_, .inr ⟨_,rfl,rfl⟩⟩;rw[Zw];exact s.heap;rename_i o c cs ex eg;rw[ex]at rx;rw[eg]at rg;rcases rx with q|⟨lx,hx,rx⟩;cases q;obtain⟨o',au,rfl⟩:=jB rx;rcases rg with q|⟨lg,hg,rg⟩;cases q;simp only[L.bD]at rg;cases rg;rw[hx,hg];obtain⟨oa,az,a5,a6,a7⟩:=s.heap.get au;simp only[FW,a5]at e;simp only[FW,a6];have fin:∀{es:List (List PV)},(match iR call c (cs.map xg) es with
   |some es'=>some (V.one (.arr Z.h.length),Z.h.set o .dead++[.arr z es'])
   |none=>none)=some (v,h1)->∃v' aa g,(match iR call c (cs.map xg) es with
   |some es'=>some (V.one (.arr X.h.length),X.h.set o' .dead++[.arr z es'])
   |none=>none)=some (v',aa)/\ Y3 (f++g) h1 aa/\ dQ (f++g) v v':=by intro es e;split at e;rename_i es' h8;cases e;have k:=s.heap.set au (ob:= .dead) (ob':= .dead) trivial;have k2:=k.bl (.arr z es') (by simp);simp only[ZC]at k2;have hn:=k.new;simp only[ZC]at hn;exact⟨_,_,[_],rfl,k2, .inr ⟨_,rfl,by simp only[L.bD,hn]⟩⟩;cases e
  cases oa with
  |arr z2 es=>rw[dk a7 (by simp) (by simp)];simp only at e⊢;split at e;rename_i hz;rw[if_pos hz];exact fin e;cases e
  |bA z2 es=>rw[dk a7 (by simp) (by simp)];simp only at e⊢;split at e;rename_i hz;rw[if_pos hz];exact fin e;cases e
  |_=>cases e
  cases e
 |cE k caps=>simp only[fa]at e⊢;split at e;rename_i cs hh h2;cases e;obtain⟨aa,h3,h4⟩:=Iw s.heap (dj.ev s caps) h2;rw[h3];refine⟨_,_,[],rfl,?_, .inr ⟨_,rfl,rfl⟩⟩;rw[Zw];exact h4;cases e
 |call k args fl fz=>
  cases fl<;>cases fz<;>simp only[fa]at e⊢ <;>try (cases e;done)
  split at e;rename_i xz h2;obtain⟨a1,a2,a3⟩:=(dj.ev s args).view s.heap h2;rw[a2];simp only;split at e;rename_i r h3;obtain⟨g,k1,k2⟩:=(s.heap.freezeVs a1).thaw (V.bm (hc _ _ _ h3));have e':=(Option.some.inj e);rw[e']at k1 k2;exact⟨_,_,g,rfl,k1,k2⟩;cases e;cases e
 |_=>cases e
def aa2 (s:Cln f Z X)(hc:vU call){n:Nat}{a x:Opd}{v:V}{h1:List Q0}(e:fa call Z (.storeD n a x)=some (v,h1)):∃v' aa g,fa call X (.storeD n a x)=some (v',aa)/\ Y3 (f++g) h1 aa/\ dQ (f++g) v v':=by
 have old:dK Z.h n (a.ev Z) (x.ev Z)=some h1->v= .b8 []->∃aa g,dK X.h n (a.ev X) (x.ev X)=some aa/\ Y3 (f++g) h1 aa/\ dQ (f++g) (.b8 []) (.b8 []):=fun hs hv=>by obtain⟨v',aa,g,q1,q2,q3⟩:=IP s hc (op:= .store n a x) (v:= .b8 []) (h1:=h1) (fun _ _ _ h=>by cases h) (fun _ _ _ h=>by cases h) rfl (by simp only[fa,hs]);simp only[fa]at q1;split at q1;rename_i hh aA;cases q1;exact⟨aa,g,aA,q2,dQ.none⟩;cases q1
 simp only[fa]at e⊢;split at e;rename_i hh hs;cases e;have r:=s.ev a;unfold storeD at hs⊢;split at hs;rename_i o i j ha;rw[ha]at r;rcases r with q|⟨l',av,r⟩;cases q;obtain⟨o',h3,rfl⟩:=j8 r;rw[av];simp only;split at hs;rename_i z es hd;rw[xY s.heap h3 hd];simp only;split at hs;rename_i e0 ps he ag;obtain⟨a1,a2⟩:=(s.ev x).viewL s.heap ag;rw[he,a2];simp only;split at hs;rename_i hp;cases hs;rw[if_pos ⟨a1.length▸hp.1,hp.2.1,iJ.bB s.heap h3 a1 hp.2.2.1,Oc s.heap a1 hp.2.2.2.1,oE s.heap a1 hp.2.2.2.2⟩];refine⟨_,_,[],rfl,?_,dQ.none⟩;rw[Zw];exact(s.heap.freezeLs a1).set h3 rfl;cases hs;cases hs;rename_i hd;have aB:dg X.h o'=none:=by
  obtain⟨ob,ob',g1,g2,g3⟩:=s.heap.get h3;unfold dg at hd⊢;rw[g1]at hd;rw[g2];cases ob with
  |arr z es=>rw[dk g3 (by simp) (by simp)];exact hd
  |bA z es=>cases hd
  |box cs=>obtain⟨cs',rfl,_⟩:=g3;rfl
  |dead=>unfold dK at hs;rw[ha]at hs;simp[g1]at hs
  |_=>rw[dk g3 (by simp) (by simp)]
 rw[aB];simp only;obtain⟨aa,g,q1,q2,q3⟩:=old hs rfl;rw[av]at q1;rw[q1];exact⟨_,_,g,rfl,q2,q3⟩;cases hs;cases e
def acD (s:Cln f Z X)(hc:vU call){op:AOp}{v:V}{h1:List Q0}(hz:op.bn=true)(e:fa call Z op=some (v,h1)):∃v' aa g,fa call X op=some (v',aa)/\ Y3 (f++g) h1 aa/\ dQ (f++g) v v':=by by_cases hb:∃n a x,op= .bR n a x;obtain⟨n,a,x,rfl⟩:=hb;simp only[fa]at e;split at e;rename_i hq;have af:=MD s hq;obtain⟨v',aa,g,q1,q2,q3⟩:=IP s hc (op:= .store n a x) (fun _ _ _ h=>by cases h) (fun _ _ _ h=>by cases h) rfl (v:=v) (h1:=h1) (by simp only[fa];exact e);refine⟨v',aa,g,?_,q2,q3⟩;simp only[fa]at q1⊢;rw[if_pos af];exact q1;cases e;by_cases aj:∃n a x,op= .storeD n a x;obtain⟨n,a,x,rfl⟩:=aj;exact aa2 s hc e;exact IP s hc (fun n a x h=>hb ⟨n,a,x,h⟩) (fun n a x h=>aj ⟨n,a,x,h⟩) hz e
def MX (s:Cln f Z X){g:Option (Nat×Bool)}{b:Bool}(e:dG Z g=some b):dG X g=some b:=by
 cases g with
 |none=>exact e
 |some g=>
  obtain⟨t,w⟩:=g;simp only[dG]at e⊢;have r:=s.tmps.getD t;split at e;rename_i c h1;rw[h1]at r;rw[uq r];exact e;rename_i h1;rw[h1]at r;obtain⟨ys,h2,r⟩:=r;rw[h2];cases ys with
  |nil=>exact e
  |cons _ _=>exact r.elim
  cases e
def WZ (s:Cln f Z X)(hc:vU call){o:X2}{Z':St}(hz:o.op.bn=true)(e:cT call o Z=some Z'):∃X' g,cT call o X=some X'/\ Cln (f++g) Z' X':=by unfold cT at e⊢;split at e;rename_i hw;rw[MX s hw];simp only;split at e;rename_i v h1;cases e;obtain⟨v',h2,r⟩:=UK s hc hz h1;rw[h2];exact⟨_,[],rfl,by rw[Zw];exact⟨s.heap,s.tmps.put _ r⟩⟩;rename_i h1;split at e;rename_i v h2 h3;cases e;obtain⟨v',aD,g,e1,k,r⟩:=acD s hc hz h3;rw[UB (call':=call) e1,e1];exact⟨_,g,rfl,k,s.tmps.mono.put _ r⟩;cases e;rename_i hw;rw[MX s hw];cases e;exact⟨_,[],rfl,by rw[Zw];exact⟨s.heap,s.tmps.put _ dQ.none⟩⟩;cases e
def Gt (hc:vU call):∀{os:List X2}{f:List Nat}{Z X Z':St},Cln f Z X->(os.all fun o=>o.op.bn)=true->cj call os Z=some Z'->∃X' g,cj call os X=some X'/\ Cln (f++g) Z' X'
 |[],f,Z,X,Z',s,_,e=>by simp only[cj]at e⊢;cases e;exact⟨_,[],rfl,by rw[Zw];exact s⟩
 |o::os,f,Z,X,Z',s,hz,e=>by simp only[Zq,Zg]at hz;simp only[cj]at e⊢;split at e;rename_i σ1 h1;obtain⟨τ1,g,h2,s1⟩:=WZ s hc hz.1 h1;rw[h2];obtain⟨τ2,g2,h3,s2⟩:=Gt hc s1 hz.2 e;exact⟨τ2,g++g2,h3,by rw[<-List.append_assoc];exact s2⟩;cases e
def Kn (Z X:St):Prop:=∃f,Cln f Z X
def UF (hc:vU call):∀{c:Q7},c.bn=true->∀{Z X Z':St}{e:Ex},Kn Z X->cD call cS c Z=some (e,Z')->∃X',cD call cS c X=some (e,X')/\ Kn Z' X':=by
 intro c;induction c with
 |skip=>intro _ Z X Z' e k h;simp only[cD]at h⊢;cases h;exact⟨_,rfl,k⟩
 |region ops=>intro hz Z X Z' e k h;simp only[cD]at h⊢;split at h;rename_i σ1 h1;cases h;obtain⟨f,s⟩:=k;obtain⟨X',g,h2,s2⟩:=Gt hc s hz h1;rw[h2];exact⟨_,rfl,_,s2⟩;cases h
 |seq a b ao aq=>
  intro hz Z X Z' e k h;simp only[Q7.bn,Zg]at hz;simp only[cD]at h⊢;cases ha:cD call cS a Z with
  |none=>simp[ha]at h
  |some x=>
   obtain⟨e1,σ1⟩:=x;obtain⟨τ1,h1,k1⟩:=ao hz.1 k ha;rw[h1];rw[ha]at h;cases e1 with
   |normal=>exact aq hz.2 k1 h
   |_=>cases h;exact⟨_,rfl,k1⟩
 |cond c a b ao aq=>
  intro hz Z X Z' e k h;simp only[Q7.bn,Zg]at hz;simp only[cD]at h⊢;split at h;rename_i t h1;obtain⟨f,s⟩:=k;rw[(s.ev c).isBool h1];cases t with
  |true=>exact ao hz.1 ⟨f,s⟩ h
  |false=>exact aq hz.2 ⟨f,s⟩ h
  cases h
 |block id c ih=>
  intro hz Z X Z' e k h;simp only[cD]at h⊢;cases ha:cD call cS c Z with
  |none=>simp[ha]at h
  |some x=>
   obtain⟨e1,σ1⟩:=x;obtain⟨τ1,h1,k1⟩:=ih hz k ha;rw[h1];rw[ha]at h;cases e1 with
   |exit i=>simp only at h⊢;split at h;rename_i hi;rw[if_pos hi];cases h;exact⟨_,rfl,k1⟩;rename_i hi;rw[if_neg hi];cases h;exact⟨_,rfl,k1⟩
   |_=>cases h;exact⟨_,rfl,k1⟩
 |loop c ih=>
  intro hz Z X Z' e k h;simp only[cD]at h⊢;obtain⟨n,hn⟩:=qi.1 h;have key:∀(n:Nat){Z X:St},Kn Z X->hZ n (cD call cS c) Z=some (e,Z')->∃X',hZ n (cD call cS c) X=some (e,X')/\ Kn Z' X':=by
   intro n;induction n with
   |zero=>intro Z X _ h;simp[hZ]at h
   |succ n aC=>
    intro Z X k h;cases ha:cD call cS c Z with
    |none=>simp[hZ,ha]at h
    |some x=>
     obtain⟨e1,σ1⟩:=x;obtain⟨τ1,h1,k1⟩:=ih hz k ha;cases e1 with
     |normal=>rw[Co ha]at h;rw[Co h1];exact aC k1 h
     |_=>rw[FK ha (by simp)]at h;cases h;exact⟨_,FK h1 (by simp),k1⟩
  obtain⟨X',h1,k1⟩:=key n k hn;exact⟨X',qi.2 ⟨n,h1⟩,k1⟩
 |exit id=>intro _ Z X Z' e k h;simp only[cD]at h⊢;cases h;exact⟨_,rfl,k⟩
 |ret=>intro _ Z X Z' e k h;simp only[cD]at h⊢;cases h;exact⟨_,rfl,k⟩
end
end Gi
