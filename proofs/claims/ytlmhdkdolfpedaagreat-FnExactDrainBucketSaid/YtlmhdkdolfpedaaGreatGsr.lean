/- Of this proof. -/
import Derived.Test.YtlmhdkdolfpedaaGreatGsn
set_option linter.all false
namespace Gi
open Go
section
variable {f g:List Nat}{h h':List Q0}{Z X υ:St}{call:Nat->List V->Option V}
def VU (k:Y3 f h h'){l l' x:L}(r:fK f l l')(e:dS h l=some x):dS h' l'=some x/\ l.bC f=some l':=by
 rcases r with rfl|r;cases e;refine⟨?_,r⟩;cases l with
 |arr o=>
  obtain⟨o',h1,rfl⟩:=jy r;obtain⟨ob,ob',h2,h3,h4⟩:=k.get h1;simp only[dS,h2]at e;simp only[dS,h3];cases ob with
  |arr z es=>rw[dg h4 (by simp) (by simp)];exact e
  |bG z es=>rw[dg h4 (by simp) (by simp)];exact e
  |b9 z es=>rw[dg h4 (by simp) (by simp)];exact e
  |_=>cases e
 |pv p=>simp only[L.bC]at r;cases r;exact e
 |nil=>simp only[L.bC]at r;cases r;exact e
 |_=>cases e
def BQ (k:Y3 f h h'):∀{ls ls' xs:List L},cZ f ls ls'->cV h ls=some xs->cV h' ls'=some xs/\ iD f ls ls'
 |[],[],_,_,e=>⟨e,trivial⟩
 |l::ls,l'::ls',xs,r,e=>by simp only[cV]at e⊢;split at e;rename_i x ys h1 h2;cases e;obtain⟨a1,a2⟩:=VU k r.1 h1;obtain⟨b1,b2⟩:=BQ k r.2 h2;rw[a1,b1];exact⟨rfl,a2,b2⟩;cases e
 |[],_::_,_,e,_=>e.elim
 |_::_,[],_,e,_=>e.elim
def aaq (k:Y3 f h h'){v v':V}{x:Bool×List L}(r:dQ f v v')(e:comp h v=some x):comp h' v'=some x/\ iD f v.cells v'.cells:=by
 cases v with
 |one l=>rcases r with rfl|⟨l',rfl,r⟩;cases e;simp only[comp]at e⊢;split at e;rename_i xs h1;obtain⟨a1,a2⟩:=BQ k (show cZ f [l] [l']from⟨.inr r,trivial⟩) h1;rw[a1];exact⟨e,a2⟩;cases e
 |agg ls=>obtain⟨ls',rfl,r⟩:=r;simp only[comp]at e⊢;split at e;rename_i xs h1;obtain⟨a1,a2⟩:=BQ k r h1;rw[a1];exact⟨e,a2⟩;cases e
 |b8 xs=>cases e
def LZ (k:Y3 f h h'):∀{vs vs':List V}{xs:List (Bool×List L)},dj f vs vs'->ee h vs=some xs->ee h' vs'=some xs/\ iD f (vs.flatMap V.cells) (vs'.flatMap V.cells)
 |[],[],_,_,e=>⟨e,trivial⟩
 |v::vs,v'::vs',xs,r,e=>by simp only[ee]at e⊢;split at e;rename_i x ys h1 h2;cases e;obtain⟨a1,a2⟩:=aaq k r.1 h1;obtain⟨b1,b2⟩:=LZ k r.2 h2;rw[a1,b1];exact⟨rfl,by simpa only[Y']using a2.append b2⟩;cases e
 |[],_::_,_,e,_=>e.elim
 |_::_,[],_,e,_=>e.elim
def O6 (k:Y3 f h h'):∀{ls ls':List L},iD f ls ls'->(∀o',o'∈cz ls'->∃o,o∈cz ls/\ f[o]? =some o')/\ ((cz ls).Nodup->(cz ls').Nodup)
 |[],[],_=>⟨fun o' h=>by simp[cz]at h,fun h=>h⟩
 |l::ls,l'::ls',r=>by
  obtain⟨i1,i2⟩:=O6 k r.2;have r1:=r.1;have other:(∀o,l≠ .arr o)->(∀o,l'≠ .arr o)->cz (l::ls)=cz ls/\ cz (l'::ls')=cz ls':=fun a b=>by
   constructor;cases l with
   |arr o=>exact absurd rfl (a o)
   |_=>rfl
   cases l' with
   |arr o=>exact absurd rfl (b o)
   |_=>rfl
  cases l with
  |arr o=>obtain⟨o',h1,rfl⟩:=jy r1;have ea:cz (.arr o::ls)=o::cz ls:=rfl;have eb:cz (.arr o'::ls')=o'::cz ls':=rfl;rw[ea,eb];refine⟨fun p hp=> ?_,fun nd=> ?_⟩;rcases ZF.1 hp with rfl|hp;exact⟨o,Yw,h1⟩;obtain⟨q,h2,h3⟩:=i1 p hp;exact⟨q,Ym _ h2,h3⟩;obtain⟨n1,n2⟩:=Yn.1 nd;refine Yn.2 ⟨fun hp=> ?_,i2 n2⟩;obtain⟨q,h2,h3⟩:=i1 o' hp;rw[k.inj h3 h1]at h2;exact n1 h2
  |ptr o i j=>obtain⟨o',_,rfl⟩:=j0 r1;obtain⟨ea,eb⟩:=other (by simp) (by simp);rw[ea,eb];exact⟨i1,i2⟩
  |sub o c=>obtain⟨o',_,rfl⟩:=ub r1;obtain⟨ea,eb⟩:=other (by simp) (by simp);rw[ea,eb];exact⟨i1,i2⟩
  |c5 o l q=>cases r1
  |_=>simp only[L.bC]at r1;cases r1;obtain⟨ea,eb⟩:=other (by simp) (by simp);rw[ea,eb];exact⟨i1,i2⟩
 |[],_::_,e=>e.elim
 |_::_,[],e=>e.elim
def Bj (s:Cln f Z X):∀{rs:List Z9}{vs:List V},cu Z rs=some vs->∃vs',cu X rs=some vs'/\ dj f vs vs'
 |[],vs,e=>by simp only[cu]at e⊢;cases e;exact⟨_,rfl,trivial⟩
 |r::rs,vs,e=>by
  simp only[cu]at e⊢;split at e;rename_i x xs h1 h2;cases e;obtain⟨ag,h3,h4⟩:=Bj s h2;have:∃x',eY X r=some x'/\ dQ f x x':=by
   cases r with
   |tmp t=>simp only[eY]at h1⊢;cases h1;exact⟨_,rfl,s.tmps.getD t⟩
   |cell t n=>exact Ul (call:=fun _ _=>none) (op:= .load true n (.tmp t)) s (fun _ _ _ h=>by cases h) rfl h1
  obtain⟨x',h5,h6⟩:=this;rw[h5,h3];exact⟨_,rfl,h6,h4⟩;cases e
def VN (k:Kn Z X){rs:List Z9}{r:V}(e:dd Z rs=some r):dd X rs=some r:=by
 obtain⟨f,s⟩:=k;unfold dd at e⊢;cases hr:cu Z rs with
 |none=>simp[hr]at e
 |some vs=>
  obtain⟨vs',h1,h2⟩:=Bj s hr;rw[h1];simp only[hr]at e⊢;split at e;rename_i nd;cases a6:ee Z.h vs with
  |none=>simp[a6]at e
  |some xs=>obtain⟨a1,a2⟩:=LZ s.heap h2 a6;rw[if_pos ((O6 s.heap a2).2 nd),a1];rw[a6]at e;exact e
  cases e
def yj (g f:List Nat):List Nat:=f.map fun o=>g.getD o 0
def Mj (k:Y3 f h h')(hg:g.length=h'.length){l l' a7:L}(e1:l.bC f=some l')(e2:l'.bC g=some a7):l.bC (yj g f)=some a7:=by
 have key:∀{o o' a5:Nat},f[o]? =some o'->g[o']? =some a5->(yj g f)[o]? =some a5:=fun{o o' a5}a b=>by simp only[yj,Zp,a,Qe,List.getD,b,Ys]
 cases l with
 |ptr o i j=>obtain⟨o',a,rfl⟩:=j0 e1;obtain⟨a5,b,rfl⟩:=j0 e2;simp only[L.bC,key a b]
 |arr o=>obtain⟨o',a,rfl⟩:=jy e1;obtain⟨a5,b,rfl⟩:=jy e2;simp only[L.bC,key a b]
 |sub o c=>obtain⟨o',a,rfl⟩:=ub e1;obtain⟨a5,b,rfl⟩:=ub e2;simp only[L.bC,key a b]
 |c5 o l q=>cases e1
 |_=>simp only[L.bC]at e1;cases e1;exact e2
def Rr {l:L}(e:l.bC f=some .br):l= .br:=by
 cases l with
 |ptr o i j=>obtain⟨o',a,h⟩:=j0 e;cases h
 |arr o=>obtain⟨o',a,h⟩:=jy e;cases h
 |sub o c=>obtain⟨o',a,h⟩:=ub e;cases h
 |c5 o l q=>cases e
 |br=>rfl
 |_=>simp only[L.bC]at e;cases e
def fK.trans (k:Y3 f h h')(hg:g.length=h'.length){l l' a7:L}(e1:fK f l l')(e2:fK g l' a7):fK (yj g f) l a7:=by rcases e1 with e1|e1;exact .inl e1;rcases e2 with rfl|e2;exact .inl (Rr e1);exact .inr (Mj k hg e1 e2)
def cZ.trans (k:Y3 f h h')(hg:g.length=h'.length):∀{a b c:List L},cZ f a b->cZ g b c->cZ (yj g f) a c
 |[],[],[],_,_=>trivial
 |_::_,_::_,_::_,e1,e2=>⟨e1.1.trans k hg e2.1,cZ.trans k hg e1.2 e2.2⟩
 |[],_::_,_,e,_=>e.elim
 |_::_,[],_,e,_=>e.elim
 |_,[],_::_,_,e=>e.elim
 |_,_::_,[],_,e=>e.elim
def ed.trans (k:Y3 f h h')(hg:g.length=h'.length):∀{a b c:List (Bool×List L)},ed f a b->ed g b c->ed (yj g f) a c
 |[],[],[],_,_=>trivial
 |_::_,_::_,_::_,e1,e2=>⟨e1.1.trans e2.1,e1.2.1.trans k hg e2.2.1,ed.trans k hg e1.2.2 e2.2.2⟩
 |[],_::_,_,e,_=>e.elim
 |_::_,[],_,e,_=>e.elim
 |_,[],_::_,_,e=>e.elim
 |_,_::_,[],_,e=>e.elim
def dQ.trans (k:Y3 f h h')(hg:g.length=h'.length){a b c:V}(e1:dQ f a b)(e2:dQ g b c):dQ (yj g f) a c:=by
 cases a with
 |one l=>rcases e1 with e1|⟨l',rfl,e1⟩;exact .inl e1;rcases e2 with rfl|⟨a7,rfl,e2⟩;exact .inl (Rr e1);exact .inr ⟨a7,rfl,Mj k hg e1 e2⟩
 |agg ls=>obtain⟨ls',rfl,e1⟩:=e1;obtain⟨ab,rfl,e2⟩:=e2;exact⟨_,rfl,e1.trans k hg e2⟩
 |b8 xs=>obtain⟨ls',rfl,e1⟩:=e1;obtain⟨ab,rfl,e2⟩:=e2;exact⟨_,rfl,e1.trans k hg e2⟩
def dj.trans (k:Y3 f h h')(hg:g.length=h'.length):∀{a b c:List V},dj f a b->dj g b c->dj (yj g f) a c
 |[],[],[],_,_=>trivial
 |_::_,_::_,_::_,e1,e2=>⟨e1.1.trans k hg e2.1,dj.trans k hg e1.2 e2.2⟩
 |[],_::_,_,e,_=>e.elim
 |_::_,[],_,e,_=>e.elim
 |_,[],_::_,_,e=>e.elim
 |_,_::_,[],_,e=>e.elim
def Kn.trans (a:Kn Z X)(b:Kn X υ):Kn Z υ:=by
 obtain⟨f,a⟩:=a;obtain⟨g,b⟩:=b;have hg:=b.heap.len;have ad:∀{i:Nat}{a5:Nat},(yj g f)[i]? =some a5->∃o',f[i]? =some o'/\ g[o']? =some a5:=fun{i a5}e=>by
  simp only[yj,Zp,Zl]at e;obtain⟨o',h1,h2⟩:=e;refine⟨o',h1,?_⟩;have:o'<g.length:=by rw[hg];exact a.heap.lt h1
  simp only[List.getD,Zk this,Ys]at h2;rw[Zk this,h2]
 refine⟨yj g f,⟨?_,by simp[yj,a.heap.len],fun i o ob e1 e2=> ?_⟩,a.tmps.trans a.heap hg b.tmps⟩;refine QT.2 fun i j hi hj ah e=> ?_;obtain⟨o1,h1,h2⟩:=ad (Zk hi);obtain⟨o2,h3,h4⟩:=ad (Zk hj);rw[e]at h2;have:=b.heap.inj h2 h4;subst this;exact absurd (a.heap.inj h1 h3) (by omega);obtain⟨o',h1,h2⟩:=ad e1;obtain⟨ob',h3,h4⟩:=a.heap.obs i o' ob h1 e2;obtain⟨ae,h5,h6⟩:=b.heap.obs o' o ob' h2 h3;refine⟨ae,h5,?_⟩;cases ob with
 |box cs=>obtain⟨cs',rfl,h4⟩:=h4;obtain⟨af,rfl,h6⟩:=h6;exact⟨_,rfl,h4.trans a.heap hg h6⟩
 |dead=>trivial
 |arr z es=>rw[dg h4 (by simp) (by simp)]at h6;exact h6
 |bG z es=>rw[dg h4 (by simp) (by simp)]at h6;exact h6
 |b9 z es=>rw[dg h4 (by simp) (by simp)]at h6;exact h6
 |bB z es=>rw[dg h4 (by simp) (by simp)]at h6;exact h6
 |bK ps=>rw[dg h4 (by simp) (by simp)]at h6;exact h6
 |bS n=>rw[dg h4 (by simp) (by simp)]at h6;exact h6
 |res=>rw[dg h4 (by simp) (by simp)]at h6;exact h6
def Kn.of (f:List Nat){t t':List V}{h h':List Q0}(nd:f.Nodup)(ho:dE f h' f h)(ht:dj f t t'):Kn ⟨t,h⟩ ⟨t',h'⟩:=⟨f,Cln.of f nd ho ht⟩
def Kn.r (f:List Nat){t t':List V}{h h':List Q0}(ho:dE f h' f h:=by simp[dj,dQ,cZ,fK,ed,dE,ew,L.bC])(ht:dj f t t':=by simp[dj,dQ,cZ,fK,ed,dE,ew,L.bC])(nd:f.Nodup:=by decide):Kn ⟨t,h⟩ ⟨t',h'⟩:=Kn.of f nd ho ht
end
inductive Fr where
 |sq (c:Q6)
 |bk (id:Nat)
def kz :List Fr->Bool
 |[]=>true
 | .sq c::ks=>c.bh&&kz ks
 | .bk _::ks=>kz ks
section
variable (call:Nat->List V->Option V)
def wp (Q:Ex->St->Prop):List Fr->Option (Ex×St)->Prop
 |[],some (e,Z)=>Q e Z
 | .sq c::ks,some (.normal,Z)=>wp Q ks (cD call cR c Z)
 | .sq _::ks,some (e,Z)=>wp Q ks (some (e,Z))
 | .bk id::ks,some (.exit i,Z)=>if i=id then wp Q ks (some (.normal,Z))else wp Q ks (some (.exit i,Z))
 | .bk _::ks,some (e,Z)=>wp Q ks (some (e,Z))
 |_,none=>False
end
section
variable {call:Nat->List V->Option V}{Q:Ex->St->Prop}{ks:List Fr}{Z X:St}
def eJ {e:Ex}:wp call Q [] (some (e,Z))=Q e Z:=by simp only[wp]
def eM {c:Q6}:wp call Q (.sq c::ks) (some (.normal,Z))=wp call Q ks (cD call cR c Z):=by simp only[wp]
def eP {c:Q6}:wp call Q (.sq c::ks) (some (.ret,Z))=wp call Q ks (some (.ret,Z)):=by simp only[wp]
def eO {c:Q6}{i:Nat}:wp call Q (.sq c::ks) (some (.exit i,Z))=wp call Q ks (some (.exit i,Z)):=by simp only[wp]
def eS {id:Nat}:wp call Q (.bk id::ks) (some (.normal,Z))=wp call Q ks (some (.normal,Z)):=by simp only[wp]
def eT {id:Nat}:wp call Q (.bk id::ks) (some (.ret,Z))=wp call Q ks (some (.ret,Z)):=by simp only[wp]
def eR {id i:Nat}:wp call Q (.bk id::ks) (some (.exit i,Z))=if i=id then wp call Q ks (some (.normal,Z))else wp call Q ks (some (.exit i,Z)):=by simp only[wp]
def oG :wp call Q ks none=False:=by
 cases ks with
 |nil=>simp only[wp]
 |cons k ks=>cases k<;>simp only[wp]
def wp_seq {a b:Q6}:wp call Q ks (cD call cR (.seq a b) Z)=wp call Q (.sq b::ks) (cD call cR a Z):=by
 simp only[cD];cases cD call cR a Z with
 |none=>simp only[oG]
 |some x=>obtain⟨e,Z'⟩:=x;cases e<;>simp only[eM,eP,eO]
def wp_block {id:Nat}{c:Q6}:wp call Q ks (cD call cR (.block id c) Z)=wp call Q (.bk id::ks) (cD call cR c Z):=by
 simp only[cD];cases cD call cR c Z with
 |none=>simp only[oG]
 |some x=>
  obtain⟨e,Z'⟩:=x;cases e with
  |exit i=>simp only[eR];split<;>rfl
  |_=>simp only[eS,eT]
def ul {ops:List X2}:wp call Q ks (cD call cR (.region ops) Z)=wp call Q ks (match cj call ops Z with
 |some Z'=>some (.normal,Z')
 |none=>none):=by simp only[cD];rfl
def wp_cond {c:Opd}{a b:Q6}:wp call Q ks (cD call cR (.cond c a b) Z)=wp call Q ks (match isBool (c.ev Z)with
 |some t=>if t then cD call cR a Z else cD call cR b Z
 |none=>none):=by simp only[cD];rfl
def wp_skip :wp call Q ks (cD call cR .skip Z)=wp call Q ks (some (.normal,Z)):=by simp only[cD]
def wp_exit {id:Nat}:wp call Q ks (cD call cR (.exit id) Z)=wp call Q ks (some (.exit id,Z)):=by simp only[cD]
def wp_ret :wp call Q ks (cD call cR .ret Z)=wp call Q ks (some (.ret,Z)):=by simp only[cD]
def Cl (Q:Ex->St->Prop):Prop:=∀e Z X,Kn Z X->Q e Z->Q e X
def abI (hc:vG call)(hQ:Cl Q):∀{ks:List Fr},kz ks=true->∀{e:Ex}{Z X:St},Kn Z X->wp call Q ks (some (e,Z))->wp call Q ks (some (e,X)):=by
 intro ks;induction ks with
 |nil=>intro _ e Z X k h;simp only[eJ]at h⊢;exact hQ e Z X k h
 |cons fr ks ih=>
  intro hz e Z X k h;cases fr with
  |sq c=>
   simp only[kz,Zg]at hz;cases e with
   |normal=>
    simp only[eM]at h⊢;cases hx:cD call cR c Z with
    |none=>rw[hx,oG]at h;exact h.elim
    |some x=>obtain⟨e,Z'⟩:=x;obtain⟨X',h1,k1⟩:=Ug hc hz.1 k hx;rw[hx]at h;rw[h1];exact ih hz.2 k1 h
   |exit i=>simp only[eO]at h⊢;exact ih hz.2 k h
   |ret=>simp only[eP]at h⊢;exact ih hz.2 k h
  |bk id=>
   simp only[kz]at hz;cases e with
   |normal=>simp only[eS]at h⊢;exact ih hz k h
   |ret=>simp only[eT]at h⊢;exact ih hz k h
   |exit i=>simp only[eR]at h⊢;split at h;rename_i hi;rw[if_pos hi];exact ih hz k h;rename_i hi;rw[if_neg hi];exact ih hz k h
def OK (hc:vG call)(hQ:Cl Q){c:Q6}(σ0:St)(hz:kz (.sq c::ks)=true)(k:Kn σ0 Z)(h:wp call Q ks (cD call cR c σ0)):wp call Q ks (cD call cR c Z):=by have:=abI (e:= .normal) hc hQ hz k (by rw[eM];exact h);rwa[eM]at this
variable (call)in
def adm (c:Q6)(Z:St)(e:Ex)(σe:St):Prop:=∃X,cR (cD call cR c) Z=some (e,X)/\ Kn σe X
variable (call)in
def W8 (c:Q6)(Z Z':St):Prop:=∃X,cD call cR c Z=some (.normal,X)/\ Kn Z' X
def acm (hc:vG call){c:Q6}(hz:c.bh=true){e:Ex}{Z':St}(k:Kn Z X)(h:cR (cD call cR c) Z=some (e,Z')):∃X',cR (cD call cR c) X=some (e,X')/\ Kn Z' X':=by have:=Ug (c:= .loop c) hc hz k (by simp only[cD];exact h);simpa only[cD]using this
def adm.step (hc:vG call){c:Q6}(hz:c.bh=true){Z' σe:St}{e:Ex}(s:W8 call c Z Z')(E:adm call c Z' e σe):adm call c Z e σe:=by obtain⟨X,h1,k1⟩:=s;obtain⟨τ2,h2,k2⟩:=E;obtain⟨τ3,h3,k3⟩:=acm hc hz k1 h2;exact⟨τ3,by rw[jN h1];exact h3,k2.trans k3⟩
def T1 {e:Ex}{σe:St}{x:Option (Ex×St)}(h:wp call (fun e' X=>e'=e/\ Kn σe X) [] x):∃X,x=some (e,X)/\ Kn σe X:=by
 cases x with
 |none=>rw[oG]at h;exact h.elim
 |some x=>obtain⟨e',X⟩:=x;rw[eJ]at h;obtain⟨rfl,h⟩:=h;exact⟨X,rfl,h⟩
def W8.of {c:Q6}{Z':St}(h:wp call (fun e' X=>e'= .normal/\ Kn Z' X) [] (cD call cR c Z)):W8 call c Z Z':=T1 h
def Cl.kn {e:Ex}{σe:St}:Cl (fun e' X=>e'=e/\ Kn σe X):=fun _ _ _ k h=>⟨h.1,h.2.trans k⟩
end
section
variable {Φ:Nat->Option AFn}{ext:Nat->List V->Option V}
def Fin (rs:List Z9)(r:V)(e:Ex)(Z:St):Prop:=(e= .normal \/e= .ret)/\ dd Z rs=some r
def Cl.fin {fn:List Z9}{r:V}:Cl (Fin fn r):=fun _ _ _ k h=>⟨h.1,VN k h.2⟩
def dU {fn:List Z9}{r:V}{Z:St}:Fin fn r .ret Z=(dd Z fn=some r):=by simp[Fin]
def cM {fn:List Z9}{r:V}{Z:St}:Fin fn r .normal Z=(dd Z fn=some r):=by simp[Fin]
def ca {k:Nat}{fn:AFn}{xz:List V}{r:V}(hk:Φ k=some fn)(h:wp (cf Φ ext) (Fin fn.results r) [] (cD (cf Φ ext) cR fn.body (start fn xz))):cf Φ ext k xz=some r:=by
 refine jg hk ?_;unfold iI;cases hx:cD (cf Φ ext) cR fn.body (start fn xz)with
 |none=>rw[hx,oG]at h;exact h.elim
 |some x=>obtain⟨e,Z⟩:=x;rw[hx,eJ]at h;obtain⟨h1|h1,h2⟩:=h<;>subst h1<;>exact h2
def wC {Z:St}{rs:List Z9}{r:V}(e:dd Z rs=some r):r.clean=true:=by
 unfold dd at e;split at e;cases e;rename_i vs h1;split at e;cases a6:ee Z.h vs with
 |none=>simp[a6]at e
 |some xs=>have hc:=(xF vs xs [] a6).1;rw[a6]at e;split at e;rename_i ls h2;cases h2;cases e;simpa[V.clean]using hc;rename_i l h2;cases h2;cases e;simpa[V.clean]using hc;rename_i ys h2 h3 h4;cases h4;split at e;cases e;cases e;simpa[V.clean]using hc;cases e
 cases e
def DB :∀{h:List Q0}{os:List (Bool×List L)},kD h=some os->(os.all fun x=>x.2.all L.clean)=true
 |[],os,e=>by simp only[kD]at e;cases e;rfl
 |ob::h,os,e=>by
  cases ob with
  |bB z es=>simp only[kD]at e;split at e;rename_i xs h1;cases e;simp[DB h1,L.clean];cases e
  |_=>simp[kD]at e
def Je {m:Nat}{fn:AFn}{Z:St}{r:V}(e:Lm m fn Z=some r):r.clean=true:=by unfold Lm at e;split at e;rename_i l os h1 h2;split at e;rename_i hl;cases e;have hc:=wC h1;simp only[V.clean,Zq,List.all_nil,Yj,Zg]at hc⊢;exact⟨hc,DB h2⟩;cases e;cases e
def Jd {fn:AFn}{Z:St}{r:V}(e:S3 fn Z=some r):r.clean=true:=by unfold S3 at e;split at e;split at e;cases e;simp[V.clean,L.clean];cases e;cases e
def TP (he:vG ext):vG (cf Φ ext):=by
 intro k xz r h;obtain⟨n,hn⟩:=k7.1 h;cases n with
 |zero=>simp[run]at hn
 |succ n=>
  simp only[run]at hn;split at hn;split at hn;split at hn;split at hn;unfold A5 at hn;split at hn;exact Je hn;exact Je hn;cases hn;cases hn;split at hn;split at hn;split at hn;unfold Ih at hn;split at hn;exact Jd hn;exact Jd hn;cases hn;cases hn;cases hn;cases hn;exact he k xz r hn
  ·unfold done at hn;split at hn;exact wC hn;exact wC hn;cases hn
end
inductive Mk where
 |t
 |f
def kW :List Mk->List V->List V
 | .t::m,v::vs=>v::kW m vs
 | .f::m,_::vs=> .one .br::kW m vs
 |[],vs=>vs
 |_,[]=>[]
def cY {m:List Mk}{v:V}{vs:List V}:kW (.t::m) (v::vs)=v::kW m vs:=rfl
def cW {m:List Mk}{v:V}{vs:List V}:kW (.f::m) (v::vs)= .one .br::kW m vs:=rfl
def cX {vs:List V}:kW [] vs=vs:=rfl
def qZ (t:List V):List (Nat×V)->List V
 |[]=>t
 |(i,v)::r=>qZ (t.set i v) r
def dI {t:List V}:qZ t []=t:=rfl
def it {t:List V}{i:Nat}{v:V}{r:List (Nat×V)}:qZ t ((i,v)::r)=qZ (t.set i v) r:=rfl
def yv :Q6:= .cond .nil .skip .skip
def TC {call:Nat->List V->Option V}{Z:St}:cD call cR yv Z=none:=rfl
section
variable {call:Nat->List V->Option V}{Q:Ex->St->Prop}{ks:List Fr}{Z X:St}
def abJ {x:Option (Ex×St)}(h:wp call Q (.sq yv::ks) x):∃e X,x=some (e,X)/\ e≠ .normal/\ wp call Q ks (some (e,X)):=by
 cases x with
 |none=>rw[oG]at h;exact h.elim
 |some x=>
  obtain⟨e,X⟩:=x;cases e with
  |normal=>rw[eM,TC,oG]at h;exact h.elim
  |exit i=>rw[eO]at h;exact⟨_,_,rfl,by simp,h⟩
  |ret=>rw[eP]at h;exact⟨_,_,rfl,by simp,h⟩
def xi {c:Q6}(h:wp call Q (.sq yv::ks) (cD call cR c Z)):wp call Q ks (cD call cR (.loop c) Z):=by obtain⟨e,X,h1,h2,h3⟩:=abJ h;simp only[cD];rw[lW h1 h2];exact h3
def Fq (hc:vG call)(hQ:Cl Q){c:Q6}{Z':St}(hz:(c.bh&&kz ks)=true)(s:wp call (fun e X=>e= .normal/\ Kn Z' X) [] (cD call cR c Z))(h:wp call Q ks (cD call cR (.loop c) Z')):wp call Q ks (cD call cR (.loop c) Z):=by
 obtain⟨X,h1,k1⟩:=T1 s;have aa:kz (.sq (.loop c)::ks)=true:=by simpa only[kz,Q6.bh]using hz
 have:=OK hc hQ Z' aa k1 h;simp only[cD]at this⊢;rw[jN h1];exact this
def acJ (hc:vG call)(hQ:Cl Q){c:Q6}(S:Nat->St)(n:Nat)(p:Nat->Bool)(hz:(c.bh&&kz ks)=true)(kn:Kn (S 0) Z)
 (st:∀k,k<n->p k=false->wp call (fun e X=>e= .normal/\ Kn (S (k+1)) X) [] (cD call cR c (S k)))
 (le:∀k,k<n->p k=true->(∀j,j<k->p j=false)->wp call Q (.sq yv::ks) (cD call cR c (S k)))
 (en:(∀k,k<n->p k=false)->wp call Q (.sq yv::ks) (cD call cR c (S n))):wp call Q ks (cD call cR (.loop c) Z):=by
 have key:∀m k,k+m=n->(∀j,j<k->p j=false)->wp call Q ks (cD call cR (.loop c) (S k)):=by
  intro m;induction m with
  |zero=>
   intro k hk hp;obtain rfl:k=n:=by omega
   exact xi (en hp)
  |succ m ih=>
   intro k hk hp;cases a8:p k with
   |true=>exact xi (le k (by omega) a8 hp)
   |false=>refine Fq hc hQ hz (st k (by omega) a8) (ih (k+1) (by omega) fun j hj=> ?_);by_cases q:j=k;rw[q];exact a8;exact hp j (by omega)
 have aa:kz (.sq (.loop c)::ks)=true:=by simpa only[kz,Q6.bh]using hz
 exact OK hc hQ (S 0) aa kn (key n 0 (by omega) (fun j h=>by omega))
def fB (hc:vG call)(hQ:Cl Q){c:Q6}{t:List V}{h:List Q0}(n:Nat)(m:List Mk)(U:Nat->List (Nat×V))(H:Nat->List Q0)(hz:(c.bh&&kz ks)=true)(kn:Kn ⟨qZ (kW m t) (U 0),H 0⟩ ⟨t,h⟩)
 (st:∀k,k<n->wp call (fun e X=>e= .normal/\ Kn ⟨qZ (kW m t) (U (k+1)),H (k+1)⟩ X) [] (cD call cR c ⟨qZ (kW m t) (U k),H k⟩))
 (en:wp call Q (.sq yv::ks) (cD call cR c ⟨qZ (kW m t) (U n),H n⟩)):wp call Q ks (cD call cR (.loop c) ⟨t,h⟩):=
 acJ hc hQ (fun k=>⟨qZ (kW m t) (U k),H k⟩) n (fun _=>false) hz kn (fun k hk _=>st k hk) (fun k hk hp=>by cases hp) (fun _=>en)
end
section
variable {call:Nat->List V->Option V}{Q:Ex->St->Prop}{ks:List Fr}{Z X:St}
def Tz {id:Nat}{Z:St}(h:wp call Q ks (some (.exit id,Z))):wp call Q (.sq yv::ks) (some (.exit id,Z)):=by rw[eO];exact h
def xA {c:Q6}:wp call Q ks (cD call cR (.loop c) Z)=wp call Q (.sq (.loop c)::ks) (cD call cR c Z):=by
 simp only[cD];rw[zo];cases h:cD call cR c Z with
 |none=>simp only[oG]
 |some x=>
  obtain⟨e,Z'⟩:=x;cases e with
  |normal=>simp only[eM,cD]
  |exit i=>simp only[eO]
  |ret=>simp only[eP]
def U3 (hc:vG call)(hQ:Cl Q){c:Q6}{t:List V}{h:List Q0}(n:Nat)(m:List Mk)(U:Nat->List (Nat×V))(H:Nat->List Q0)(id:Nat)(hz:(c.bh&&kz ks)=true)(kn:Kn ⟨qZ (kW m t) (U 0),H 0⟩ ⟨t,h⟩)
 (st:∀k,k<n->wp call (fun e X=>e= .normal/\ Kn ⟨qZ (kW m t) (U (k+1)),H (k+1)⟩ X) [] (cD call cR c ⟨qZ (kW m t) (U k),H k⟩))
 (en:wp call (fun e X=>e= .exit id/\ Kn ⟨qZ (kW m t) (U n),H n⟩ X) [] (cD call cR c ⟨qZ (kW m t) (U n),H n⟩))
 (rest:wp call Q ks (some (.exit id,⟨qZ (kW m t) (U n),H n⟩))):wp call Q ks (cD call cR (.loop c) ⟨t,h⟩):=by refine fB hc hQ n m U H hz kn st ?_;obtain⟨X,h1,k1⟩:=T1 en;rw[h1];refine Tz (abI hc hQ ?_ k1 rest);simp only[Zg]at hz;exact hz.2
end
def yH :List V->Nat->V
 |[],_=> .b8 []
 |v::_,0=>v
 |_::r,n+1=>yH r n
def DY :List V->Nat->V->List V
 |[],_,_=>[]
 |_::r,0,x=>x::r
 |v::r,n+1,x=>v::DY r n x
def DV :∀(t:List V)(n:Nat),t.getD n (.b8 [])=yH t n
 |[],_=>by simp[yH]
 |v::r,0=>by simp[yH]
 |v::r,n+1=>by rw[Qb,DV r n];rfl
def OH :∀(t:List V)(n:Nat)(x:V),t.set n x=DY t n x
 |[],_,_=>rfl
 |v::r,0,_=>rfl
 |v::r,n+1,x=>by rw[Yf,OH r n x];rfl
def fi {Z:St}{n:Nat}:(Opd.tmp n).ev Z=yH Z.t n:=DV _ _
def gx {Z:St}{p:PV}:(Opd.pv p).ev Z= .one (.pv p):=rfl
def fh {Z:St}:Opd.nil.ev Z= .one .nil:=rfl
def gv {Z:St}{k:Nat}:(Opd.fn k).ev Z= .one (.fn k []):=rfl
def gC {t:List V}{d:Nat}{v:V}:put t (some d) v=DY t d v:=OH _ _ _
def gB {t:List V}{v:V}:put t none v=t:=rfl
def eD {Z:St}{n:Nat}:eY Z (.tmp n)=some (yH Z.t n):=by simp only[eY,DV]
def dN {Z:St}{t n:Nat}:eY Z (.cell t n)=dM Z.h true n (yH Z.t t):=by simp only[eY,DV]
def fo {t:List V}{i:Nat}{v:V}{r:List (Nat×V)}:qZ t ((i,v)::r)=qZ (DY t i v) r:=by rw[it,OH]
section
variable {a b c d e f g h v:V}{r:List V}{n:Nat}
def sE :yH (v::r) 0=v:=rfl
def sO {x:V}:DY (v::r) 0 x=x::r:=rfl
def sF :yH (a::v::r) 1=v:=rfl
def sP {x:V}:DY (a::v::r) 1 x=a::x::r:=rfl
def sG :yH (a::b::v::r) 2=v:=rfl
def sQ {x:V}:DY (a::b::v::r) 2 x=a::b::x::r:=rfl
def sH :yH (a::b::c::v::r) 3=v:=rfl
def sR {x:V}:DY (a::b::c::v::r) 3 x=a::b::c::x::r:=rfl
def sI :yH (a::b::c::d::v::r) 4=v:=rfl
def sS {x:V}:DY (a::b::c::d::v::r) 4 x=a::b::c::d::x::r:=rfl
def sJ :yH (a::b::c::d::e::v::r) 5=v:=rfl
def sU {x:V}:DY (a::b::c::d::e::v::r) 5 x=a::b::c::d::e::x::r:=rfl
def sK :yH (a::b::c::d::e::f::v::r) 6=v:=rfl
def sV {x:V}:DY (a::b::c::d::e::f::v::r) 6 x=a::b::c::d::e::f::x::r:=rfl
def sM :yH (a::b::c::d::e::f::g::v::r) 7=v:=rfl
def sW {x:V}:DY (a::b::c::d::e::f::g::v::r) 7 x=a::b::c::d::e::f::g::x::r:=rfl
def sN :yH (a::b::c::d::e::f::g::h::r) (n+8)=yH r n:=rfl
def sX {x:V}:DY (a::b::c::d::e::f::g::h::r) (n+8) x=a::b::c::d::e::f::g::h::DY r n x:=rfl
end
section
variable {call:Nat->List V->Option V}{Q:Ex->St->Prop}{ks:List Fr}{Z X:St}
variable (call Q ks)in
def wo (ops:List X2)(Z:St):Prop:=wp call Q ks (match cj call ops Z with
 |some Z'=>some (.normal,Z')
 |none=>none)
variable (call Q ks)in
def qY (r:List X2)(d:Option Nat)(Z:St):AOp->Prop
 | .pick c a b=>match isBool (c.ev Z)with
  |some t=>if _:t=true then wo call Q ks r ⟨put Z.t d (a.ev Z),Z.h⟩else wo call Q ks r ⟨put Z.t d (b.ev Z),Z.h⟩
  |none=>False
 |op=>match dX call Z op with
  |some v=>wo call Q ks r ⟨put Z.t d v,Z.h⟩
  |none=>match eX call Z op with
   |some x=>wo call Q ks r ⟨put Z.t d x.1,x.2⟩
   |none=>False
def dk {ops:List X2}:wp call Q ks (cD call cR (.region ops) Z)=wo call Q ks ops Z:=ul
def fq :wo call Q ks [] Z=wp call Q ks (some (.normal,Z)):=rfl
def aeW {o:X2}{r:List X2}:wo call Q ks (o::r) Z=match cS call o Z with
 |some Z'=>wo call Q ks r Z'
 |none=>False:=by
 unfold wo;simp only[cj];cases cS call o Z with
 |some x=>rfl
 |none=>simp only[oG]
def abK {r:List X2}{d:Option Nat}{op:AOp}:qY call Q ks r d Z op=match(match dX call Z op with
 |some v=>some (⟨put Z.t d v,Z.h⟩:St)
 |none=>match eX call Z op with
  |some (v,h)=>some ⟨put Z.t d v,h⟩
  |none=>none)with
 |some Z'=>wo call Q ks r Z'
 |none=>False:=by
 have key:∀(f:Option V)(e:Option (V×List Q0)),(match f with
  |some v=>wo call Q ks r ⟨put Z.t d v,Z.h⟩
  |none=>match e with
   |some x=>wo call Q ks r ⟨put Z.t d x.1,x.2⟩
   |none=>False)=match(match f with
  |some v=>some (⟨put Z.t d v,Z.h⟩:St)
  |none=>match e with
   |some (v,h)=>some ⟨put Z.t d v,h⟩
   |none=>none)with
  |some Z'=>wo call Q ks r Z'
  |none=>False:=fun f e=>by
  cases f with
  |some v=>rfl
  |none=>cases e<;>rfl
 unfold qY;split;simp only[dX,eX];cases isBool (Opd.ev Z _)with
 |none=>rfl
 |some t=>cases t<;>simp
 exact key _ _
def eE {r:List X2}{d:Option Nat}{op:AOp}:wo call Q ks (⟨d,op,none⟩::r) Z=qY call Q ks r d Z op:=by rw[aeW,abK];rfl
def dO {r:List X2}{d:Option Nat}{op:AOp}{g:Nat}{w:Bool}:wo call Q ks (⟨d,op,some (g,w)⟩::r) Z=match yH Z.t g with
 | .one (.pv (.bool b))=>if _:b=w then qY call Q ks r d Z op else wo call Q ks r ⟨put Z.t d (.b8 []),Z.h⟩
 | .b8 []=>wo call Q ks r ⟨put Z.t d (.b8 []),Z.h⟩
 |_=>False:=by
 rw[aeW,<-DV];unfold cS;simp only[dy];cases Z.t.getD g (.b8 [])with
 |one l=>
  cases l with
  |pv p=>
   cases p with
   |bool b=>have e:=abK (call:=call) (Q:=Q) (ks:=ks) (Z:=Z) (r:=r) (d:=d) (op:=op);cases b<;>cases w<;>simp only[e]<;>simp<;>rfl
   |_=>rfl
  |_=>rfl
 |agg ls=>rfl
 |b8 xs=>cases xs<;>rfl
def eF {c:Opd}{a b:Q6}:wp call Q ks (cD call cR (.cond c a b) Z)=match isBool (c.ev Z)with
 |some t=>if _:t=true then wp call Q ks (cD call cR a Z)else wp call Q ks (cD call cR b Z)
 |none=>False:=by
 rw[wp_cond];cases isBool (c.ev Z)with
 |none=>simp only[oG]
 |some t=>cases t<;>simp
def U4 {P:Ex->St->Prop}{x:Option (Ex×St)}(h:wp call P [] x):∃e X,x=some (e,X)/\ P e X:=by
 cases x with
 |none=>rw[oG]at h;exact h.elim
 |some x=>exact⟨_,_,rfl,h⟩
def WT (hc:vG call)(hQ:Cl Q){c:Q6}(S:Nat->St)(n:Nat)(p:Nat->Bool)(hz:(c.bh&&kz ks)=true)(kn:Kn (S 0) Z)
 (st:∀k,k<n->(∀j,j<k->p j=false)->wp call (fun e X=>(p k=true->wp call Q (.sq yv::ks) (some (e,X)))/\ (p k=false->e= .normal/\ Kn (S (k+1)) X)) [] (cD call cR c (S k)))
 (en:(∀k,k<n->p k=false)->wp call Q (.sq yv::ks) (cD call cR c (S n))):wp call Q ks (cD call cR (.loop c) Z):=by
 have key:∀m k,k+m=n->(∀j,j<k->p j=false)->wp call Q ks (cD call cR (.loop c) (S k)):=by
  intro m;induction m with
  |zero=>
   intro k hk hp;obtain rfl:k=n:=by omega
   exact xi (en hp)
  |succ m ih=>
   intro k hk hp;obtain⟨e,X,h1,h2,h3⟩:=U4 (st k (by omega) hp);cases a8:p k with
   |true=>exact xi (by rw[h1];exact h2 a8)
   |false=>obtain⟨rfl,h4⟩:=h3 a8;refine Fq hc hQ hz (by rw[h1,eJ];exact⟨rfl,h4⟩) (ih (k+1) (by omega) fun j hj=> ?_);by_cases q:j=k;rw[q];exact a8;exact hp j (by omega)
 have aa:kz (.sq (.loop c)::ks)=true:=by simpa only[kz,Q6.bh]using hz
 exact OK hc hQ (S 0) aa kn (key n 0 (by omega) (fun j h=>by omega))
def jP (n:Nat)(p:Nat->Bool):Bool:=(List.range n).any p
def aad {n k:Nat}{p:Nat->Bool}(hk:k<n)(h:p k=true):jP n p=true:=by unfold jP;rw[List.any_eq_true];exact⟨k,by simpa using hk,h⟩
def MJ {n:Nat}{p:Nat->Bool}(h:∀k,k<n->p k=false):jP n p=false:=by unfold jP;rw[Qo];intro k hk;simp[h k (by simpa using hk)]
def tq {n:Nat}{p:Nat->Bool}(h:jP n p=false){k:Nat}(hk:k<n):p k=false:=by unfold jP at h;rw[Qo]at h;exact Bool.eq_false_iff.2 (h k (by simpa using hk))
def cP (hc:vG call)(hQ:Cl Q){c:Q6}{t:List V}{h:List Q0}(m:List Mk)(U:Nat->List (Nat×V))(n:Nat)(p:Nat->Bool)(hz:(c.bh&&kz ks)=true)(kn:Kn ⟨qZ (kW m t) (U 0),h⟩ ⟨t,h⟩)
 (st:∀k,k<n->(∀j,j<k->p j=false)->wp call (fun e X=>if _:p k=true then jP n p=true->wp call Q (.sq yv::ks) (some (e,X))else e= .normal/\ Kn ⟨qZ (kW m t) (U (k+1)),h⟩ X) [] (cD call cR c ⟨qZ (kW m t) (U k),h⟩))
 (en:(∀k,k<n->p k=false)->jP n p=false->wp call Q (.sq yv::ks) (cD call cR c ⟨qZ (kW m t) (U n),h⟩)):wp call Q ks (cD call cR (.loop c) ⟨t,h⟩):=by refine WT hc hQ (fun k=>⟨qZ (kW m t) (U k),h⟩) n p hz kn (fun k hk hp=> ?_) fun hp=>en hp (MJ hp);obtain⟨e,X,h1,h2⟩:=U4 (st k hk hp);rw[h1,eJ];split at h2;rename_i q;exact⟨fun _=>h2 (aad hk q),fun q'=>by rw[q]at q';cases q'⟩;rename_i q;exact⟨fun q'=>absurd q' q,fun _=>h2⟩
end
end Gi
