/- Of this proof. -/
import Derived.Test.YtpnolnkjijmfjaaGreatGsn
set_option linter.all false
namespace Gi
open Go
section
variable {f g:List Nat}{h h':List Q0}{Z X υ:St}{call:Nat->List V->Option V}
def Wo (k:Y3 f h h'){l l' x:L}(r:fI f l l')(e:dS h l=some x):dS h' l'=some x/\ l.bD f=some l':=by
 rcases r with rfl|r;cases e;refine⟨?_,r⟩;cases l with
 |arr o=>
  obtain⟨o',h1,rfl⟩:=jB r;obtain⟨ob,ob',h2,h3,h4⟩:=k.get h1;simp only[dS,h2]at e;simp only[dS,h3];cases ob with
  |arr z es=>rw[dk h4 (by simp) (by simp)];exact e
  |bI z es=>rw[dk h4 (by simp) (by simp)];exact e
  |bA z es=>rw[dk h4 (by simp) (by simp)];exact e
  |_=>cases e
 |pv p=>simp only[L.bD]at r;cases r;exact e
 |nil=>simp only[L.bD]at r;cases r;exact e
 |_=>cases e
def Cb (k:Y3 f h h'):∀{ls ls' xs:List L},cZ f ls ls'->cU h ls=some xs->cU h' ls'=some xs/\ iJ f ls ls'
 |[],[],_,_,e=>⟨e,trivial⟩
 |l::ls,l'::ls',xs,r,e=>by simp only[cU]at e⊢;split at e;rename_i x ys h1 h2;cases e;obtain⟨a1,a2⟩:=Wo k r.1 h1;obtain⟨b1,b2⟩:=Cb k r.2 h2;rw[a1,b1];exact⟨rfl,a2,b2⟩;cases e
 |[],_::_,_,e,_=>e.elim
 |_::_,[],_,e,_=>e.elim
def aaU (k:Y3 f h h'){v v':V}{x:Bool×List L}(r:dQ f v v')(e:comp h v=some x):comp h' v'=some x/\ iJ f v.cells v'.cells:=by
 cases v with
 |one l=>rcases r with rfl|⟨l',rfl,r⟩;cases e;simp only[comp]at e⊢;split at e;rename_i xs h1;obtain⟨a1,a2⟩:=Cb k (show cZ f [l] [l']from⟨.inr r,trivial⟩) h1;rw[a1];exact⟨e,a2⟩;cases e
 |agg ls=>obtain⟨ls',rfl,r⟩:=r;simp only[comp]at e⊢;split at e;rename_i xs h1;obtain⟨a1,a2⟩:=Cb k r h1;rw[a1];exact⟨e,a2⟩;cases e
 |b8 xs=>cases e
def Mo (k:Y3 f h h'):∀{vs vs':List V}{xs:List (Bool×List L)},dj f vs vs'->eh h vs=some xs->eh h' vs'=some xs/\ iJ f (vs.flatMap V.cells) (vs'.flatMap V.cells)
 |[],[],_,_,e=>⟨e,trivial⟩
 |v::vs,v'::vs',xs,r,e=>by simp only[eh]at e⊢;split at e;rename_i x ys h1 h2;cases e;obtain⟨a1,a2⟩:=aaU k r.1 h1;obtain⟨b1,b2⟩:=Mo k r.2 h2;rw[a1,b1];exact⟨rfl,by simpa only[Y']using a2.append b2⟩;cases e
 |[],_::_,_,e,_=>e.elim
 |_::_,[],_,e,_=>e.elim
def Px (k:Y3 f h h'):∀{ls ls':List L},iJ f ls ls'->(∀o',o'∈cz ls'->∃o,o∈cz ls/\ f[o]? =some o')/\ ((cz ls).Nodup->(cz ls').Nodup)
 |[],[],_=>⟨fun o' h=>by simp[cz]at h,fun h=>h⟩
 |l::ls,l'::ls',r=>by
  obtain⟨i1,i2⟩:=Px k r.2;have r1:=r.1;have other:(∀o,l≠ .arr o)->(∀o,l'≠ .arr o)->cz (l::ls)=cz ls/\ cz (l'::ls')=cz ls':=fun a b=>by
   constructor;cases l with
   |arr o=>exact absurd rfl (a o)
   |_=>rfl
   cases l' with
   |arr o=>exact absurd rfl (b o)
   |_=>rfl
  cases l with
  |arr o=>obtain⟨o',h1,rfl⟩:=jB r1;have ea:cz (.arr o::ls)=o::cz ls:=rfl;have eb:cz (.arr o'::ls')=o'::cz ls':=rfl;rw[ea,eb];refine⟨fun p hp=> ?_,fun nd=> ?_⟩;rcases ZG.1 hp with rfl|hp;exact⟨o,Yw,h1⟩;obtain⟨q,h2,h3⟩:=i1 p hp;exact⟨q,Ym _ h2,h3⟩;obtain⟨n1,n2⟩:=Yn.1 nd;refine Yn.2 ⟨fun hp=> ?_,i2 n2⟩;obtain⟨q,h2,h3⟩:=i1 o' hp;rw[k.inj h3 h1]at h2;exact n1 h2
  |ptr o i j=>obtain⟨o',_,rfl⟩:=j8 r1;obtain⟨ea,eb⟩:=other (by simp) (by simp);rw[ea,eb];exact⟨i1,i2⟩
  |sub o c=>obtain⟨o',_,rfl⟩:=ur r1;obtain⟨ea,eb⟩:=other (by simp) (by simp);rw[ea,eb];exact⟨i1,i2⟩
  |cB o l q=>cases r1
  |_=>simp only[L.bD]at r1;cases r1;obtain⟨ea,eb⟩:=other (by simp) (by simp);rw[ea,eb];exact⟨i1,i2⟩
 |[],_::_,e=>e.elim
 |_::_,[],e=>e.elim
def BD (s:Cln f Z X):∀{rs:List Z9}{vs:List V},cu Z rs=some vs->∃vs',cu X rs=some vs'/\ dj f vs vs'
 |[],vs,e=>by simp only[cu]at e⊢;cases e;exact⟨_,rfl,trivial⟩
 |r::rs,vs,e=>by
  simp only[cu]at e⊢;split at e;rename_i x xs h1 h2;cases e;obtain⟨ag,h3,h4⟩:=BD s h2;have:∃x',fb X r=some x'/\ dQ f x x':=by
   cases r with
   |tmp t=>simp only[fb]at h1⊢;cases h1;exact⟨_,rfl,s.tmps.getD t⟩
   |cell t n=>exact UK (call:=fun _ _=>none) (op:= .load true n (.tmp t)) s (fun _ _ _ h=>by cases h) rfl h1
  obtain⟨x',h5,h6⟩:=this;rw[h5,h3];exact⟨_,rfl,h6,h4⟩;cases e
def Wi (k:Kn Z X){rs:List Z9}{r:V}(e:dd Z rs=some r):dd X rs=some r:=by
 obtain⟨f,s⟩:=k;unfold dd at e⊢;cases hr:cu Z rs with
 |none=>simp[hr]at e
 |some vs=>
  obtain⟨vs',h1,h2⟩:=BD s hr;rw[h1];simp only[hr]at e⊢;split at e;rename_i nd;cases a6:eh Z.h vs with
  |none=>simp[a6]at e
  |some xs=>obtain⟨a1,a2⟩:=Mo s.heap h2 a6;rw[if_pos ((Px s.heap a2).2 nd),a1];rw[a6]at e;exact e
  cases e
def yD (g f:List Nat):List Nat:=f.map fun o=>g.getD o 0
def MI (k:Y3 f h h')(hg:g.length=h'.length){l l' a7:L}(e1:l.bD f=some l')(e2:l'.bD g=some a7):l.bD (yD g f)=some a7:=by
 have key:∀{o o' a5:Nat},f[o]? =some o'->g[o']? =some a5->(yD g f)[o]? =some a5:=fun{o o' a5}a b=>by simp only[yD,Zp,a,Qe,List.getD,b,Ys]
 cases l with
 |ptr o i j=>obtain⟨o',a,rfl⟩:=j8 e1;obtain⟨a5,b,rfl⟩:=j8 e2;simp only[L.bD,key a b]
 |arr o=>obtain⟨o',a,rfl⟩:=jB e1;obtain⟨a5,b,rfl⟩:=jB e2;simp only[L.bD,key a b]
 |sub o c=>obtain⟨o',a,rfl⟩:=ur e1;obtain⟨a5,b,rfl⟩:=ur e2;simp only[L.bD,key a b]
 |cB o l q=>cases e1
 |_=>simp only[L.bD]at e1;cases e1;exact e2
def RU {l:L}(e:l.bD f=some .bw):l= .bw:=by
 cases l with
 |ptr o i j=>obtain⟨o',a,h⟩:=j8 e;cases h
 |arr o=>obtain⟨o',a,h⟩:=jB e;cases h
 |sub o c=>obtain⟨o',a,h⟩:=ur e;cases h
 |cB o l q=>cases e
 |bw=>rfl
 |_=>simp only[L.bD]at e;cases e
def fI.trans (k:Y3 f h h')(hg:g.length=h'.length){l l' a7:L}(e1:fI f l l')(e2:fI g l' a7):fI (yD g f) l a7:=by rcases e1 with e1|e1;exact .inl e1;rcases e2 with rfl|e2;exact .inl (RU e1);exact .inr (MI k hg e1 e2)
def cZ.trans (k:Y3 f h h')(hg:g.length=h'.length):∀{a b c:List L},cZ f a b->cZ g b c->cZ (yD g f) a c
 |[],[],[],_,_=>trivial
 |_::_,_::_,_::_,e1,e2=>⟨e1.1.trans k hg e2.1,cZ.trans k hg e1.2 e2.2⟩
 |[],_::_,_,e,_=>e.elim
 |_::_,[],_,e,_=>e.elim
 |_,[],_::_,_,e=>e.elim
 |_,_::_,[],_,e=>e.elim
def ed.trans (k:Y3 f h h')(hg:g.length=h'.length):∀{a b c:List (Bool×List L)},ed f a b->ed g b c->ed (yD g f) a c
 |[],[],[],_,_=>trivial
 |_::_,_::_,_::_,e1,e2=>⟨e1.1.trans e2.1,e1.2.1.trans k hg e2.2.1,ed.trans k hg e1.2.2 e2.2.2⟩
 |[],_::_,_,e,_=>e.elim
 |_::_,[],_,e,_=>e.elim
 |_,[],_::_,_,e=>e.elim
 |_,_::_,[],_,e=>e.elim
def dQ.trans (k:Y3 f h h')(hg:g.length=h'.length){a b c:V}(e1:dQ f a b)(e2:dQ g b c):dQ (yD g f) a c:=by
 cases a with
 |one l=>rcases e1 with e1|⟨l',rfl,e1⟩;exact .inl e1;rcases e2 with rfl|⟨a7,rfl,e2⟩;exact .inl (RU e1);exact .inr ⟨a7,rfl,MI k hg e1 e2⟩
 |agg ls=>obtain⟨ls',rfl,e1⟩:=e1;obtain⟨ab,rfl,e2⟩:=e2;exact⟨_,rfl,e1.trans k hg e2⟩
 |b8 xs=>obtain⟨ls',rfl,e1⟩:=e1;obtain⟨ab,rfl,e2⟩:=e2;exact⟨_,rfl,e1.trans k hg e2⟩
def dj.trans (k:Y3 f h h')(hg:g.length=h'.length):∀{a b c:List V},dj f a b->dj g b c->dj (yD g f) a c
 |[],[],[],_,_=>trivial
 |_::_,_::_,_::_,e1,e2=>⟨e1.1.trans k hg e2.1,dj.trans k hg e1.2 e2.2⟩
 |[],_::_,_,e,_=>e.elim
 |_::_,[],_,e,_=>e.elim
 |_,[],_::_,_,e=>e.elim
 |_,_::_,[],_,e=>e.elim
def Kn.trans (a:Kn Z X)(b:Kn X υ):Kn Z υ:=by
 obtain⟨f,a⟩:=a;obtain⟨g,b⟩:=b;have hg:=b.heap.len;have ad:∀{i:Nat}{a5:Nat},(yD g f)[i]? =some a5->∃o',f[i]? =some o'/\ g[o']? =some a5:=fun{i a5}e=>by
  simp only[yD,Zp,Zl]at e;obtain⟨o',h1,h2⟩:=e;refine⟨o',h1,?_⟩;have:o'<g.length:=by rw[hg];exact a.heap.lt h1
  simp only[List.getD,Zj this,Ys]at h2;rw[Zj this,h2]
 refine⟨yD g f,⟨?_,by simp[yD,a.heap.len],fun i o ob e1 e2=> ?_⟩,a.tmps.trans a.heap hg b.tmps⟩;refine QU.2 fun i j hi hj ah e=> ?_;obtain⟨o1,h1,h2⟩:=ad (Zj hi);obtain⟨o2,h3,h4⟩:=ad (Zj hj);rw[e]at h2;have:=b.heap.inj h2 h4;subst this;exact absurd (a.heap.inj h1 h3) (by omega);obtain⟨o',h1,h2⟩:=ad e1;obtain⟨ob',h3,h4⟩:=a.heap.obs i o' ob h1 e2;obtain⟨ae,h5,h6⟩:=b.heap.obs o' o ob' h2 h3;refine⟨ae,h5,?_⟩;cases ob with
 |box cs=>obtain⟨cs',rfl,h4⟩:=h4;obtain⟨af,rfl,h6⟩:=h6;exact⟨_,rfl,h4.trans a.heap hg h6⟩
 |dead=>trivial
 |arr z es=>rw[dk h4 (by simp) (by simp)]at h6;exact h6
 |bI z es=>rw[dk h4 (by simp) (by simp)]at h6;exact h6
 |bA z es=>rw[dk h4 (by simp) (by simp)]at h6;exact h6
 |bC z es=>rw[dk h4 (by simp) (by simp)]at h6;exact h6
 |bM ps=>rw[dk h4 (by simp) (by simp)]at h6;exact h6
 |bU n=>rw[dk h4 (by simp) (by simp)]at h6;exact h6
 |res=>rw[dk h4 (by simp) (by simp)]at h6;exact h6
def Kn.of (f:List Nat){t t':List V}{h h':List Q0}(nd:f.Nodup)(ho:dH f h' f h)(ht:dj f t t'):Kn ⟨t,h⟩ ⟨t',h'⟩:=⟨f,Cln.of f nd ho ht⟩
def Kn.r (f:List Nat){t t':List V}{h h':List Q0}(ho:dH f h' f h:=by simp[dj,dQ,cZ,fI,ed,dH,eB,L.bD])(ht:dj f t t':=by simp[dj,dQ,cZ,fI,ed,dH,eB,L.bD])(nd:f.Nodup:=by decide):Kn ⟨t,h⟩ ⟨t',h'⟩:=Kn.of f nd ho ht
end
inductive Fr where
 |sq (c:Q7)
 |bk (id:Nat)
def kz :List Fr->Bool
 |[]=>true
 | .sq c::ks=>c.bn&&kz ks
 | .bk _::ks=>kz ks
section
variable (call:Nat->List V->Option V)
def wp (Q:Ex->St->Prop):List Fr->Option (Ex×St)->Prop
 |[],some (e,Z)=>Q e Z
 | .sq c::ks,some (.normal,Z)=>wp Q ks (cD call cS c Z)
 | .sq _::ks,some (e,Z)=>wp Q ks (some (e,Z))
 | .bk id::ks,some (.exit i,Z)=>if i=id then wp Q ks (some (.normal,Z))else wp Q ks (some (.exit i,Z))
 | .bk _::ks,some (e,Z)=>wp Q ks (some (e,Z))
 |_,none=>False
end
section
variable {call:Nat->List V->Option V}{Q:Ex->St->Prop}{ks:List Fr}{Z X:St}
def eG {e:Ex}:wp call Q [] (some (e,Z))=Q e Z:=by simp only[wp]
def eM {c:Q7}:wp call Q (.sq c::ks) (some (.normal,Z))=wp call Q ks (cD call cS c Z):=by simp only[wp]
def eP {c:Q7}:wp call Q (.sq c::ks) (some (.ret,Z))=wp call Q ks (some (.ret,Z)):=by simp only[wp]
def eN {c:Q7}{i:Nat}:wp call Q (.sq c::ks) (some (.exit i,Z))=wp call Q ks (some (.exit i,Z)):=by simp only[wp]
def eT {id:Nat}:wp call Q (.bk id::ks) (some (.normal,Z))=wp call Q ks (some (.normal,Z)):=by simp only[wp]
def eU {id:Nat}:wp call Q (.bk id::ks) (some (.ret,Z))=wp call Q ks (some (.ret,Z)):=by simp only[wp]
def eS {id i:Nat}:wp call Q (.bk id::ks) (some (.exit i,Z))=if i=id then wp call Q ks (some (.normal,Z))else wp call Q ks (some (.exit i,Z)):=by simp only[wp]
def oO :wp call Q ks none=False:=by
 cases ks with
 |nil=>simp only[wp]
 |cons k ks=>cases k<;>simp only[wp]
def wp_seq {a b:Q7}:wp call Q ks (cD call cS (.seq a b) Z)=wp call Q (.sq b::ks) (cD call cS a Z):=by
 simp only[cD];cases cD call cS a Z with
 |none=>simp only[oO]
 |some x=>obtain⟨e,Z'⟩:=x;cases e<;>simp only[eM,eP,eN]
def wp_block {id:Nat}{c:Q7}:wp call Q ks (cD call cS (.block id c) Z)=wp call Q (.bk id::ks) (cD call cS c Z):=by
 simp only[cD];cases cD call cS c Z with
 |none=>simp only[oO]
 |some x=>
  obtain⟨e,Z'⟩:=x;cases e with
  |exit i=>simp only[eS];split<;>rfl
  |_=>simp only[eT,eU]
def uC {ops:List X2}:wp call Q ks (cD call cS (.region ops) Z)=wp call Q ks (match cj call ops Z with
 |some Z'=>some (.normal,Z')
 |none=>none):=by simp only[cD];rfl
def wp_cond {c:Opd}{a b:Q7}:wp call Q ks (cD call cS (.cond c a b) Z)=wp call Q ks (match isBool (c.ev Z)with
 |some t=>if t then cD call cS a Z else cD call cS b Z
 |none=>none):=by simp only[cD];rfl
def wp_skip :wp call Q ks (cD call cS .skip Z)=wp call Q ks (some (.normal,Z)):=by simp only[cD]
def wp_exit {id:Nat}:wp call Q ks (cD call cS (.exit id) Z)=wp call Q ks (some (.exit id,Z)):=by simp only[cD]
def wp_ret :wp call Q ks (cD call cS .ret Z)=wp call Q ks (some (.ret,Z)):=by simp only[cD]
def Cl (Q:Ex->St->Prop):Prop:=∀e Z X,Kn Z X->Q e Z->Q e X
def acd (hc:vU call)(hQ:Cl Q):∀{ks:List Fr},kz ks=true->∀{e:Ex}{Z X:St},Kn Z X->wp call Q ks (some (e,Z))->wp call Q ks (some (e,X)):=by
 intro ks;induction ks with
 |nil=>intro _ e Z X k h;simp only[eG]at h⊢;exact hQ e Z X k h
 |cons fr ks ih=>
  intro hz e Z X k h;cases fr with
  |sq c=>
   simp only[kz,Zg]at hz;cases e with
   |normal=>
    simp only[eM]at h⊢;cases hx:cD call cS c Z with
    |none=>rw[hx,oO]at h;exact h.elim
    |some x=>obtain⟨e,Z'⟩:=x;obtain⟨X',h1,k1⟩:=UF hc hz.1 k hx;rw[hx]at h;rw[h1];exact ih hz.2 k1 h
   |exit i=>simp only[eN]at h⊢;exact ih hz.2 k h
   |ret=>simp only[eP]at h⊢;exact ih hz.2 k h
  |bk id=>
   simp only[kz]at hz;cases e with
   |normal=>simp only[eT]at h⊢;exact ih hz k h
   |ret=>simp only[eU]at h⊢;exact ih hz k h
   |exit i=>simp only[eS]at h⊢;split at h;rename_i hi;rw[if_pos hi];exact ih hz k h;rename_i hi;rw[if_neg hi];exact ih hz k h
def Pf (hc:vU call)(hQ:Cl Q){c:Q7}(σ0:St)(hz:kz (.sq c::ks)=true)(k:Kn σ0 Z)(h:wp call Q ks (cD call cS c σ0)):wp call Q ks (cD call cS c Z):=by have:=acd (e:= .normal) hc hQ hz k (by rw[eM];exact h);rwa[eM]at this
variable (call)in
def adX (c:Q7)(Z:St)(e:Ex)(σe:St):Prop:=∃X,cS (cD call cS c) Z=some (e,X)/\ Kn σe X
variable (call)in
def aaC (c:Q7)(Z Z':St):Prop:=∃X,cD call cS c Z=some (.normal,X)/\ Kn Z' X
def acV (hc:vU call){c:Q7}(hz:c.bn=true){e:Ex}{Z':St}(k:Kn Z X)(h:cS (cD call cS c) Z=some (e,Z')):∃X',cS (cD call cS c) X=some (e,X')/\ Kn Z' X':=by have:=UF (c:= .loop c) hc hz k (by simp only[cD];exact h);simpa only[cD]using this
def adX.step (hc:vU call){c:Q7}(hz:c.bn=true){Z' σe:St}{e:Ex}(s:aaC call c Z Z')(E:adX call c Z' e σe):adX call c Z e σe:=by obtain⟨X,h1,k1⟩:=s;obtain⟨τ2,h2,k2⟩:=E;obtain⟨τ3,h3,k3⟩:=acV hc hz k1 h2;exact⟨τ3,by rw[jR h1];exact h3,k2.trans k3⟩
def Uo {e:Ex}{σe:St}{x:Option (Ex×St)}(h:wp call (fun e' X=>e'=e/\ Kn σe X) [] x):∃X,x=some (e,X)/\ Kn σe X:=by
 cases x with
 |none=>rw[oO]at h;exact h.elim
 |some x=>obtain⟨e',X⟩:=x;rw[eG]at h;obtain⟨rfl,h⟩:=h;exact⟨X,rfl,h⟩
def aaC.of {c:Q7}{Z':St}(h:wp call (fun e' X=>e'= .normal/\ Kn Z' X) [] (cD call cS c Z)):aaC call c Z Z':=Uo h
def Cl.kn {e:Ex}{σe:St}:Cl (fun e' X=>e'=e/\ Kn σe X):=fun _ _ _ k h=>⟨h.1,h.2.trans k⟩
end
section
variable {Φ:Nat->Option AFn}{ext:Nat->List V->Option V}
def Fin (rs:List Z9)(r:V)(e:Ex)(Z:St):Prop:=(e= .normal \/e= .ret)/\ dd Z rs=some r
def Cl.fin {fn:List Z9}{r:V}:Cl (Fin fn r):=fun _ _ _ k h=>⟨h.1,Wi k h.2⟩
def dV {fn:List Z9}{r:V}{Z:St}:Fin fn r .ret Z=(dd Z fn=some r):=by simp[Fin]
def cM {fn:List Z9}{r:V}{Z:St}:Fin fn r .normal Z=(dd Z fn=some r):=by simp[Fin]
def ca {k:Nat}{fn:AFn}{xz:List V}{r:V}(hk:Φ k=some fn)(h:wp (cf Φ ext) (Fin fn.results r) [] (cD (cf Φ ext) cS fn.body (start fn xz))):cf Φ ext k xz=some r:=by
 refine j0 hk ?_;unfold iN;cases hx:cD (cf Φ ext) cS fn.body (start fn xz)with
 |none=>rw[hx,oO]at h;exact h.elim
 |some x=>obtain⟨e,Z⟩:=x;rw[hx,eG]at h;obtain⟨h1|h1,h2⟩:=h<;>subst h1<;>exact h2
def wW {Z:St}{rs:List Z9}{r:V}(e:dd Z rs=some r):r.clean=true:=by
 unfold dd at e;split at e;cases e;rename_i vs h1;split at e;cases a6:eh Z.h vs with
 |none=>simp[a6]at e
 |some xs=>have hc:=(xX vs xs [] a6).1;rw[a6]at e;split at e;rename_i ls h2;cases h2;cases e;simpa[V.clean]using hc;rename_i l h2;cases h2;cases e;simpa[V.clean]using hc;rename_i ys h2 h3 h4;cases h4;split at e;cases e;cases e;simpa[V.clean]using hc;cases e
 cases e
def DV :∀{h:List Q0}{os:List (Bool×List L)},kJ h=some os->(os.all fun x=>x.2.all L.clean)=true
 |[],os,e=>by simp only[kJ]at e;cases e;rfl
 |ob::h,os,e=>by
  cases ob with
  |bC z es=>simp only[kJ]at e;split at e;rename_i xs h1;cases e;simp[DV h1,L.clean];cases e
  |_=>simp[kJ]at e
def Jz {m:Nat}{fn:AFn}{Z:St}{r:V}(e:LL m fn Z=some r):r.clean=true:=by unfold LL at e;split at e;rename_i l os h1 h2;split at e;rename_i hl;cases e;have hc:=wW h1;simp only[V.clean,Zq,List.all_nil,Yk,Zg]at hc⊢;exact⟨hc,DV h2⟩;cases e;cases e
def Jy {fn:AFn}{Z:St}{r:V}(e:Ts fn Z=some r):r.clean=true:=by unfold Ts at e;split at e;split at e;cases e;simp[V.clean,L.clean];cases e;cases e
def Ub (he:vU ext):vU (cf Φ ext):=by
 intro k xz r h;obtain⟨n,hn⟩:=lu.1 h;cases n with
 |zero=>simp[run]at hn
 |succ n=>
  simp only[run]at hn;split at hn;split at hn;split at hn;split at hn;unfold Bp at hn;split at hn;exact Jz hn;exact Jz hn;cases hn;cases hn;split at hn;split at hn;split at hn;unfold ID at hn;split at hn;exact Jy hn;exact Jy hn;cases hn;cases hn;cases hn;cases hn;exact he k xz r hn
  ·unfold done at hn;split at hn;exact wW hn;exact wW hn;cases hn
end
inductive Mk where
 |t
 |f
def lc :List Mk->List V->List V
 | .t::m,v::vs=>v::lc m vs
 | .f::m,_::vs=> .one .bw::lc m vs
 |[],vs=>vs
 |_,[]=>[]
def cX {m:List Mk}{v:V}{vs:List V}:lc (.t::m) (v::vs)=v::lc m vs:=rfl
def cV {m:List Mk}{v:V}{vs:List V}:lc (.f::m) (v::vs)= .one .bw::lc m vs:=rfl
def cW {vs:List V}:lc [] vs=vs:=rfl
def rq (t:List V):List (Nat×V)->List V
 |[]=>t
 |(i,v)::r=>rq (t.set i v) r
def dI {t:List V}:rq t []=t:=rfl
def iv {t:List V}{i:Nat}{v:V}{r:List (Nat×V)}:rq t ((i,v)::r)=rq (t.set i v) r:=rfl
def yP :Q7:= .cond .nil .skip .skip
def TZ {call:Nat->List V->Option V}{Z:St}:cD call cS yP Z=none:=rfl
section
variable {call:Nat->List V->Option V}{Q:Ex->St->Prop}{ks:List Fr}{Z X:St}
def ace {x:Option (Ex×St)}(h:wp call Q (.sq yP::ks) x):∃e X,x=some (e,X)/\ e≠ .normal/\ wp call Q ks (some (e,X)):=by
 cases x with
 |none=>rw[oO]at h;exact h.elim
 |some x=>
  obtain⟨e,X⟩:=x;cases e with
  |normal=>rw[eM,TZ,oO]at h;exact h.elim
  |exit i=>rw[eN]at h;exact⟨_,_,rfl,by simp,h⟩
  |ret=>rw[eP]at h;exact⟨_,_,rfl,by simp,h⟩
def xA {c:Q7}(h:wp call Q (.sq yP::ks) (cD call cS c Z)):wp call Q ks (cD call cS (.loop c) Z):=by obtain⟨e,X,h1,h2,h3⟩:=ace h;simp only[cD];rw[mf h1 h2];exact h3
def FL (hc:vU call)(hQ:Cl Q){c:Q7}{Z':St}(hz:(c.bn&&kz ks)=true)(s:wp call (fun e X=>e= .normal/\ Kn Z' X) [] (cD call cS c Z))(h:wp call Q ks (cD call cS (.loop c) Z')):wp call Q ks (cD call cS (.loop c) Z):=by
 obtain⟨X,h1,k1⟩:=Uo s;have aa:kz (.sq (.loop c)::ks)=true:=by simpa only[kz,Q7.bn]using hz
 have:=Pf hc hQ Z' aa k1 h;simp only[cD]at this⊢;rw[jR h1];exact this
def adj (hc:vU call)(hQ:Cl Q){c:Q7}(S:Nat->St)(n:Nat)(p:Nat->Bool)(hz:(c.bn&&kz ks)=true)(kn:Kn (S 0) Z)
 (st:∀k,k<n->p k=false->wp call (fun e X=>e= .normal/\ Kn (S (k+1)) X) [] (cD call cS c (S k)))
 (le:∀k,k<n->p k=true->(∀j,j<k->p j=false)->wp call Q (.sq yP::ks) (cD call cS c (S k)))
 (en:(∀k,k<n->p k=false)->wp call Q (.sq yP::ks) (cD call cS c (S n))):wp call Q ks (cD call cS (.loop c) Z):=by
 have key:∀m k,k+m=n->(∀j,j<k->p j=false)->wp call Q ks (cD call cS (.loop c) (S k)):=by
  intro m;induction m with
  |zero=>
   intro k hk hp;obtain rfl:k=n:=by omega
   exact xA (en hp)
  |succ m ih=>
   intro k hk hp;cases a8:p k with
   |true=>exact xA (le k (by omega) a8 hp)
   |false=>refine FL hc hQ hz (st k (by omega) a8) (ih (k+1) (by omega) fun j hj=> ?_);by_cases q:j=k;rw[q];exact a8;exact hp j (by omega)
 have aa:kz (.sq (.loop c)::ks)=true:=by simpa only[kz,Q7.bn]using hz
 exact Pf hc hQ (S 0) aa kn (key n 0 (by omega) (fun j h=>by omega))
def eX (hc:vU call)(hQ:Cl Q){c:Q7}{t:List V}{h:List Q0}(n:Nat)(m:List Mk)(U:Nat->List (Nat×V))(H:Nat->List Q0)(hz:(c.bn&&kz ks)=true)(kn:Kn ⟨rq (lc m t) (U 0),H 0⟩ ⟨t,h⟩)
 (st:∀k,k<n->wp call (fun e X=>e= .normal/\ Kn ⟨rq (lc m t) (U (k+1)),H (k+1)⟩ X) [] (cD call cS c ⟨rq (lc m t) (U k),H k⟩))
 (en:wp call Q (.sq yP::ks) (cD call cS c ⟨rq (lc m t) (U n),H n⟩)):wp call Q ks (cD call cS (.loop c) ⟨t,h⟩):=
 adj hc hQ (fun k=>⟨rq (lc m t) (U k),H k⟩) n (fun _=>false) hz kn (fun k hk _=>st k hk) (fun k hk hp=>by cases hp) (fun _=>en)
end
section
variable {call:Nat->List V->Option V}{Q:Ex->St->Prop}{ks:List Fr}{Z X:St}
def TY {id:Nat}{Z:St}(h:wp call Q ks (some (.exit id,Z))):wp call Q (.sq yP::ks) (some (.exit id,Z)):=by rw[eN];exact h
def xS {c:Q7}:wp call Q ks (cD call cS (.loop c) Z)=wp call Q (.sq (.loop c)::ks) (cD call cS c Z):=by
 simp only[cD];rw[zJ];cases h:cD call cS c Z with
 |none=>simp only[oO]
 |some x=>
  obtain⟨e,Z'⟩:=x;cases e with
  |normal=>simp only[eM,cD]
  |exit i=>simp only[eN]
  |ret=>simp only[eP]
def Vw (hc:vU call)(hQ:Cl Q){c:Q7}{t:List V}{h:List Q0}(n:Nat)(m:List Mk)(U:Nat->List (Nat×V))(H:Nat->List Q0)(id:Nat)(hz:(c.bn&&kz ks)=true)(kn:Kn ⟨rq (lc m t) (U 0),H 0⟩ ⟨t,h⟩)
 (st:∀k,k<n->wp call (fun e X=>e= .normal/\ Kn ⟨rq (lc m t) (U (k+1)),H (k+1)⟩ X) [] (cD call cS c ⟨rq (lc m t) (U k),H k⟩))
 (en:wp call (fun e X=>e= .exit id/\ Kn ⟨rq (lc m t) (U n),H n⟩ X) [] (cD call cS c ⟨rq (lc m t) (U n),H n⟩))
 (rest:wp call Q ks (some (.exit id,⟨rq (lc m t) (U n),H n⟩))):wp call Q ks (cD call cS (.loop c) ⟨t,h⟩):=by refine eX hc hQ n m U H hz kn st ?_;obtain⟨X,h1,k1⟩:=Uo en;rw[h1];refine TY (acd hc hQ ?_ k1 rest);simp only[Zg]at hz;exact hz.2
end
def yZ :List V->Nat->V
 |[],_=> .b8 []
 |v::_,0=>v
 |_::r,n+1=>yZ r n
def Ei :List V->Nat->V->List V
 |[],_,_=>[]
 |_::r,0,x=>x::r
 |v::r,n+1,x=>v::Ei r n x
def Ef :∀(t:List V)(n:Nat),t.getD n (.b8 [])=yZ t n
 |[],_=>by simp[yZ]
 |v::r,0=>by simp[yZ]
 |v::r,n+1=>by rw[Qb,Ef r n];rfl
def Pa :∀(t:List V)(n:Nat)(x:V),t.set n x=Ei t n x
 |[],_,_=>rfl
 |v::r,0,_=>rfl
 |v::r,n+1,x=>by rw[Yf,Pa r n x];rfl
def fh {Z:St}{n:Nat}:(Opd.tmp n).ev Z=yZ Z.t n:=Ef _ _
def gj {Z:St}{p:PV}:(Opd.pv p).ev Z= .one (.pv p):=rfl
def fg {Z:St}:Opd.nil.ev Z= .one .nil:=rfl
def gi {Z:St}{k:Nat}:(Opd.fn k).ev Z= .one (.fn k []):=rfl
def gr {t:List V}{d:Nat}{v:V}:put t (some d) v=Ei t d v:=Pa _ _ _
def gq {t:List V}{v:V}:put t none v=t:=rfl
def eC {Z:St}{n:Nat}:fb Z (.tmp n)=some (yZ Z.t n):=by simp only[fb,Ef]
def dN {Z:St}{t n:Nat}:fb Z (.cell t n)=dP Z.h true n (yZ Z.t t):=by simp only[fb,Ef]
def fm {t:List V}{i:Nat}{v:V}{r:List (Nat×V)}:rq t ((i,v)::r)=rq (Ei t i v) r:=by rw[iv,Pa]
section
variable {a b c d e f g h v:V}{r:List V}{n:Nat}
def rB :yZ (v::r) 0=v:=rfl
def rY {x:V}:Ei (v::r) 0 x=x::r:=rfl
def rE :yZ (a::v::r) 1=v:=rfl
def rZ {x:V}:Ei (a::v::r) 1 x=a::x::r:=rfl
def rH :yZ (a::b::v::r) 2=v:=rfl
def r8 {x:V}:Ei (a::b::v::r) 2 x=a::b::x::r:=rfl
def rI :yZ (a::b::c::v::r) 3=v:=rfl
def r9 {x:V}:Ei (a::b::c::v::r) 3 x=a::b::c::x::r:=rfl
def rJ :yZ (a::b::c::d::v::r) 4=v:=rfl
def sa {x:V}:Ei (a::b::c::d::v::r) 4 x=a::b::c::d::x::r:=rfl
def rS :yZ (a::b::c::d::e::v::r) 5=v:=rfl
def sd {x:V}:Ei (a::b::c::d::e::v::r) 5 x=a::b::c::d::e::x::r:=rfl
def rU :yZ (a::b::c::d::e::f::v::r) 6=v:=rfl
def se {x:V}:Ei (a::b::c::d::e::f::v::r) 6 x=a::b::c::d::e::f::x::r:=rfl
def rV :yZ (a::b::c::d::e::f::g::v::r) 7=v:=rfl
def sf {x:V}:Ei (a::b::c::d::e::f::g::v::r) 7 x=a::b::c::d::e::f::g::x::r:=rfl
def rW :yZ (a::b::c::d::e::f::g::h::r) (n+8)=yZ r n:=rfl
def sh {x:V}:Ei (a::b::c::d::e::f::g::h::r) (n+8) x=a::b::c::d::e::f::g::h::Ei r n x:=rfl
end
section
variable {call:Nat->List V->Option V}{Q:Ex->St->Prop}{ks:List Fr}{Z X:St}
variable (call Q ks)in
def wo (ops:List X2)(Z:St):Prop:=wp call Q ks (match cj call ops Z with
 |some Z'=>some (.normal,Z')
 |none=>none)
variable (call Q ks)in
def qt (r:List X2)(d:Option Nat)(Z:St):AOp->Prop
 | .pick c a b=>match isBool (c.ev Z)with
  |some t=>if _:t=true then wo call Q ks r ⟨put Z.t d (a.ev Z),Z.h⟩else wo call Q ks r ⟨put Z.t d (b.ev Z),Z.h⟩
  |none=>False
 |op=>match dY call Z op with
  |some v=>wo call Q ks r ⟨put Z.t d v,Z.h⟩
  |none=>match fa call Z op with
   |some x=>wo call Q ks r ⟨put Z.t d x.1,x.2⟩
   |none=>False
def dh {ops:List X2}:wp call Q ks (cD call cS (.region ops) Z)=wo call Q ks ops Z:=uC
def fo :wo call Q ks [] Z=wp call Q ks (some (.normal,Z)):=rfl
def afx {o:X2}{r:List X2}:wo call Q ks (o::r) Z=match cT call o Z with
 |some Z'=>wo call Q ks r Z'
 |none=>False:=by
 unfold wo;simp only[cj];cases cT call o Z with
 |some x=>rfl
 |none=>simp only[oO]
def acf {r:List X2}{d:Option Nat}{op:AOp}:qt call Q ks r d Z op=match(match dY call Z op with
 |some v=>some (⟨put Z.t d v,Z.h⟩:St)
 |none=>match fa call Z op with
  |some (v,h)=>some ⟨put Z.t d v,h⟩
  |none=>none)with
 |some Z'=>wo call Q ks r Z'
 |none=>False:=by
 have key:∀(f:Option V)(e:Option (V×List Q0)),(match f with
  |some v=>wo call Q ks r ⟨put Z.t d v,Z.h⟩
  |none=>match e with
   |some x=>wo call Q ks r ⟨put Z.t d x.1,x.2⟩
   |none=>False)=match(match f with
  |some v=>some (⟨put Z.t d v,Z.h⟩:St)
  |none=>match e with
   |some (v,h)=>some ⟨put Z.t d v,h⟩
   |none=>none)with
  |some Z'=>wo call Q ks r Z'
  |none=>False:=fun f e=>by
  cases f with
  |some v=>rfl
  |none=>cases e<;>rfl
 unfold qt;split;simp only[dY,fa];cases isBool (Opd.ev Z _)with
 |none=>rfl
 |some t=>cases t<;>simp
 exact key _ _
def eD {r:List X2}{d:Option Nat}{op:AOp}:wo call Q ks (⟨d,op,none⟩::r) Z=qt call Q ks r d Z op:=by rw[afx,acf];rfl
def dO {r:List X2}{d:Option Nat}{op:AOp}{g:Nat}{w:Bool}:wo call Q ks (⟨d,op,some (g,w)⟩::r) Z=match yZ Z.t g with
 | .one (.pv (.bool b))=>if _:b=w then qt call Q ks r d Z op else wo call Q ks r ⟨put Z.t d (.b8 []),Z.h⟩
 | .b8 []=>wo call Q ks r ⟨put Z.t d (.b8 []),Z.h⟩
 |_=>False:=by
 rw[afx,<-Ef];unfold cT;simp only[dG];cases Z.t.getD g (.b8 [])with
 |one l=>
  cases l with
  |pv p=>
   cases p with
   |bool b=>have e:=acf (call:=call) (Q:=Q) (ks:=ks) (Z:=Z) (r:=r) (d:=d) (op:=op);cases b<;>cases w<;>simp only[e]<;>simp<;>rfl
   |_=>rfl
  |_=>rfl
 |agg ls=>rfl
 |b8 xs=>cases xs<;>rfl
def eE {c:Opd}{a b:Q7}:wp call Q ks (cD call cS (.cond c a b) Z)=match isBool (c.ev Z)with
 |some t=>if _:t=true then wp call Q ks (cD call cS a Z)else wp call Q ks (cD call cS b Z)
 |none=>False:=by
 rw[wp_cond];cases isBool (c.ev Z)with
 |none=>simp only[oO]
 |some t=>cases t<;>simp
def Vx {P:Ex->St->Prop}{x:Option (Ex×St)}(h:wp call P [] x):∃e X,x=some (e,X)/\ P e X:=by
 cases x with
 |none=>rw[oO]at h;exact h.elim
 |some x=>exact⟨_,_,rfl,h⟩
def aar (hc:vU call)(hQ:Cl Q){c:Q7}(S:Nat->St)(n:Nat)(p:Nat->Bool)(hz:(c.bn&&kz ks)=true)(kn:Kn (S 0) Z)
 (st:∀k,k<n->(∀j,j<k->p j=false)->wp call (fun e X=>(p k=true->wp call Q (.sq yP::ks) (some (e,X)))/\ (p k=false->e= .normal/\ Kn (S (k+1)) X)) [] (cD call cS c (S k)))
 (en:(∀k,k<n->p k=false)->wp call Q (.sq yP::ks) (cD call cS c (S n))):wp call Q ks (cD call cS (.loop c) Z):=by
 have key:∀m k,k+m=n->(∀j,j<k->p j=false)->wp call Q ks (cD call cS (.loop c) (S k)):=by
  intro m;induction m with
  |zero=>
   intro k hk hp;obtain rfl:k=n:=by omega
   exact xA (en hp)
  |succ m ih=>
   intro k hk hp;obtain⟨e,X,h1,h2,h3⟩:=Vx (st k (by omega) hp);cases a8:p k with
   |true=>exact xA (by rw[h1];exact h2 a8)
   |false=>obtain⟨rfl,h4⟩:=h3 a8;refine FL hc hQ hz (by rw[h1,eG];exact⟨rfl,h4⟩) (ih (k+1) (by omega) fun j hj=> ?_);by_cases q:j=k;rw[q];exact a8;exact hp j (by omega)
 have aa:kz (.sq (.loop c)::ks)=true:=by simpa only[kz,Q7.bn]using hz
 exact Pf hc hQ (S 0) aa kn (key n 0 (by omega) (fun j h=>by omega))
def jU (n:Nat)(p:Nat->Bool):Bool:=(List.range n).any p
def aaH {n k:Nat}{p:Nat->Bool}(hk:k<n)(h:p k=true):jU n p=true:=by unfold jU;rw[List.any_eq_true];exact⟨k,by simpa using hk,h⟩
def M8 {n:Nat}{p:Nat->Bool}(h:∀k,k<n->p k=false):jU n p=false:=by unfold jU;rw[Qo];intro k hk;simp[h k (by simpa using hk)]
def tJ {n:Nat}{p:Nat->Bool}(h:jU n p=false){k:Nat}(hk:k<n):p k=false:=by unfold jU at h;rw[Qo]at h;exact Bool.eq_false_iff.2 (h k (by simpa using hk))
def cP (hc:vU call)(hQ:Cl Q){c:Q7}{t:List V}{h:List Q0}(m:List Mk)(U:Nat->List (Nat×V))(n:Nat)(p:Nat->Bool)(hz:(c.bn&&kz ks)=true)(kn:Kn ⟨rq (lc m t) (U 0),h⟩ ⟨t,h⟩)
 (st:∀k,k<n->(∀j,j<k->p j=false)->wp call (fun e X=>if _:p k=true then jU n p=true->wp call Q (.sq yP::ks) (some (e,X))else e= .normal/\ Kn ⟨rq (lc m t) (U (k+1)),h⟩ X) [] (cD call cS c ⟨rq (lc m t) (U k),h⟩))
 (en:(∀k,k<n->p k=false)->jU n p=false->wp call Q (.sq yP::ks) (cD call cS c ⟨rq (lc m t) (U n),h⟩)):wp call Q ks (cD call cS (.loop c) ⟨t,h⟩):=by refine aar hc hQ (fun k=>⟨rq (lc m t) (U k),h⟩) n p hz kn (fun k hk hp=> ?_) fun hp=>en hp (M8 hp);obtain⟨e,X,h1,h2⟩:=Vx (st k hk hp);rw[h1,eG];split at h2;rename_i q;exact⟨fun _=>h2 (aaH hk q),fun q'=>by rw[q]at q';cases q'⟩;rename_i q;exact⟨fun q'=>absurd q' q,fun _=>h2⟩
end
end Gi
