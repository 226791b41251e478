/- A part. -/
import Derived.Test.YtndiampmpmbfoaaGreatGsn
set_option linter.all false
namespace Gi
open Go
section
variable {f g:List Nat}{h h':List Y0}{Z X υ:St}{call:Nat->List V->Option V}
def Rz (k:YG f h h'){l l' x:L}(r:dC f l l')(e:bJ h l=some x):bJ h' l'=some x/\ l.bD f=some l':=by
 rcases r with rfl|r
 ·cases e
 refine⟨?_,r⟩
 cases l with
 |arr o=>
  obtain⟨o',h1,rfl⟩:=gm r
  obtain⟨ob,ob',h2,h3,h4⟩:=k.get h1
  simp only[bJ,h2]at e
  simp only[bJ,h3]
  cases ob with
  |arr z es=>rw[aP h4 (by simp) (by simp)];exact e
  |bH z es=>rw[aP h4 (by simp) (by simp)];exact e
  |bA z es=>rw[aP h4 (by simp) (by simp)];exact e
  |_=>cases e
 |pv p=>simp only[L.bD]at r;cases r;exact e
 |nil=>simp only[L.bD]at r;cases r;exact e
 |_=>cases e
def yz (k:YG f h h'):∀{ls ls' xs:List L},aN f ls ls'->aO h ls=some xs->aO h' ls'=some xs/\ fu f ls ls'
 |[],[],_,_,e=>⟨e,trivial⟩
 |l::ls,l'::ls',xs,r,e=>by
  simp only[aO]at e⊢
  split at e
  ·rename_i x ys h1 h2
   cases e
   obtain⟨a1,a2⟩:=Rz k r.1 h1
   obtain⟨b1,b2⟩:=yz k r.2 h2
   rw[a1,b1]
   exact⟨rfl,a2,b2⟩
  ·cases e
 |[],_::_,_,e,_=>e.elim
 |_::_,[],_,e,_=>e.elim
def Tb (k:YG f h h'){v v':V}{x:Bool×List L}(r:bC f v v')(e:comp h v=some x):comp h' v'=some x/\ fu f v.cells v'.cells:=by
 cases v with
 |one l=>
  rcases r with rfl|⟨l',rfl,r⟩
  ·cases e
  simp only[comp]at e⊢
  split at e
  ·rename_i xs h1
   obtain⟨a1,a2⟩:=yz k (show aN f [l] [l']from⟨.inr r,trivial⟩) h1
   rw[a1]
   exact⟨e,a2⟩
  ·cases e
 |agg ls=>
  obtain⟨ls',rfl,r⟩:=r
  simp only[comp]at e⊢
  split at e
  ·rename_i xs h1
   obtain⟨a1,a2⟩:=yz k r h1
   rw[a1]
   exact⟨e,a2⟩
  ·cases e
 |b9 xs=>cases e
def I6 (k:YG f h h'):∀{vs vs':List V}{xs:List (Bool×List L)},be f vs vs'->bS h vs=some xs->bS h' vs'=some xs/\ fu f (vs.flatMap V.cells) (vs'.flatMap V.cells)
 |[],[],_,_,e=>⟨e,trivial⟩
 |v::vs,v'::vs',xs,r,e=>by
  simp only[bS]at e⊢
  split at e
  ·rename_i x ys h1 h2
   cases e
   obtain⟨a1,a2⟩:=Tb k r.1 h1
   obtain⟨b1,b2⟩:=I6 k r.2 h2
   rw[a1,b1]
   exact⟨rfl,by simpa only[Y']using a2.append b2⟩
  ·cases e
 |[],_::_,_,e,_=>e.elim
 |_::_,[],_,e,_=>e.elim
def LN (k:YG f h h'):∀{ls ls':List L},fu f ls ls'->(∀o',o'∈aj ls'->∃o,o∈aj ls/\ f[o]? =some o')/\ ((aj ls).Nodup->(aj ls').Nodup)
 |[],[],_=>⟨fun o' h=>by simp[aj]at h,fun h=>h⟩
 |l::ls,l'::ls',r=>by
  obtain⟨i1,i2⟩:=LN k r.2
  have r1:=r.1
  have other:(∀o,l≠ .arr o)->(∀o,l'≠ .arr o)->aj (l::ls)=aj ls/\ aj (l'::ls')=aj ls':=fun a b=>by
   constructor
   ·cases l with
    |arr o=>exact absurd rfl (a o)
    |_=>rfl
   ·cases l' with
    |arr o=>exact absurd rfl (b o)
    |_=>rfl
  cases l with
  |arr o=>
   obtain⟨o',h1,rfl⟩:=gm r1
   have ea:aj (.arr o::ls)=o::aj ls:=rfl
   have eb:aj (.arr o'::ls')=o'::aj ls':=rfl
   rw[ea,eb]
   refine⟨fun p hp=> ?_,fun nd=> ?_⟩
   ·rcases ZL.1 hp with rfl|hp
    ·exact⟨o,Zb2,h1⟩
    ·obtain⟨q,h2,h3⟩:=i1 p hp
     exact⟨q,Za1 _ h2,h3⟩
   ·obtain⟨n1,n2⟩:=L'.1 nd
    refine L'.2 ⟨fun hp=> ?_,i2 n2⟩
    obtain⟨q,h2,h3⟩:=i1 o' hp
    rw[k.inj h3 h1]at h2
    exact n1 h2
  |ptr o i j=>
   obtain⟨o',_,rfl⟩:=gT r1
   obtain⟨ea,eb⟩:=other (by simp) (by simp)
   rw[ea,eb];exact⟨i1,i2⟩
  |sub o c=>
   obtain⟨o',_,rfl⟩:=p9 r1
   obtain⟨ea,eb⟩:=other (by simp) (by simp)
   rw[ea,eb];exact⟨i1,i2⟩
  |c6 o l q=>cases r1
  |_=>
   simp only[L.bD]at r1
   cases r1
   obtain⟨ea,eb⟩:=other (by simp) (by simp)
   rw[ea,eb];exact⟨i1,i2⟩
 |[],_::_,e=>e.elim
 |_::_,[],e=>e.elim
def xR (s:Cln f Z X):∀{rs:List YW}{vs:List V},am Z rs=some vs->∃vs',am X rs=some vs'/\ be f vs vs'
 |[],vs,e=>by simp only[am]at e⊢;cases e;exact⟨_,rfl,trivial⟩
 |r::rs,vs,e=>by
  simp only[am]at e⊢
  split at e
  ·rename_i x xs h1 h2
   cases e
   obtain⟨ak,h3,h4⟩:=xR s h2
   have:∃x',cj X r=some x'/\ bC f x x':=by
    cases r with
    |tmp t=>simp only[cj]at h1⊢;cases h1;exact⟨_,rfl,s.tmps.getD t⟩
    |cell t n=>exact P1 (call:=fun _ _=>none) (op:= .load true n (.tmp t)) s (fun _ _ _ h=>by cases h) rfl h1
   obtain⟨x',h5,h6⟩:=this
   rw[h5,h3]
   exact⟨_,rfl,h6,h4⟩
  ·cases e
def Rt (k:Kn Z X){rs:List YW}{r:V}(e:aZ Z rs=some r):aZ X rs=some r:=by
 obtain⟨f,s⟩:=k
 unfold aZ at e⊢
 cases hr:am Z rs with
 |none=>simp[hr]at e
 |some vs=>
  obtain⟨vs',h1,h2⟩:=xR s hr
  rw[h1]
  simp only[hr]at e⊢
  split at e
  ·rename_i nd
   cases a6:bS Z.h vs with
   |none=>simp[a6]at e
   |some xs=>
    obtain⟨a1,a2⟩:=I6 s.heap h2 a6
    rw[if_pos ((LN s.heap a2).2 nd),a1]
    rw[a6]at e
    exact e
  ·cases e
def uP (g f:List Nat):List Nat:=f.map fun o=>g.getD o 0
def Jl (k:YG f h h')(hg:g.length=h'.length){l l' a7:L}(e1:l.bD f=some l')(e2:l'.bD g=some a7):l.bD (uP g f)=some a7:=by
 have key:∀{o o' a5:Nat},f[o]? =some o'->g[o']? =some a5->(uP g f)[o]? =some a5:=fun{o o' a5}a b=>by
  simp only[uP,Zp,a,Option.map_some,List.getD,b,Za3]
 cases l with
 |ptr o i j=>
  obtain⟨o',a,rfl⟩:=gT e1
  obtain⟨a5,b,rfl⟩:=gT e2
  simp only[L.bD,key a b]
 |arr o=>
  obtain⟨o',a,rfl⟩:=gm e1
  obtain⟨a5,b,rfl⟩:=gm e2
  simp only[L.bD,key a b]
 |sub o c=>
  obtain⟨o',a,rfl⟩:=p9 e1
  obtain⟨a5,b,rfl⟩:=p9 e2
  simp only[L.bD,key a b]
 |c6 o l q=>cases e1
 |_=>
  simp only[L.bD]at e1
  cases e1
  exact e2
def Na {l:L}(e:l.bD f=some .bs):l= .bs:=by
 cases l with
 |ptr o i j=>obtain⟨o',a,h⟩:=gT e;cases h
 |arr o=>obtain⟨o',a,h⟩:=gm e;cases h
 |sub o c=>obtain⟨o',a,h⟩:=p9 e;cases h
 |c6 o l q=>cases e
 |bs=>rfl
 |_=>simp only[L.bD]at e;cases e
def dC.trans (k:YG f h h')(hg:g.length=h'.length){l l' a7:L}(e1:dC f l l')(e2:dC g l' a7):dC (uP g f) l a7:=by
 rcases e1 with e1|e1
 ·exact .inl e1
 rcases e2 with rfl|e2
 ·exact .inl (Na e1)
 ·exact .inr (Jl k hg e1 e2)
def aN.trans (k:YG f h h')(hg:g.length=h'.length):∀{a b c:List L},aN f a b->aN g b c->aN (uP g f) a c
 |[],[],[],_,_=>trivial
 |_::_,_::_,_::_,e1,e2=>⟨e1.1.trans k hg e2.1,aN.trans k hg e1.2 e2.2⟩
 |[],_::_,_,e,_=>e.elim
 |_::_,[],_,e,_=>e.elim
 |_,[],_::_,_,e=>e.elim
 |_,_::_,[],_,e=>e.elim
def bQ.trans (k:YG f h h')(hg:g.length=h'.length):∀{a b c:List (Bool×List L)},bQ f a b->bQ g b c->bQ (uP g f) a c
 |[],[],[],_,_=>trivial
 |_::_,_::_,_::_,e1,e2=>⟨e1.1.trans e2.1,e1.2.1.trans k hg e2.2.1,bQ.trans k hg e1.2.2 e2.2.2⟩
 |[],_::_,_,e,_=>e.elim
 |_::_,[],_,e,_=>e.elim
 |_,[],_::_,_,e=>e.elim
 |_,_::_,[],_,e=>e.elim
def bC.trans (k:YG f h h')(hg:g.length=h'.length){a b c:V}(e1:bC f a b)(e2:bC g b c):bC (uP g f) a c:=by
 cases a with
 |one l=>
  rcases e1 with e1|⟨l',rfl,e1⟩
  ·exact .inl e1
  rcases e2 with rfl|⟨a7,rfl,e2⟩
  ·exact .inl (Na e1)
  ·exact .inr ⟨a7,rfl,Jl k hg e1 e2⟩
 |agg ls=>
  obtain⟨ls',rfl,e1⟩:=e1
  obtain⟨ab,rfl,e2⟩:=e2
  exact⟨_,rfl,e1.trans k hg e2⟩
 |b9 xs=>
  obtain⟨ls',rfl,e1⟩:=e1
  obtain⟨ab,rfl,e2⟩:=e2
  exact⟨_,rfl,e1.trans k hg e2⟩
def be.trans (k:YG f h h')(hg:g.length=h'.length):∀{a b c:List V},be f a b->be g b c->be (uP g f) a c
 |[],[],[],_,_=>trivial
 |_::_,_::_,_::_,e1,e2=>⟨e1.1.trans k hg e2.1,be.trans k hg e1.2 e2.2⟩
 |[],_::_,_,e,_=>e.elim
 |_::_,[],_,e,_=>e.elim
 |_,[],_::_,_,e=>e.elim
 |_,_::_,[],_,e=>e.elim
def Kn.trans (a:Kn Z X)(b:Kn X υ):Kn Z υ:=by
 obtain⟨f,a⟩:=a
 obtain⟨g,b⟩:=b
 have hg:=b.heap.len
 have ad:∀{i:Nat}{a5:Nat},(uP g f)[i]? =some a5->∃o',f[i]? =some o'/\ g[o']? =some a5:=fun{i a5}e=>by
  simp only[uP,Zp,Zj]at e
  obtain⟨o',h1,h2⟩:=e
  refine⟨o',h1,?_⟩
  have:o'<g.length:=by rw[hg];exact a.heap.lt h1
  simp only[List.getD,Zm this,Za3]at h2
  rw[Zm this,h2]
 refine⟨uP g f,⟨?_,by simp[uP,a.heap.len],fun i o ob e1 e2=> ?_⟩,a.tmps.trans a.heap hg b.tmps⟩
 ·refine List.pairwise_iff_getElem.2 fun i j hi hj al e=> ?_
  obtain⟨o1,h1,h2⟩:=ad (Zm hi)
  obtain⟨o2,h3,h4⟩:=ad (Zm hj)
  rw[e]at h2
  have:=b.heap.inj h2 h4
  subst this
  exact absurd (a.heap.inj h1 h3) (by omega)
 ·obtain⟨o',h1,h2⟩:=ad e1
  obtain⟨ob',h3,h4⟩:=a.heap.obs i o' ob h1 e2
  obtain⟨af,h5,h6⟩:=b.heap.obs o' o ob' h2 h3
  refine⟨af,h5,?_⟩
  cases ob with
  |box cs=>
   obtain⟨cs',rfl,h4⟩:=h4
   obtain⟨ai,rfl,h6⟩:=h6
   exact⟨_,rfl,h4.trans a.heap hg h6⟩
  |dead=>trivial
  |arr z es=>rw[aP h4 (by simp) (by simp)]at h6;exact h6
  |bH z es=>rw[aP h4 (by simp) (by simp)]at h6;exact h6
  |bA z es=>rw[aP h4 (by simp) (by simp)]at h6;exact h6
  |bB z es=>rw[aP h4 (by simp) (by simp)]at h6;exact h6
  |bL ps=>rw[aP h4 (by simp) (by simp)]at h6;exact h6
  |bT n=>rw[aP h4 (by simp) (by simp)]at h6;exact h6
  |res=>rw[aP h4 (by simp) (by simp)]at h6;exact h6
def Kn.of (f:List Nat){t t':List V}{h h':List Y0}(nd:f.Nodup)(ho:bj f h' f h)(ht:be f t t'):Kn ⟨t,h⟩ ⟨t',h'⟩:=⟨f,Cln.of f nd ho ht⟩
def Kn.r (f:List Nat){t t':List V}{h h':List Y0}(ho:bj f h' f h:=by simp[be,bC,aN,dC,bQ,bj,bX,L.bD])(ht:be f t t':=by simp[be,bC,aN,dC,bQ,bj,bX,L.bD])(nd:f.Nodup:=by decide):Kn ⟨t,h⟩ ⟨t',h'⟩:=Kn.of f nd ho ht
end
inductive Fr where
 |sq (c:Y5)
 |bk (id:Nat)
def kz :List Fr->Bool
 |[]=>true
 | .sq c::ks=>c.bj&&kz ks
 | .bk _::ks=>kz ks
section
variable (call:Nat->List V->Option V)
def wp (Q:Ex->St->Prop):List Fr->Option (Ex×St)->Prop
 |[],some (e,Z)=>Q e Z
 | .sq c::ks,some (.normal,Z)=>wp Q ks (ap call aF c Z)
 | .sq _::ks,some (e,Z)=>wp Q ks (some (e,Z))
 | .bk id::ks,some (.exit i,Z)=>if i=id then wp Q ks (some (.normal,Z))else wp Q ks (some (.exit i,Z))
 | .bk _::ks,some (e,Z)=>wp Q ks (some (e,Z))
 |_,none=>False
end
section
variable {call:Nat->List V->Option V}{Q:Ex->St->Prop}{ks:List Fr}{Z X:St}
def co {e:Ex}:wp call Q [] (some (e,Z))=Q e Z:=by simp only[wp]
def cH {c:Y5}:wp call Q (.sq c::ks) (some (.normal,Z))=wp call Q ks (ap call aF c Z):=by simp only[wp]
def cL {c:Y5}:wp call Q (.sq c::ks) (some (.ret,Z))=wp call Q ks (some (.ret,Z)):=by simp only[wp]
def cK {c:Y5}{i:Nat}:wp call Q (.sq c::ks) (some (.exit i,Z))=wp call Q ks (some (.exit i,Z)):=by simp only[wp]
def cP {id:Nat}:wp call Q (.bk id::ks) (some (.normal,Z))=wp call Q ks (some (.normal,Z)):=by simp only[wp]
def cQ {id:Nat}:wp call Q (.bk id::ks) (some (.ret,Z))=wp call Q ks (some (.ret,Z)):=by simp only[wp]
def cO {id i:Nat}:wp call Q (.bk id::ks) (some (.exit i,Z))=if i=id then wp call Q ks (some (.normal,Z))else wp call Q ks (some (.exit i,Z)):=by simp only[wp]
def lJ :wp call Q ks none=False:=by
 cases ks with
 |nil=>simp only[wp]
 |cons k ks=>cases k<;>simp only[wp]
def wp_seq {a b:Y5}:wp call Q ks (ap call aF (.seq a b) Z)=wp call Q (.sq b::ks) (ap call aF a Z):=by
 simp only[ap]
 cases ap call aF a Z with
 |none=>simp only[lJ]
 |some x=>
  obtain⟨e,Z'⟩:=x
  cases e<;>simp only[cH,cL,cK]
def wp_block {id:Nat}{c:Y5}:wp call Q ks (ap call aF (.block id c) Z)=wp call Q (.bk id::ks) (ap call aF c Z):=by
 simp only[ap]
 cases ap call aF c Z with
 |none=>simp only[lJ]
 |some x=>
  obtain⟨e,Z'⟩:=x
  cases e with
  |exit i=>
   simp only[cO]
   split<;>rfl
  |_=>simp only[cP,cQ]
def qg {ops:List Z0}:wp call Q ks (ap call aF (.region ops) Z)=wp call Q ks (match ah call ops Z with
 |some Z'=>some (.normal,Z')
 |none=>none):=by simp only[ap];rfl
def wp_cond {c:Opd}{a b:Y5}:wp call Q ks (ap call aF (.cond c a b) Z)=wp call Q ks (match isBool (c.ev Z)with
 |some t=>if t then ap call aF a Z else ap call aF b Z
 |none=>none):=by simp only[ap];rfl
def wp_skip :wp call Q ks (ap call aF .skip Z)=wp call Q ks (some (.normal,Z)):=by simp only[ap]
def wp_exit {id:Nat}:wp call Q ks (ap call aF (.exit id) Z)=wp call Q ks (some (.exit id,Z)):=by simp only[ap]
def wp_ret :wp call Q ks (ap call aF .ret Z)=wp call Q ks (some (.ret,Z)):=by simp only[ap]
def Cl (Q:Ex->St->Prop):Prop:=∀e Z X,Kn Z X->Q e Z->Q e X
def Ur (hc:rI call)(hQ:Cl Q):∀{ks:List Fr},kz ks=true->∀{e:Ex}{Z X:St},Kn Z X->wp call Q ks (some (e,Z))->wp call Q ks (some (e,X)):=by
 intro ks
 induction ks with
 |nil=>intro _ e Z X k h;simp only[co]at h⊢;exact hQ e Z X k h
 |cons fr ks ih=>
  intro hz e Z X k h
  cases fr with
  |sq c=>
   simp only[kz,Zh]at hz
   cases e with
   |normal=>
    simp only[cH]at h⊢
    cases hx:ap call aF c Z with
    |none=>rw[hx,lJ]at h;exact h.elim
    |some x=>
     obtain⟨e,Z'⟩:=x
     obtain⟨X',h1,k1⟩:=PW hc hz.1 k hx
     rw[hx]at h
     rw[h1]
     exact ih hz.2 k1 h
   |exit i=>simp only[cK]at h⊢;exact ih hz.2 k h
   |ret=>simp only[cL]at h⊢;exact ih hz.2 k h
  |bk id=>
   simp only[kz]at hz
   cases e with
   |normal=>simp only[cP]at h⊢;exact ih hz k h
   |ret=>simp only[cQ]at h⊢;exact ih hz k h
   |exit i=>
    simp only[cO]at h⊢
    split at h
    ·rename_i hi;rw[if_pos hi];exact ih hz k h
    ·rename_i hi;rw[if_neg hi];exact ih hz k h
def Ly (hc:rI call)(hQ:Cl Q){c:Y5}(σ0:St)(hz:kz (.sq c::ks)=true)(k:Kn σ0 Z)(h:wp call Q ks (ap call aF c σ0)):wp call Q ks (ap call aF c Z):=by
 have:=Ur (e:= .normal) hc hQ hz k (by rw[cH];exact h)
 rwa[cH]at this
variable (call)in
def VZ (c:Y5)(Z:St)(e:Ex)(σe:St):Prop:=∃X,aF (ap call aF c) Z=some (e,X)/\ Kn σe X
variable (call)in
def SQ (c:Y5)(Z Z':St):Prop:=∃X,ap call aF c Z=some (.normal,X)/\ Kn Z' X
def U4 (hc:rI call){c:Y5}(hz:c.bj=true){e:Ex}{Z':St}(k:Kn Z X)(h:aF (ap call aF c) Z=some (e,Z')):∃X',aF (ap call aF c) X=some (e,X')/\ Kn Z' X':=by
 have:=PW (c:= .loop c) hc hz k (by simp only[ap];exact h)
 simpa only[ap]using this
def VZ.step (hc:rI call){c:Y5}(hz:c.bj=true){Z' σe:St}{e:Ex}(s:SQ call c Z Z')(E:VZ call c Z' e σe):VZ call c Z e σe:=by
 obtain⟨X,h1,k1⟩:=s
 obtain⟨τ2,h2,k2⟩:=E
 obtain⟨τ3,h3,k3⟩:=U4 hc hz k1 h2
 exact⟨τ3,by rw[gF h1];exact h3,k2.trans k3⟩
def PE {e:Ex}{σe:St}{x:Option (Ex×St)}(h:wp call (fun e' X=>e'=e/\ Kn σe X) [] x):∃X,x=some (e,X)/\ Kn σe X:=by
 cases x with
 |none=>rw[lJ]at h;exact h.elim
 |some x=>
  obtain⟨e',X⟩:=x
  rw[co]at h
  obtain⟨rfl,h⟩:=h
  exact⟨X,rfl,h⟩
def SQ.of {c:Y5}{Z':St}(h:wp call (fun e' X=>e'= .normal/\ Kn Z' X) [] (ap call aF c Z)):SQ call c Z Z':=PE h
def Cl.kn {e:Ex}{σe:St}:Cl (fun e' X=>e'=e/\ Kn σe X):=fun _ _ _ k h=>⟨h.1,h.2.trans k⟩
end
section
variable {Φ:Nat->Option AFn}{ext:Nat->List V->Option V}
def WM (rs:List YW)(r:V)(e:Ex)(Z:St):Prop:=(e= .normal \/e= .ret)/\ aZ Z rs=some r
def Cl.fin {fn:List YW}{r:V}:Cl (WM fn r):=fun _ _ _ k h=>⟨h.1,Rt k h.2⟩
def bV {fn:List YW}{r:V}{Z:St}:WM fn r .ret Z=(aZ Z fn=some r):=by simp[WM]
def aM {fn:List YW}{r:V}{Z:St}:WM fn r .normal Z=(aZ Z fn=some r):=by simp[WM]
def ae {k:Nat}{fn:AFn}{xz:List V}{r:V}(hk:Φ k=some fn)(h:wp (ag Φ ext) (WM fn.results r) [] (ap (ag Φ ext) aF fn.body (start fn xz))):ag Φ ext k xz=some r:=by
 refine fW hk ?_
 unfold fB
 cases hx:ap (ag Φ ext) aF fn.body (start fn xz)with
 |none=>rw[hx,lJ]at h;exact h.elim
 |some x=>
  obtain⟨e,Z⟩:=x
  rw[hx,co]at h
  obtain⟨h1|h1,h2⟩:=h<;>subst h1<;>exact h2
def tc {Z:St}{rs:List YW}{r:V}(e:aZ Z rs=some r):r.clean=true:=by
 unfold aZ at e
 split at e
 ·cases e
 ·rename_i vs h1
  split at e
  ·cases a6:bS Z.h vs with
   |none=>simp[a6]at e
   |some xs=>
    have hc:=(ue vs xs [] a6).1
    rw[a6]at e
    split at e
    ·rename_i ls h2
     cases h2;cases e
     simpa[V.clean]using hc
    ·rename_i l h2
     cases h2;cases e
     simpa[V.clean]using hc
    ·rename_i ys h2 h3 h4
     cases h4
     split at e
     ·cases e
     ·cases e
      simpa[V.clean]using hc
    ·cases e
  ·cases e
def AC :∀{h:List Y0}{os:List (Bool×List L)},iv h=some os->(os.all fun x=>x.2.all L.clean)=true
 |[],os,e=>by simp only[iv]at e;cases e;rfl
 |ob::h,os,e=>by
  cases ob with
  |bB z es=>
   simp only[iv]at e
   split at e
   ·rename_i xs h1
    cases e
    simp[AC h1,L.clean]
   ·cases e
  |_=>simp[iv]at e
def Gk {m:Nat}{fn:AFn}{Z:St}{r:V}(e:Iv m fn Z=some r):r.clean=true:=by
 unfold Iv at e
 split at e
 ·rename_i l os h1 h2
  split at e
  ·rename_i hl
   cases e
   have hc:=tc h1
   simp only[V.clean,Zq,List.all_nil,C',Zh]at hc⊢
   exact⟨hc,AC h2⟩
  ·cases e
 ·cases e
def Gj {fn:AFn}{Z:St}{r:V}(e:OD fn Z=some r):r.clean=true:=by
 unfold OD at e
 split at e
 ·split at e
  ·cases e
   simp[V.clean,L.clean]
  ·cases e
 ·cases e
def Pq (he:rI ext):rI (ag Φ ext):=by
 intro k xz r h
 obtain⟨n,hn⟩:=iR.1 h
 cases n with
 |zero=>simp[run]at hn
 |succ n=>
  simp only[run]at hn
  split at hn
  ·split at hn
   ·split at hn
    ·split at hn
     ·unfold xD at hn
      split at hn
      ·exact Gk hn
      ·exact Gk hn
      ·cases hn
     ·cases hn
    ·split at hn
     ·split at hn
      ·split at hn
       ·unfold Fi at hn
        split at hn
        ·exact Gj hn
        ·exact Gj hn
        ·cases hn
       ·cases hn
      ·cases hn
     ·cases hn
   ·exact he k xz r hn
  ·unfold done at hn
   split at hn
   ·exact tc hn
   ·exact tc hn
   ·cases hn
end
inductive Mk where
 |t
 |f
def iM :List Mk->List V->List V
 | .t::m,v::vs=>v::iM m vs
 | .f::m,_::vs=> .one .bs::iM m vs
 |[],vs=>vs
 |_,[]=>[]
def aV {m:List Mk}{v:V}{vs:List V}:iM (.t::m) (v::vs)=v::iM m vs:=rfl
def aT {m:List Mk}{v:V}{vs:List V}:iM (.f::m) (v::vs)= .one .bs::iM m vs:=rfl
def aU {vs:List V}:iM [] vs=vs:=rfl
def ot (t:List V):List (Nat×V)->List V
 |[]=>t
 |(i,v)::r=>ot (t.set i v) r
def bt {t:List V}:ot t []=t:=rfl
def fa {t:List V}{i:Nat}{v:V}{r:List (Nat×V)}:ot t ((i,v)::r)=ot (t.set i v) r:=rfl
def uZ :Y5:= .cond .nil .skip .skip
def Pa {call:Nat->List V->Option V}{Z:St}:ap call aF uZ Z=none:=rfl
section
variable {call:Nat->List V->Option V}{Q:Ex->St->Prop}{ks:List Fr}{Z X:St}
def Us {x:Option (Ex×St)}(h:wp call Q (.sq uZ::ks) x):∃e X,x=some (e,X)/\ e≠ .normal/\ wp call Q ks (some (e,X)):=by
 cases x with
 |none=>rw[lJ]at h;exact h.elim
 |some x=>
  obtain⟨e,X⟩:=x
  cases e with
  |normal=>rw[cH,Pa,lJ]at h;exact h.elim
  |exit i=>rw[cK]at h;exact⟨_,_,rfl,by simp,h⟩
  |ret=>rw[cL]at h;exact⟨_,_,rfl,by simp,h⟩
def tK {c:Y5}(h:wp call Q (.sq uZ::ks) (ap call aF c Z)):wp call Q ks (ap call aF (.loop c) Z):=by
 obtain⟨e,X,h1,h2,h3⟩:=Us h
 simp only[ap]
 rw[jt h1 h2]
 exact h3
def Co (hc:rI call)(hQ:Cl Q){c:Y5}{Z':St}(hz:(c.bj&&kz ks)=true)(s:wp call (fun e X=>e= .normal/\ Kn Z' X) [] (ap call aF c Z))(h:wp call Q ks (ap call aF (.loop c) Z')):wp call Q ks (ap call aF (.loop c) Z):=by
 obtain⟨X,h1,k1⟩:=PE s
 have aa:kz (.sq (.loop c)::ks)=true:=by simpa only[kz,Y5.bj]using hz
 have:=Ly hc hQ Z' aa k1 h
 simp only[ap]at this⊢
 rw[gF h1]
 exact this
def Vq (hc:rI call)(hQ:Cl Q){c:Y5}(S:Nat->St)(n:Nat)(p:Nat->Bool)(hz:(c.bj&&kz ks)=true)(kn:Kn (S 0) Z)
 (st:∀k,k<n->p k=false->wp call (fun e X=>e= .normal/\ Kn (S (k+1)) X) [] (ap call aF c (S k)))
 (le:∀k,k<n->p k=true->(∀j,j<k->p j=false)->wp call Q (.sq uZ::ks) (ap call aF c (S k)))
 (en:(∀k,k<n->p k=false)->wp call Q (.sq uZ::ks) (ap call aF c (S n))):wp call Q ks (ap call aF (.loop c) Z):=by
 have key:∀m k,k+m=n->(∀j,j<k->p j=false)->wp call Q ks (ap call aF (.loop c) (S k)):=by
  intro m
  induction m with
  |zero=>
   intro k hk hp
   obtain rfl:k=n:=by omega
   exact tK (en hp)
  |succ m ih=>
   intro k hk hp
   cases a8:p k with
   |true=>exact tK (le k (by omega) a8 hp)
   |false=>
    refine Co hc hQ hz (st k (by omega) a8) (ih (k+1) (by omega) fun j hj=> ?_)
    by_cases q:j=k
    ·rw[q];exact a8
    ·exact hp j (by omega)
 have aa:kz (.sq (.loop c)::ks)=true:=by simpa only[kz,Y5.bj]using hz
 exact Ly hc hQ (S 0) aa kn (key n 0 (by omega) (fun j h=>by omega))
def dB (hc:rI call)(hQ:Cl Q){c:Y5}{t:List V}{h:List Y0}(n:Nat)(m:List Mk)(U:Nat->List (Nat×V))(H:Nat->List Y0)(hz:(c.bj&&kz ks)=true)(kn:Kn ⟨ot (iM m t) (U 0),H 0⟩ ⟨t,h⟩)
 (st:∀k,k<n->wp call (fun e X=>e= .normal/\ Kn ⟨ot (iM m t) (U (k+1)),H (k+1)⟩ X) [] (ap call aF c ⟨ot (iM m t) (U k),H k⟩))
 (en:wp call Q (.sq uZ::ks) (ap call aF c ⟨ot (iM m t) (U n),H n⟩)):wp call Q ks (ap call aF (.loop c) ⟨t,h⟩):=
 Vq hc hQ (fun k=>⟨ot (iM m t) (U k),H k⟩) n (fun _=>false) hz kn (fun k hk _=>st k hk) (fun k hk hp=>by cases hp) (fun _=>en)
end
section
variable {call:Nat->List V->Option V}{Q:Ex->St->Prop}{ks:List Fr}{Z X:St}
def O9 {id:Nat}{Z:St}(h:wp call Q ks (some (.exit id,Z))):wp call Q (.sq uZ::ks) (some (.exit id,Z)):=by rw[cK];exact h
def t8 {c:Y5}:wp call Q ks (ap call aF (.loop c) Z)=wp call Q (.sq (.loop c)::ks) (ap call aF c Z):=by
 simp only[ap]
 rw[vO]
 cases h:ap call aF c Z with
 |none=>simp only[lJ]
 |some x=>
  obtain⟨e,Z'⟩:=x
  cases e with
  |normal=>simp only[cH,ap]
  |exit i=>simp only[cK]
  |ret=>simp only[cL]
def QI (hc:rI call)(hQ:Cl Q){c:Y5}{t:List V}{h:List Y0}(n:Nat)(m:List Mk)(U:Nat->List (Nat×V))(H:Nat->List Y0)(id:Nat)(hz:(c.bj&&kz ks)=true)(kn:Kn ⟨ot (iM m t) (U 0),H 0⟩ ⟨t,h⟩)
 (st:∀k,k<n->wp call (fun e X=>e= .normal/\ Kn ⟨ot (iM m t) (U (k+1)),H (k+1)⟩ X) [] (ap call aF c ⟨ot (iM m t) (U k),H k⟩))
 (en:wp call (fun e X=>e= .exit id/\ Kn ⟨ot (iM m t) (U n),H n⟩ X) [] (ap call aF c ⟨ot (iM m t) (U n),H n⟩))
 (rest:wp call Q ks (some (.exit id,⟨ot (iM m t) (U n),H n⟩))):wp call Q ks (ap call aF (.loop c) ⟨t,h⟩):=by
 refine dB hc hQ n m U H hz kn st ?_
 obtain⟨X,h1,k1⟩:=PE en
 rw[h1]
 refine O9 (Ur hc hQ ?_ k1 rest)
 simp only[Zh]at hz
 exact hz.2
end
def vk :List V->Nat->V
 |[],_=> .b9 []
 |v::_,0=>v
 |_::r,n+1=>vk r n
def A5 :List V->Nat->V->List V
 |[],_,_=>[]
 |_::r,0,x=>x::r
 |v::r,n+1,x=>v::A5 r n x
def A2 :∀(t:List V)(n:Nat),t.getD n (.b9 [])=vk t n
 |[],_=>by simp[vk]
 |v::r,0=>by simp[vk]
 |v::r,n+1=>by rw[List.getD_cons_succ,A2 r n];rfl
def Lv :∀(t:List V)(n:Nat)(x:V),t.set n x=A5 t n x
 |[],_,_=>rfl
 |v::r,0,_=>rfl
 |v::r,n+1,x=>by rw[U',Lv r n x];rfl
def dk {Z:St}{n:Nat}:(Opd.tmp n).ev Z=vk Z.t n:=A2 _ _
def eR {Z:St}{p:PV}:(Opd.pv p).ev Z= .one (.pv p):=rfl
def dj {Z:St}:Opd.nil.ev Z= .one .nil:=rfl
def eQ {Z:St}{k:Nat}:(Opd.fn k).ev Z= .one (.fn k []):=rfl
def eW {t:List V}{d:Nat}{v:V}:put t (some d) v=A5 t d v:=Lv _ _ _
def eV {t:List V}{v:V}:put t none v=t:=rfl
def cD {Z:St}{n:Nat}:cj Z (.tmp n)=some (vk Z.t n):=by simp only[cj,A2]
def bM {Z:St}{t n:Nat}:cj Z (.cell t n)=bA Z.h true n (vk Z.t t):=by simp only[cj,A2]
def dz {t:List V}{i:Nat}{v:V}{r:List (Nat×V)}:ot t ((i,v)::r)=ot (A5 t i v) r:=by rw[fa,Lv]
section
variable {a b c d e f g h v:V}{r:List V}{n:Nat}
def se :vk (v::r) 0=v:=rfl
def sx {x:V}:A5 (v::r) 0 x=x::r:=rfl
def sf :vk (a::v::r) 1=v:=rfl
def sy {x:V}:A5 (a::v::r) 1 x=a::x::r:=rfl
def sh :vk (a::b::v::r) 2=v:=rfl
def sA {x:V}:A5 (a::b::v::r) 2 x=a::b::x::r:=rfl
def si :vk (a::b::c::v::r) 3=v:=rfl
def sB {x:V}:A5 (a::b::c::v::r) 3 x=a::b::c::x::r:=rfl
def sj :vk (a::b::c::d::v::r) 4=v:=rfl
def sC {x:V}:A5 (a::b::c::d::v::r) 4 x=a::b::c::d::x::r:=rfl
def sk :vk (a::b::c::d::e::v::r) 5=v:=rfl
def sD {x:V}:A5 (a::b::c::d::e::v::r) 5 x=a::b::c::d::e::x::r:=rfl
def so :vk (a::b::c::d::e::f::v::r) 6=v:=rfl
def sE {x:V}:A5 (a::b::c::d::e::f::v::r) 6 x=a::b::c::d::e::f::x::r:=rfl
def sp :vk (a::b::c::d::e::f::g::v::r) 7=v:=rfl
def sF {x:V}:A5 (a::b::c::d::e::f::g::v::r) 7 x=a::b::c::d::e::f::g::x::r:=rfl
def su :vk (a::b::c::d::e::f::g::h::r) (n+8)=vk r n:=rfl
def sG {x:V}:A5 (a::b::c::d::e::f::g::h::r) (n+8) x=a::b::c::d::e::f::g::h::A5 r n x:=rfl
end
section
variable {call:Nat->List V->Option V}{Q:Ex->St->Prop}{ks:List Fr}{Z X:St}
variable (call Q ks)in
def wo (ops:List Z0)(Z:St):Prop:=wp call Q ks (match ah call ops Z with
 |some Z'=>some (.normal,Z')
 |none=>none)
variable (call Q ks)in
def qh (r:List Z0)(d:Option Nat)(Z:St):AOp->Prop
 | .pick c a b=>match isBool (c.ev Z)with
  |some t=>if _:t=true then wo call Q ks r ⟨put Z.t d (a.ev Z),Z.h⟩else wo call Q ks r ⟨put Z.t d (b.ev Z),Z.h⟩
  |none=>False
 |op=>match bG call Z op with
  |some v=>wo call Q ks r ⟨put Z.t d v,Z.h⟩
  |none=>match cz call Z op with
   |some x=>wo call Q ks r ⟨put Z.t d x.1,x.2⟩
   |none=>False
def bm {ops:List Z0}:wp call Q ks (ap call aF (.region ops) Z)=wo call Q ks ops Z:=qg
def dA :wo call Q ks [] Z=wp call Q ks (some (.normal,Z)):=rfl
def XB {o:Z0}{r:List Z0}:wo call Q ks (o::r) Z=match aG call o Z with
 |some Z'=>wo call Q ks r Z'
 |none=>False:=by
 unfold wo
 simp only[ah]
 cases aG call o Z with
 |some x=>rfl
 |none=>simp only[lJ]
def Ut {r:List Z0}{d:Option Nat}{op:AOp}:qh call Q ks r d Z op=match(match bG call Z op with
 |some v=>some (⟨put Z.t d v,Z.h⟩:St)
 |none=>match cz call Z op with
  |some (v,h)=>some ⟨put Z.t d v,h⟩
  |none=>none)with
 |some Z'=>wo call Q ks r Z'
 |none=>False:=by
 have key:∀(f:Option V)(e:Option (V×List Y0)),(match f with
  |some v=>wo call Q ks r ⟨put Z.t d v,Z.h⟩
  |none=>match e with
   |some x=>wo call Q ks r ⟨put Z.t d x.1,x.2⟩
   |none=>False)=match(match f with
  |some v=>some (⟨put Z.t d v,Z.h⟩:St)
  |none=>match e with
   |some (v,h)=>some ⟨put Z.t d v,h⟩
   |none=>none)with
  |some Z'=>wo call Q ks r Z'
  |none=>False:=fun f e=>by
  cases f with
  |some v=>rfl
  |none=>cases e<;>rfl
 unfold qh
 split
 ·simp only[bG,cz]
  cases isBool (Opd.ev Z _)with
  |none=>rfl
  |some t=>cases t<;>simp
 ·exact key _ _
def cE {r:List Z0}{d:Option Nat}{op:AOp}:wo call Q ks (⟨d,op,none⟩::r) Z=qh call Q ks r d Z op:=by
 rw[XB,Ut];rfl
def bN {r:List Z0}{d:Option Nat}{op:AOp}{g:Nat}{w:Bool}:wo call Q ks (⟨d,op,some (g,w)⟩::r) Z=match vk Z.t g with
 | .one (.pv (.bool b))=>if _:b=w then qh call Q ks r d Z op else wo call Q ks r ⟨put Z.t d (.b9 []),Z.h⟩
 | .b9 []=>wo call Q ks r ⟨put Z.t d (.b9 []),Z.h⟩
 |_=>False:=by
 rw[XB,<-A2]
 unfold aG
 simp only[bc]
 cases Z.t.getD g (.b9 [])with
 |one l=>
  cases l with
  |pv p=>
   cases p with
   |bool b=>
    have e:=Ut (call:=call) (Q:=Q) (ks:=ks) (Z:=Z) (r:=r) (d:=d) (op:=op)
    cases b<;>cases w<;>simp only[e]<;>simp<;>rfl
   |_=>rfl
  |_=>rfl
 |agg ls=>rfl
 |b9 xs=>cases xs<;>rfl
def cF {c:Opd}{a b:Y5}:wp call Q ks (ap call aF (.cond c a b) Z)=match isBool (c.ev Z)with
 |some t=>if _:t=true then wp call Q ks (ap call aF a Z)else wp call Q ks (ap call aF b Z)
 |none=>False:=by
 rw[wp_cond]
 cases isBool (c.ev Z)with
 |none=>simp only[lJ]
 |some t=>cases t<;>simp
def QJ {P:Ex->St->Prop}{x:Option (Ex×St)}(h:wp call P [] x):∃e X,x=some (e,X)/\ P e X:=by
 cases x with
 |none=>rw[lJ]at h;exact h.elim
 |some x=>exact⟨_,_,rfl,h⟩
def SD (hc:rI call)(hQ:Cl Q){c:Y5}(S:Nat->St)(n:Nat)(p:Nat->Bool)(hz:(c.bj&&kz ks)=true)(kn:Kn (S 0) Z)
 (st:∀k,k<n->(∀j,j<k->p j=false)->wp call (fun e X=>(p k=true->wp call Q (.sq uZ::ks) (some (e,X)))/\ (p k=false->e= .normal/\ Kn (S (k+1)) X)) [] (ap call aF c (S k)))
 (en:(∀k,k<n->p k=false)->wp call Q (.sq uZ::ks) (ap call aF c (S n))):wp call Q ks (ap call aF (.loop c) Z):=by
 have key:∀m k,k+m=n->(∀j,j<k->p j=false)->wp call Q ks (ap call aF (.loop c) (S k)):=by
  intro m
  induction m with
  |zero=>
   intro k hk hp
   obtain rfl:k=n:=by omega
   exact tK (en hp)
  |succ m ih=>
   intro k hk hp
   obtain⟨e,X,h1,h2,h3⟩:=QJ (st k (by omega) hp)
   cases a8:p k with
   |true=>exact tK (by rw[h1];exact h2 a8)
   |false=>
    obtain⟨rfl,h4⟩:=h3 a8
    refine Co hc hQ hz (by rw[h1,co];exact⟨rfl,h4⟩) (ih (k+1) (by omega) fun j hj=> ?_)
    by_cases q:j=k
    ·rw[q];exact a8
    ·exact hp j (by omega)
 have aa:kz (.sq (.loop c)::ks)=true:=by simpa only[kz,Y5.bj]using hz
 exact Ly hc hQ (S 0) aa kn (key n 0 (by omega) (fun j h=>by omega))
def gH (n:Nat)(p:Nat->Bool):Bool:=(List.range n).any p
def SY {n k:Nat}{p:Nat->Bool}(hk:k<n)(h:p k=true):gH n p=true:=by
 unfold gH;rw[List.any_eq_true];exact⟨k,by simpa using hk,h⟩
def N9 {n:Nat}{p:Nat->Bool}(h:∀k,k<n->p k=false):gH n p=false:=by
 unfold gH;rw[List.any_eq_false];intro k hk;simp[h k (by simpa using hk)]
def uc {n:Nat}{p:Nat->Bool}(h:gH n p=false){k:Nat}(hk:k<n):p k=false:=by
 unfold gH at h;rw[List.any_eq_false]at h;exact Bool.eq_false_iff.2 (h k (by simpa using hk))
def aB (hc:rI call)(hQ:Cl Q){c:Y5}{t:List V}{h:List Y0}(m:List Mk)(U:Nat->List (Nat×V))(n:Nat)(p:Nat->Bool)(hz:(c.bj&&kz ks)=true)(kn:Kn ⟨ot (iM m t) (U 0),h⟩ ⟨t,h⟩)
 (st:∀k,k<n->(∀j,j<k->p j=false)->wp call (fun e X=>if _:p k=true then gH n p=true->wp call Q (.sq uZ::ks) (some (e,X))else e= .normal/\ Kn ⟨ot (iM m t) (U (k+1)),h⟩ X) [] (ap call aF c ⟨ot (iM m t) (U k),h⟩))
 (en:(∀k,k<n->p k=false)->gH n p=false->wp call Q (.sq uZ::ks) (ap call aF c ⟨ot (iM m t) (U n),h⟩)):wp call Q ks (ap call aF (.loop c) ⟨t,h⟩):=by
 refine SD hc hQ (fun k=>⟨ot (iM m t) (U k),h⟩) n p hz kn (fun k hk hp=> ?_) fun hp=>en hp (N9 hp)
 obtain⟨e,X,h1,h2⟩:=QJ (st k hk hp)
 rw[h1,co]
 split at h2
 ·rename_i q;exact⟨fun _=>h2 (SY hk q),fun q'=>by rw[q]at q';cases q'⟩
 ·rename_i q;exact⟨fun q'=>absurd q' q,fun _=>h2⟩
end
end Gi
