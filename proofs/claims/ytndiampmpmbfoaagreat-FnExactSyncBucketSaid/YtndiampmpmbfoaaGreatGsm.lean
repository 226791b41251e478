/- A part. -/
import Derived.Test.YtndiampmpmbfoaaGreatGiv
set_option linter.all false
namespace Gi
open Go
def L.bD (f:List Nat):L->Option L
 | .ptr o i j=>match f[o]? with
  |some o'=>some (.ptr o' i j)
  |none=>none
 | .arr o=>match f[o]? with
  |some o'=>some (.arr o')
  |none=>none
 | .sub o c=>match f[o]? with
  |some o'=>some (.sub o' c)
  |none=>none
 | .c6 _ _ _=>none
 |l=>some l
def dC (f:List Nat)(l l':L):Prop:=l= .bs \/l.bD f=some l'
def aN (f:List Nat):List L->List L->Prop
 |[],[]=>True
 |l::ls,l'::ls'=>dC f l l'/\ aN f ls ls'
 |_,_=>False
def fu (f:List Nat):List L->List L->Prop
 |[],[]=>True
 |l::ls,l'::ls'=>l.bD f=some l'/\ fu f ls ls'
 |_,_=>False
def bQ (f:List Nat):List (Bool×List L)->List (Bool×List L)->Prop
 |[],[]=>True
 |x::xs,y::ys=>x.1=y.1/\ aN f x.2 y.2/\ bQ f xs ys
 |_,_=>False
def bC (f:List Nat)(v v':V):Prop:=
 match v with
 | .one l=>l= .bs \/∃l',v'= .one l'/\ l.bD f=some l'
 | .agg ls=>∃ls',v'= .agg ls'/\ aN f ls ls'
 | .b9 xs=>∃ys,v'= .b9 ys/\ bQ f xs ys
def be (f:List Nat):List V->List V->Prop
 |[],[]=>True
 |v::vs,v'::vs'=>bC f v v'/\ be f vs vs'
 |_,_=>False
def bX (f:List Nat)(ob ob':Y0):Prop:=
 match ob with
 | .box cs=>∃cs',ob'= .box cs'/\ aN f cs cs'
 | .dead=>True
 |ob=>ob'=ob
def bj (f:List Nat)(h':List Y0):List Nat->List Y0->Prop
 |[],[]=>True
 |o::os,ob::obs=>(∃ob',h'[o]? =some ob'/\ bX f ob ob')/\ bj f h' os obs
 |_,_=>False
structure YG (f:List Nat) (h h':List Y0):Prop where
 nodup:f.Nodup
 len:f.length=h.length
 obs:∀(i o:Nat)(ob:Y0),f[i]? =some o->h[i]? =some ob->∃ob',h'[o]? =some ob'/\ bX f ob ob'
structure Cln (f:List Nat) (Z X:St):Prop where
 heap:YG f Z.h X.h
 tmps:be f Z.t X.t
def Cw {f:List Nat}{h':List Y0}:∀{os:List Nat}{obs:List Y0},bj f h' os obs->os.length=obs.length/\ ∀(i o:Nat)(ob:Y0),os[i]? =some o->obs[i]? =some ob->∃ob',h'[o]? =some ob'/\ bX f ob ob'
 |[],[],_=>⟨rfl,fun i o ob h=>by simp at h⟩
 |o::os,ob::obs,h=>by
  obtain⟨h1,h2⟩:=Cw h.2
  refine⟨by simp[h1],fun i o' ob' e1 e2=> ?_⟩
  cases i with
  |zero=>simp at e1 e2;subst e1 e2;exact h.1
  |succ i=>exact h2 i o' ob' (by simpa using e1) (by simpa using e2)
 |[],_::_,h=>h.elim
 |_::_,[],h=>h.elim
def Cln.of (f:List Nat){t t':List V}{h h':List Y0}(nd:f.Nodup)(ho:bj f h' f h)(ht:be f t t'):Cln f ⟨t,h⟩ ⟨t',h'⟩:=
 ⟨⟨nd,(Cw ho).1,(Cw ho).2⟩,ht⟩
section
variable {f:List Nat}{h h':List Y0}
def L.cD {g:List Nat}{l l':L}(e:l.bD f=some l'):l.bD (f++g)=some l':=by
 have key:∀{o o':Nat},f[o]? =some o'->(f++g)[o]? =some o':=fun{o o'}h=>by
  rw[Ze (Zb.1 h).1];exact h
 cases l with
 |ptr o i j=>
  simp only[L.bD]at e⊢
  split at e
  ·rename_i o' h1;rw[key h1];exact e
  ·cases e
 |arr o=>
  simp only[L.bD]at e⊢
  split at e
  ·rename_i o' h1;rw[key h1];exact e
  ·cases e
 |sub o c=>
  simp only[L.bD]at e⊢
  split at e
  ·rename_i o' h1;rw[key h1];exact e
  ·cases e
 |_=>exact e
def dC.mono {g:List Nat}{l l':L}(e:dC f l l'):dC (f++g) l l':=e.imp id L.cD
def aN.mono {g:List Nat}:∀{ls ls':List L},aN f ls ls'->aN (f++g) ls ls'
 |[],[],_=>trivial
 |_::_,_::_,e=>⟨e.1.mono,aN.mono e.2⟩
 |[],_::_,e=>e.elim
 |_::_,[],e=>e.elim
def fu.mono {g:List Nat}:∀{ls ls':List L},fu f ls ls'->fu (f++g) ls ls'
 |[],[],_=>trivial
 |_::_,_::_,e=>⟨L.cD e.1,fu.mono e.2⟩
 |[],_::_,e=>e.elim
 |_::_,[],e=>e.elim
def bQ.mono {g:List Nat}:∀{xs ys:List (Bool×List L)},bQ f xs ys->bQ (f++g) xs ys
 |[],[],_=>trivial
 |_::_,_::_,e=>⟨e.1,e.2.1.mono,bQ.mono e.2.2⟩
 |[],_::_,e=>e.elim
 |_::_,[],e=>e.elim
def bC.mono {g:List Nat}{v v':V}(e:bC f v v'):bC (f++g) v v':=by
 cases v with
 |one l=>
  rcases e with e|⟨l',e1,e2⟩
  ·exact .inl e
  ·exact .inr ⟨l',e1,L.cD e2⟩
 |agg ls=>obtain⟨ls',e1,e2⟩:=e;exact⟨ls',e1,e2.mono⟩
 |b9 xs=>obtain⟨ys,e1,e2⟩:=e;exact⟨ys,e1,e2.mono⟩
def be.mono {g:List Nat}:∀{vs vs':List V},be f vs vs'->be (f++g) vs vs'
 |[],[],_=>trivial
 |_::_,_::_,e=>⟨e.1.mono,be.mono e.2⟩
 |[],_::_,e=>e.elim
 |_::_,[],e=>e.elim
def bX.mono {g:List Nat}{ob ob':Y0}(e:bX f ob ob'):bX (f++g) ob ob':=by
 cases ob with
 |box cs=>obtain⟨cs',e1,e2⟩:=e;exact⟨cs',e1,e2.mono⟩
 |_=>exact e
def fu.rel :∀{ls ls':List L},fu f ls ls'->aN f ls ls'
 |[],[],_=>trivial
 |_::_,_::_,e=>⟨.inr e.1,fu.rel e.2⟩
 |[],_::_,e=>e.elim
 |_::_,[],e=>e.elim
def aN.length :∀{ls ls':List L},aN f ls ls'->ls.length=ls'.length
 |[],[],_=>rfl
 |_::_,_::_,e=>by simp[aN.length e.2]
 |[],_::_,e=>e.elim
 |_::_,[],e=>e.elim
def aN.at :∀{ls ls':List L}{i:Nat}{l:L},aN f ls ls'->ls[i]? =some l->∃l',ls'[i]? =some l'/\ dC f l l'
 |[],[],_,_,_,h=>by simp at h
 |a::ls,b::ls',0,l,e,h=>by simp at h;subst h;exact⟨b,rfl,e.1⟩
 |a::ls,b::ls',i+1,l,e,h=>by simpa using aN.at e.2 (i:=i) (by simpa using h)
 |[],_::_,_,_,e,_=>e.elim
 |_::_,[],_,_,e,_=>e.elim
def aN.drop :∀{ls ls':List L}(n:Nat),aN f ls ls'->aN f (ls.drop n) (ls'.drop n)
 |_,_,0,e=>e
 |[],[],_+1,_=>trivial
 |_::_,_::_,n+1,e=>by simpa using aN.drop n e.2
 |[],_::_,_+1,e=>e.elim
 |_::_,[],_+1,e=>e.elim
def aN.take :∀{ls ls':List L}(n:Nat),aN f ls ls'->aN f (ls.take n) (ls'.take n)
 |_,_,0,e=>by simp only[ZQ];trivial
 |[],[],_+1,_=>trivial
 |_::_,_::_,n+1,e=>⟨e.1,aN.take n e.2⟩
 |[],_::_,_+1,e=>e.elim
 |_::_,[],_+1,e=>e.elim
def aN.append :∀{ls ls' ms ad:List L},aN f ls ls'->aN f ms ad->aN f (ls++ms) (ls'++ad)
 |[],[],_,_,_,k=>k
 |_::_,_::_,_,_,e,k=>⟨e.1,aN.append e.2 k⟩
 |[],_::_,_,_,e,_=>e.elim
 |_::_,[],_,_,e,_=>e.elim
def tO :∀(ps:List PV),aN f (ps.map .pv) (ps.map .pv)
 |[]=>trivial
 |p::ps=>⟨.inr rfl,tO ps⟩
def aN.putAt {cs cs' ls ls':List L}(j:Nat)(e:aN f cs cs')(k:aN f ls ls'):aN f (Gi.putAt cs j ls) (Gi.putAt cs' j ls'):=by
 unfold Gi.putAt
 rw[k.length]
 exact((e.take j).append k).append (e.drop _)
def bC.one {l l':L}(e:dC f l l'):bC f (.one l) (.one l'):=e.imp id (fun h=>⟨l',rfl,h⟩)
def p8 {p:PV}{v':V}(e:bC f (.one (.pv p)) v'):v'= .one (.pv p):=by
 rcases e with e|⟨l',rfl,e⟩
 ·cases e
 ·simp only[L.bD]at e;cases e;rfl
def bC.pv (p:PV):bC f (.one (.pv p)) (.one (.pv p)):= .inr ⟨_,rfl,rfl⟩
def bC.none :bC f (.b9 []) (.b9 []):=⟨[],rfl,trivial⟩
def Qo {p:PV}{l':L}(e:dC f (.pv p) l'):l'= .pv p:=by
 rcases e with e|e
 ·cases e
 ·simp only[L.bD]at e;cases e;rfl
def be.getD :∀{vs vs':List V}(n:Nat),be f vs vs'->bC f (vs.getD n (.b9 [])) (vs'.getD n (.b9 []))
 |[],[],n,_=>by simpa using bC.none
 |_::_,_::_,0,e=>by simpa using e.1
 |_::_,_::_,n+1,e=>by simpa using be.getD n e.2
 |[],_::_,_,e=>e.elim
 |_::_,[],_,e=>e.elim
def be.set :∀{vs vs':List V}(n:Nat){v v':V},be f vs vs'->bC f v v'->be f (vs.set n v) (vs'.set n v')
 |[],[],_,_,_,_,_=>trivial
 |_::_,_::_,0,_,_,e,k=>⟨k,e.2⟩
 |_::_,_::_,n+1,_,_,e,k=>⟨e.1,be.set n e.2 k⟩
 |[],_::_,_,_,_,e,_=>e.elim
 |_::_,[],_,_,_,e,_=>e.elim
def be.put {vs vs':List V}(d:Option Nat){v v':V}(e:be f vs vs')(k:bC f v v'):be f (Gi.put vs d v) (Gi.put vs' d v'):=by
 cases d with
 |none=>exact e
 |some d=>exact e.set d k
def Cln.ev {Z X:St}(s:Cln f Z X):∀(x:Opd),bC f (x.ev Z) (x.ev X)
 | .tmp n=>s.tmps.getD n
 | .pv p=>bC.pv p
 | .nil=> .inr ⟨_,rfl,rfl⟩
 | .fn k=> .inr ⟨_,rfl,rfl⟩
def be.ev {Z X:St}(s:Cln f Z X):∀(xs:List Opd),be f (xs.map (Opd.ev Z)) (xs.map (Opd.ev X))
 |[]=>trivial
 |x::xs=>⟨s.ev x,be.ev s xs⟩
def bC.isInt {v v':V}{k:IntKind}{n:Int}(r:bC f v v')(e:isInt v=some (k,n)):isInt v'=some (k,n):=by
 unfold Gi.isInt at e
 split at e
 ·cases e;rw[p8 r];rfl
 ·cases e
def bC.isStr {v v':V}{s:List UInt8}(r:bC f v v')(e:isStr v=some s):isStr v'=some s:=by
 unfold Gi.isStr at e
 split at e
 ·cases e;rw[p8 r];rfl
 ·cases e
def bC.isBool {v v':V}{b:Bool}(r:bC f v v')(e:isBool v=some b):isBool v'=some b:=by
 unfold Gi.isBool at e
 split at e
 ·cases e;rw[p8 r];rfl
 ·cases e
def QV {op:BinOp}{k:IntKind}{a b:Int}{v:V}(h:cG op k a b=some v):∃r,v=V.one (.pv r):=by
 unfold cG at h
 split at h<;>first|(cases h;exact⟨_,rfl⟩)|(split at h<;>first|(cases h;done)|(cases h;exact⟨_,rfl⟩))|cases h
def CU {op:BinOp}{k:IntKind}{a b:Int}{v:V}(h:nw op k a b=some v):∃r,v=V.one (.pv r):=by
 unfold nw at h
 split at h
 ·cases h
 ·split at h<;>first|(cases h;exact⟨_,rfl⟩)|cases h
def QW {op:BinOp}{a b:List UInt8}{v:V}(h:jN op a b=some v):∃r,v=V.one (.pv r):=by
 unfold jN at h
 split at h<;>first|(cases h;exact⟨_,rfl⟩)|(split at h<;>first|(cases h;done)|(cases h;exact⟨_,rfl⟩))|cases h
def V5 {op:BinOp}{x y v:V}(h:bin op x y=some v):∃p q r,x= .one (.pv p)/\ y= .one (.pv q)/\ v= .one (.pv r):=by
 unfold bin at h
 split at h
 ·split at h
  ·obtain⟨r,rfl⟩:=CU h;exact⟨_,_,r,rfl,rfl,rfl⟩
  ·obtain⟨r,rfl⟩:=CU h;exact⟨_,_,r,rfl,rfl,rfl⟩
  ·split at h
   ·obtain⟨r,rfl⟩:=QV h;exact⟨_,_,r,rfl,rfl,rfl⟩
   ·cases h
 ·obtain⟨r,rfl⟩:=QW h
  exact⟨_,_,r,rfl,rfl,rfl⟩
 ·cases h
def Xy {op:UnOp}{x v:V}(h:un op x=some v):∃p r,x= .one (.pv p)/\ v= .one (.pv r):=by
 unfold un at h
 split at h
 ·cases h;exact⟨_,_,rfl,rfl⟩
 ·cases h;exact⟨_,_,rfl,rfl⟩
 ·cases h
def wA {g:Bool}{n j:Nat}{cs cs':List L}{v:V}(r:aN f cs cs')(e:gv g n j cs=some v):∃v',gv g n j cs'=some v'/\ bC f v v':=by
 unfold gv at e⊢
 rw[<-r.length]
 split at e
 ·rename_i h1
  rw[if_pos h1]
  split at e
  ·rename_i h2
   rw[if_pos h2]
   cases e
   exact⟨_,rfl,_,rfl,(r.drop j).take n⟩
  ·rename_i h2
   rw[if_neg h2]
   split at e
   ·rename_i h3
    rw[if_pos h3]
    split at e
    ·rename_i l h4
     cases e
     obtain⟨l',h5,h6⟩:=r.at h4
     rw[h5]
     exact⟨_,rfl,bC.one h6⟩
    ·cases e
   ·cases e
 ·cases e
def YG.get (k:YG f h h'){i o:Nat}(e:f[i]? =some o):∃ob ob',h[i]? =some ob/\ h'[o]? =some ob'/\ bX f ob ob':=by
 have hi:i<h.length:=by rw[<-k.len];exact(Zb.1 e).1
 obtain⟨ob',h1,h2⟩:=k.obs i o h[i] e (by simp[hi])
 exact⟨h[i],ob',by simp[hi],h1,h2⟩
def YG.lt (k:YG f h h'){i o:Nat}(e:f[i]? =some o):o<h'.length:=by
 obtain⟨ob,ob',_,h2,_⟩:=k.get e
 exact(Zb.1 h2).1
def YG.inj (k:YG f h h'){i j o:Nat}(e1:f[i]? =some o)(e2:f[j]? =some o):i=j:=by
 obtain⟨l1,e1⟩:=Zb.1 e1
 obtain⟨l2,e2⟩:=Zb.1 e2
 have hp:=List.pairwise_iff_getElem.1 k.nodup
 rcases Nat.lt_trichotomy i j with q|q|q
 ·exact absurd (e1.trans e2.symm) (hp i j l1 l2 q)
 ·exact q
 ·exact absurd (e2.trans e1.symm) (hp j i l2 l1 q)
def YG.set (k:YG f h h'){i o:Nat}(e:f[i]? =some o){ob ob':Y0}(r:bX f ob ob'):YG f (h.set i ob) (h'.set o ob'):=by
 refine⟨k.nodup,by simp[k.len],fun j p x e1 e2=> ?_⟩
 have a7:=k.lt e
 by_cases a5:i=j
 ·subst a5
  rw[e]at e1;cases e1
  have hi:i<h.length:=by rw[<-k.len];exact(Zb.1 e).1
  rw[Zd hi]at e2
  cases e2
  exact⟨ob',Zd a7,r⟩
 ·rw[Za a5]at e2
  have a8:o≠p:=fun q=>a5 (k.inj e (by rw[e1,q]))
  obtain⟨x',h1,h2⟩:=k.obs j p x e1 e2
  exact⟨x',by rw[Za a8];exact h1,h2⟩
def YG.setR (k:YG f h h'){i o:Nat}(e:f[i]? =some o)(hd:h[i]? =some .dead)(ob':Y0):YG f h (h'.set o ob'):=by
 refine⟨k.nodup,k.len,fun j p x e1 e2=> ?_⟩
 have a7:=k.lt e
 by_cases a5:i=j
 ·subst a5
  rw[e]at e1;cases e1
  rw[hd]at e2;cases e2
  exact⟨ob',Zd a7,trivial⟩
 ·have a8:o≠p:=fun q=>a5 (k.inj e (by rw[e1,q]))
  obtain⟨x',h1,h2⟩:=k.obs j p x e1 e2
  exact⟨x',by rw[Za a8];exact h1,h2⟩
def YG.push (k:YG f h h'){ob ob':Y0}(r:bX (f++[h'.length]) ob ob'):YG (f++[h'.length]) (h++[ob]) (h'++[ob']):=by
 refine⟨?_,by simp[k.len],fun i o x e1 e2=> ?_⟩
 ·refine List.nodup_append.2 ⟨k.nodup,by simp,fun a ha b hb=> ?_⟩
  simp at hb;subst hb
  obtain⟨i,hi⟩:=List.getElem?_of_mem ha
  have:=k.lt hi
  omega
 ·by_cases hi:i<f.length
  ·rw[Ze hi]at e1
   rw[Ze (by rw[<-k.len];exact hi)]at e2
   obtain⟨x',h1,h2⟩:=k.obs i o x e1 e2
   exact⟨x',by rw[Ze (k.lt e1)];exact h1,h2.mono⟩
  ·have ae:i<(f++[h'.length]).length:=(Zb.1 e1).1
   have:i=f.length:=by simp at ae;omega
   subst this
   rw[Zk (Zn _)]at e1
   simp at e1
   subst e1
   rw[k.len,Zk (Zn _)]at e2
   simp at e2
   subst e2
   exact⟨ob',by rw[Zk (Zn _)];simp,r⟩
def aP {ob ob':Y0}(r:bX f ob ob')(hb:∀cs,ob≠ .box cs)(hd:ob≠ .dead):ob'=ob:=by
 cases ob with
 |box cs=>exact absurd rfl (hb cs)
 |dead=>exact absurd rfl hd
 |_=>exact r
def gm {o:Nat}{l':L}(e:L.bD f (.arr o)=some l'):∃o',f[o]? =some o'/\ l'= .arr o':=by
 simp only[L.bD]at e
 split at e
 ·cases e;exact⟨_,by assumption,rfl⟩
 ·cases e
def gT {o i j:Nat}{l':L}(e:L.bD f (.ptr o i j)=some l'):∃o',f[o]? =some o'/\ l'= .ptr o' i j:=by
 simp only[L.bD]at e
 split at e
 ·cases e;exact⟨_,by assumption,rfl⟩
 ·cases e
def p9 {o c:Nat}{l':L}(e:L.bD f (.sub o c)=some l'):∃o',f[o]? =some o'/\ l'= .sub o' c:=by
 simp only[L.bD]at e
 split at e
 ·cases e;exact⟨_,by assumption,rfl⟩
 ·cases e
def dC.view (k:YG f h h'){l l':L}{p:PV}(r:dC f l l')(e:l.view h=some p):l.bD f=some l'/\ l'.view h'=some p/\ l.mut h=l'.mut h':=by
 rcases r with rfl|r
 ·cases e
 refine⟨r,?_⟩
 cases l with
 |arr o=>
  obtain⟨o',h1,rfl⟩:=gm r
  obtain⟨ob,ob',h2,h3,h4⟩:=k.get h1
  simp only[L.view,h2]at e
  cases ob with
  |arr z es=>rw[aP h4 (by simp) (by simp)]at h3;exact⟨by simp only[L.view,h3];exact e,by simp[L.mut,h2,h3]⟩
  |bH z es=>rw[aP h4 (by simp) (by simp)]at h3;exact⟨by simp only[L.view,h3];exact e,by simp[L.mut,h2,h3]⟩
  |bA z es=>rw[aP h4 (by simp) (by simp)]at h3;exact⟨by simp only[L.view,h3];exact e,by simp[L.mut,h2,h3]⟩
  |_=>cases e
 |pv q=>simp only[L.bD]at r;cases r;exact⟨e,rfl⟩
 |nil=>simp only[L.bD]at r;cases r;exact⟨e,rfl⟩
 |_=>cases e
def aN.view (k:YG f h h'):∀{ls ls':List L}{ps:List PV},aN f ls ls'->viewL h ls=some ps->fu f ls ls'/\ viewL h' ls'=some ps/\ ls.any (L.mut h)=ls'.any (L.mut h')
 |[],[],_,_,e=>⟨trivial,e,rfl⟩
 |l::ls,l'::ls',ps,r,e=>by
  simp only[viewL]at e
  split at e
  ·rename_i p qs h1 h2
   cases e
   obtain⟨a1,a2,a3⟩:=r.1.view k h1
   obtain⟨b1,b2,b3⟩:=aN.view k r.2 h2
   refine⟨⟨a1,b1⟩,by simp only[viewL,a2,b2],by simp only[List.any_cons,a3,b3]⟩
  ·cases e
 |[],_::_,_,e,_=>e.elim
 |_::_,[],_,e,_=>e.elim
def bC.view (k:YG f h h'){v v' a:V}(r:bC f v v')(e:v.view h=some a):fu f v.cells v'.cells/\ v'.view h'=some a/\ v.mut h=v'.mut h':=by
 cases v with
 |one l=>
  rcases r with rfl|⟨l',rfl,r⟩
  ·cases e
  have key:∀{p:PV},l.view h=some p->(V.one l).view h=some (.one (.pv p))->(∀kk caps,l≠ .fn kk caps)->fu f (V.one l).cells (V.one l').cells/\ (V.one l').view h'=some (.one (.pv p))/\ (V.one l).mut h=(V.one l').mut h':=fun{p}h1 _ hn=>by
   obtain⟨a1,a2,a3⟩:=(show dC f l l' from .inr r).view k h1
   refine⟨⟨a1,trivial⟩,?_,by simp[V.mut,V.cells,a3]⟩
   cases l' with
   |fn kk caps=>cases a2
   |_=>simp only[V.view,a2]
  cases l with
  |fn kk caps=>
   simp only[L.bD]at r
   cases r
   exact⟨⟨rfl,trivial⟩,e,rfl⟩
  |pv p=>
   have e':=e
   simp only[V.view,L.view]at e'
   cases e'
   exact key rfl e (by simp)
  |arr o=>
   have e':=e
   simp only[V.view]at e'
   split at e'
   ·rename_i p hp
    cases e'
    exact key hp e (by simp)
   ·cases e'
  |nil=>
   have e':=e
   simp only[V.view,L.view]at e'
   cases e'
   exact key rfl e (by simp)
  |_=>cases e
 |agg ls=>
  obtain⟨ls',rfl,r⟩:=r
  simp only[V.view]at e⊢
  split at e
  ·rename_i ps hp
   cases e
   obtain⟨b1,b2,b3⟩:=r.view k hp
   exact⟨b1,by rw[b2],b3⟩
  ·cases e
 |b9 xs=>cases e
def tU (f:List Nat):List V->List V->Prop
 |[],[]=>True
 |v::vs,v'::vs'=>fu f v.cells v'.cells/\ tU f vs vs'
 |_,_=>False
def tU.mono {g:List Nat}:∀{vs vs':List V},tU f vs vs'->tU (f++g) vs vs'
 |[],[],_=>trivial
 |_::_,_::_,e=>⟨e.1.mono,tU.mono e.2⟩
 |[],_::_,e=>e.elim
 |_::_,[],e=>e.elim
def be.view (k:YG f h h'):∀{vs vs' xz:List V},be f vs vs'->al h vs=some xz->tU f vs vs'/\ al h' vs'=some xz/\ vs.any (V.mut h)=vs'.any (V.mut h')
 |[],[],_,_,e=>⟨trivial,e,rfl⟩
 |v::vs,v'::vs',xz,r,e=>by
  simp only[al]at e
  split at e
  ·rename_i p qs h1 h2
   cases e
   obtain⟨a1,a2,a3⟩:=r.1.view k h1
   obtain⟨b1,b2,b3⟩:=be.view k r.2 h2
   refine⟨⟨a1,b1⟩,by simp only[al,a2,b2],by simp only[List.any_cons,a3,b3]⟩
  ·cases e
 |[],_::_,_,e,_=>e.elim
 |_::_,[],_,e,_=>e.elim
def be.rows (k:YG f h h'):∀{vs vs':List V}{es:List (List PV)},be f vs vs'->aY h vs=some es->tU f vs vs'/\ aY h' vs'=some es
 |[],[],_,_,e=>⟨trivial,e⟩
 |v::vs,v'::vs',xz,r,e=>by
  simp only[aY]at e
  split at e
  ·rename_i p qs h1 h2
   cases e
   have a:fu f v.cells v'.cells/\ viewL h' v'.cells=some p:=by
    cases v with
    |one l=>
     rcases r.1 with rfl|⟨l',rfl,r1⟩
     ·cases h1
     ·obtain⟨a1,a2,_⟩:=(show aN f [l] [l']from⟨.inr r1,trivial⟩).view k h1
      exact⟨a1,a2⟩
    |agg ls=>
     obtain⟨ls',rfl,r1⟩:=r.1
     obtain⟨a1,a2,_⟩:=r1.view k h1
     exact⟨a1,a2⟩
    |b9 xs=>cases h1
   obtain⟨b1,b2⟩:=be.rows k r.2 h2
   exact⟨⟨a.1,b1⟩,by simp only[aY,a.2,b2]⟩
  ·cases e
 |[],_::_,_,e,_=>e.elim
 |_::_,[],_,e,_=>e.elim
def bC.asList (k:YG f h h'){v v':V}{es:List (List PV)}(r:bC f v v')(e:asList h v=some es):asList h' v'=some es/\ fu f v.cells v'.cells:=by
 cases v with
 |one l=>
  rcases r with rfl|⟨l',rfl,r⟩
  ·cases e
  simp only[Gi.asList]at e⊢
  split at e
  ·rename_i es' h1
   cases e
   obtain⟨a1,a2,_⟩:=(show dC f l l' from .inr r).view k h1
   rw[a2]
   exact⟨rfl,a1,trivial⟩
  ·cases e
 |_=>cases e
def YG.freezeL (k:YG f h h'){l l':L}(r:l.bD f=some l'):YG f (freezeL h l) (freezeL h' l'):=by
 cases l with
 |arr o=>
  obtain⟨o',h1,rfl⟩:=gm r
  obtain⟨ob,ob',h2,h3,h4⟩:=k.get h1
  simp only[Gi.freezeL,h2,h3]
  cases ob with
  |arr z es=>rw[aP h4 (by simp) (by simp)];exact k.set h1 rfl
  |bA z es=>rw[aP h4 (by simp) (by simp)];exact k.set h1 rfl
  |bB z es=>rw[aP h4 (by simp) (by simp)];exact k
  |bH z es=>rw[aP h4 (by simp) (by simp)];exact k
  |bL ps=>rw[aP h4 (by simp) (by simp)];exact k
  |bT n=>rw[aP h4 (by simp) (by simp)];exact k
  |res=>rw[aP h4 (by simp) (by simp)];exact k
  |box cs=>obtain⟨cs',rfl,_⟩:=h4;exact k
  |dead=>
   cases ob' with
   |arr z es=>exact k.setR h1 h2 _
   |bA z es=>exact k.setR h1 h2 _
   |_=>exact k
 |ptr o i j=>obtain⟨o',h1,rfl⟩:=gT r;exact k
 |sub o c=>obtain⟨o',h1,rfl⟩:=p9 r;exact k
 |c6 o l q=>cases r
 |_=>simp only[L.bD]at r;cases r;exact k
def YG.freezeLs :∀{ls ls':List L}{h h':List Y0},YG f h h'->fu f ls ls'->YG f (freezeLs h ls) (freezeLs h' ls')
 |[],[],_,_,k,_=>k
 |_::ls,_::ls',h,h',k,r=>YG.freezeLs (ls:=ls) (ls':=ls') (k.freezeL r.1) r.2
 |[],_::_,_,_,_,e=>e.elim
 |_::_,[],_,_,_,e=>e.elim
def YG.freezeVs :∀{vs vs':List V}{h h':List Y0},YG f h h'->tU f vs vs'->YG f (freezeVs h vs) (freezeVs h' vs')
 |[],[],_,_,k,_=>k
 |_::vs,_::vs',h,h',k,r=>YG.freezeVs (vs:=vs) (vs':=vs') (k.freezeLs r.1) r.2
 |[],_::_,_,_,_,e=>e.elim
 |_::_,[],_,_,_,e=>e.elim
def YG.thawL :∀{ls:List L}{f:List Nat}{h h':List Y0},YG f h h'->ls.all L.clean=true->∃g,YG (f++g) (thawL h ls).2 (thawL h' ls).2/\ fu (f++g) (thawL h ls).1 (thawL h' ls).1
 |[],f,h,h',k,_=>⟨[],by simpa[Gi.thawL]using⟨k,trivial⟩⟩
 |l::ls,f,h,h',k,hc=>by
  simp only[Zq,Zh]at hc
  cases l with
  |own z es=>
   obtain⟨g,k1,k2⟩:=YG.thawL (ls:=ls) (k.push (ob:= .arr z es) (ob':= .arr z es) rfl) hc.2
   refine⟨[h'.length]++g,?_⟩
   simp only[Gi.thawL]
   rw[<-List.append_assoc]
   refine⟨k1,?_,k2⟩
   have:(f++[h'.length]++g)[h.length]? =some h'.length:=by
    rw[Ze (by simp[k.len]),<-k.len]
    simp
   simp only[L.bD,this]
  |down z es=>
   obtain⟨g,k1,k2⟩:=YG.thawL (ls:=ls) (k.push (ob:= .bA z es) (ob':= .bA z es) rfl) hc.2
   refine⟨[h'.length]++g,?_⟩
   simp only[Gi.thawL]
   rw[<-List.append_assoc]
   refine⟨k1,?_,k2⟩
   have:(f++[h'.length]++g)[h.length]? =some h'.length:=by
    rw[Ze (by simp[k.len]),<-k.len]
    simp
   simp only[L.bD,this]
  |pv p=>
   obtain⟨g,k1,k2⟩:=YG.thawL (ls:=ls) k hc.2
   exact⟨g,by simpa only[Gi.thawL]using k1,by simp only[Gi.thawL];exact⟨rfl,k2⟩⟩
  |nil=>
   obtain⟨g,k1,k2⟩:=YG.thawL (ls:=ls) k hc.2
   exact⟨g,by simpa only[Gi.thawL]using k1,by simp only[Gi.thawL];exact⟨rfl,k2⟩⟩
  |_=>exact absurd hc.1 (by simp[L.clean])
def YG.thawT :∀{xs:List (Bool×List L)}{f:List Nat}{h h':List Y0},YG f h h'->(xs.all fun x=>x.2.all L.clean)=true->∃g,YG (f++g) (thawT h xs).2 (thawT h' xs).2/\ bQ (f++g) (thawT h xs).1 (thawT h' xs).1
 |[],f,h,h',k,_=>⟨[],by simpa[Gi.thawT]using⟨k,trivial⟩⟩
 |(b,ls)::xs,f,h,h',k,hc=>by
  simp only[Zq,Zh]at hc
  obtain⟨g,k1,k2⟩:=k.thawL hc.1
  obtain⟨g',k3,k4⟩:=YG.thawT (xs:=xs) k1 hc.2
  refine⟨g++g',?_⟩
  simp only[Gi.thawT]
  rw[<-List.append_assoc]
  exact⟨k3,rfl,k2.rel.mono,k4⟩
def YG.thaw (k:YG f h h'){r:V}(hc:r.clean=true):∃g,YG (f++g) (thaw h r).2 (thaw h' r).2/\ bC (f++g) (thaw h r).1 (thaw h' r).1:=by
 cases r with
 |one l=>
  obtain⟨g,k1,k2⟩:=k.thawL (ls:=[l]) (by simpa[V.clean]using hc)
  refine⟨g,?_⟩
  cases l with
  |own z es=>
   simp only[Gi.thaw,Gi.thawL]at k1 k2⊢
   exact⟨k1, .inr ⟨_,rfl,k2.1⟩⟩
  |down z es=>
   simp only[Gi.thaw,Gi.thawL]at k1 k2⊢
   exact⟨k1, .inr ⟨_,rfl,k2.1⟩⟩
  |pv p=>
   simp only[Gi.thaw,Gi.thawL]at k1 k2⊢
   exact⟨k1, .inr ⟨_,rfl,k2.1⟩⟩
  |nil=>
   simp only[Gi.thaw,Gi.thawL]at k1 k2⊢
   exact⟨k1, .inr ⟨_,rfl,k2.1⟩⟩
  |_=>simp[V.clean,L.clean]at hc
 |agg ls=>
  obtain⟨g,k1,k2⟩:=k.thawL (ls:=ls) (by simpa[V.clean]using hc)
  exact⟨g,by simpa only[Gi.thaw]using k1,_,by simp only[Gi.thaw],k2.rel⟩
 |b9 xs=>
  obtain⟨g,k1,k2⟩:=k.thawT (xs:=xs) (by simpa[V.clean]using hc)
  exact⟨g,by simpa only[Gi.thaw]using k1,_,by simp only[Gi.thaw],k2⟩
def Cv :∀{ls:List L},ls.all L.clean=true->aN f (ls.map df) (ls.map df)
 |[],_=>trivial
 |l::ls,hc=>by
  simp only[Zq,Zh]at hc
  refine⟨.inr ?_,Cv hc.2⟩
  cases l with
  |own z es=>rfl
  |down z es=>rfl
  |pv p=>rfl
  |nil=>rfl
  |_=>exact absurd hc.1 (by simp[L.clean])
def Jk :∀{xs:List (Bool×List L)},(xs.all fun x=>x.2.all L.clean)=true->bQ f (xs.map fun x=>(x.1,x.2.map df)) (xs.map fun x=>(x.1,x.2.map df))
 |[],_=>trivial
 |(b,ls)::xs,hc=>by
  simp only[Zq,Zh]at hc
  exact⟨rfl,Cv hc.1,Jk hc.2⟩
def G1 {r:V}(hc:r.clean=true):bC f (da r) (da r):=by
 cases r with
 |one l=>
  cases l with
  |own z es=>exact .inr ⟨_,rfl,rfl⟩
  |down z es=>exact .inr ⟨_,rfl,rfl⟩
  |pv p=>exact .inr ⟨_,rfl,rfl⟩
  |nil=>exact .inr ⟨_,rfl,rfl⟩
  |_=>simp[V.clean,L.clean]at hc
 |agg ls=>exact⟨_,rfl,Cv (by simpa[V.clean]using hc)⟩
 |b9 xs=>exact⟨_,rfl,Jk (by simpa[V.clean]using hc)⟩
def Q3 (k:YG f h h'){v v':V}{e:List PV}{h1:List Y0}(r:bC f v v')(hc:pY h v=some (e,h1)):∃a6,pY h' v'=some (e,a6)/\ YG f h1 a6:=by
 cases v with
 |one l=>
  rcases r with rfl|⟨l',rfl,r⟩
  ·cases hc
  cases l with
  |ptr o i j=>
   obtain⟨o',g1,rfl⟩:=gT r
   obtain⟨ob,ob',g2,g3,g4⟩:=k.get g1
   simp only[pY,g2]at hc
   simp only[pY,g3]
   split at hc
   ·rename_i a5
    rw[if_pos a5]
    cases ob with
    |box cs=>
     obtain⟨cs',rfl,rr⟩:=g4
     simp only at hc⊢
     split at hc
     ·rename_i ps hp
      obtain⟨b1,b2,b3⟩:=rr.view k hp
      rw[b2]
      split at hc
      ·rename_i hm
       cases hc
       have af:(cs'.all fun l=> !(L.mut h' l))=true:=by
        have e1:∀(hh:List Y0)(l:List L),(l.all fun x=> !(L.mut hh x))= !(l.any (L.mut hh)):=fun hh l=>by
         induction l with
         |nil=>rfl
         |cons a l ih=>simp only[Zq,List.any_cons,ih,Bool.not_or]
        rw[e1]at hm⊢
        rw[<-b3];exact hm
       simp only[af,if_true]
       exact⟨_,rfl,k.set g1 rfl⟩
      ·cases hc
     ·cases hc
    |bL ps=>
     rw[aP g4 (by simp) (by simp)]
     simp only at hc⊢
     cases hc
     exact⟨_,rfl,k⟩
    |_=>cases hc
   ·cases hc
  |ip e' j=>
   simp only[L.bD]at r
   cases r
   simp only[pY]at hc⊢
   split at hc
   ·rename_i hj
    cases hc
    rw[if_pos hj]
    exact⟨_,rfl,k⟩
   ·cases hc
  |_=>cases hc
 |_=>cases hc
def Fa :∀{vs vs':List V}{h h':List Y0}{es:List (List PV)}{h1:List Y0},YG f h h'->be f vs vs'->kQ h vs=some (es,h1)->∃a6,kQ h' vs'=some (es,a6)/\ YG f h1 a6
 |[],[],h,h',_,_,k,_,e=>by simp only[kQ]at e⊢;cases e;exact⟨_,rfl,k⟩
 |v::vs,v'::vs',h,h',es,h1,k,r,e=>by
  simp only[kQ]at e⊢
  split at e
  ·rename_i e0 h0 c0
   obtain⟨ag,d0,k0⟩:=Q3 k r.1 c0
   split at e
   ·rename_i es' h2 c1
    cases e
    obtain⟨ah,d1,k1⟩:=Fa k0 r.2 c1
    simp only[d0,d1]
    exact⟨_,rfl,k1⟩
   ·cases e
  ·cases e
 |[],_::_,_,_,_,_,_,e,_=>e.elim
 |_::_,[],_,_,_,_,_,e,_=>e.elim
def Mr :∀{ks:List EK}{xz bs aa ab:List L}{b:Bool},aN f xz aa->aN f bs ab->p5 ks xz bs=some b->p5 ks aa ab=some b
 |[],_,_,_,_,_,_,_,e=>by simp only[p5]at e⊢;exact e
 |k::ks,a::xz,b::bs,a'::aa,b'::ab,x,r,s,e=>by
  simp only[p5]at e⊢
  split at e
  ·rename_i u v h1 h2
   have h3:PT k a' b'=some u:=by
    unfold PT at h1
    split at h1<;>first|(rw[Qo r.1,Qo s.1];exact h1)|cases h1
   rw[h3,Mr r.2 s.2 h2]
   exact e
  ·cases e
 |_::_,[],_,_,_,_,_,_,e=>by simp only[p5]at e;cases e
 |_::_,_::_,[],_,_,_,_,_,e=>by simp only[p5]at e;cases e
 |_::_,_::_,_::_,[],_,_,r,_,_=>r.elim
 |_::_,_::_,_::_,_::_,[],_,_,s,_=>s.elim
end
end Gi
