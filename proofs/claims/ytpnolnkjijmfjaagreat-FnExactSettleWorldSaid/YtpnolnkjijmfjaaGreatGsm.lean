/- Of this proof. -/
import Derived.Test.YtpnolnkjijmfjaaGreatGiv
set_option linter.all false
namespace Gi
open Go
def L.bD (f:List Nat):L->Option L
 | .ptr o i j=>match f[o]? with
  |some o'=>some (.ptr o' i j)
  |none=>none
 | .arr o=>match f[o]? with
  |some o'=>some (.arr o')
  |none=>none
 | .sub o c=>match f[o]? with
  |some o'=>some (.sub o' c)
  |none=>none
 | .cB _ _ _=>none
 |l=>some l
def fI (f:List Nat)(l l':L):Prop:=l= .bw \/l.bD f=some l'
def cZ (f:List Nat):List L->List L->Prop
 |[],[]=>True
 |l::ls,l'::ls'=>fI f l l'/\ cZ f ls ls'
 |_,_=>False
def iJ (f:List Nat):List L->List L->Prop
 |[],[]=>True
 |l::ls,l'::ls'=>l.bD f=some l'/\ iJ f ls ls'
 |_,_=>False
def ed (f:List Nat):List (Bool×List L)->List (Bool×List L)->Prop
 |[],[]=>True
 |x::xs,y::ys=>x.1=y.1/\ cZ f x.2 y.2/\ ed f xs ys
 |_,_=>False
def dQ (f:List Nat)(v v':V):Prop:=
 match v with
 | .one l=>l= .bw \/∃l',v'= .one l'/\ l.bD f=some l'
 | .agg ls=>∃ls',v'= .agg ls'/\ cZ f ls ls'
 | .b8 xs=>∃ys,v'= .b8 ys/\ ed f xs ys
def dj (f:List Nat):List V->List V->Prop
 |[],[]=>True
 |v::vs,v'::vs'=>dQ f v v'/\ dj f vs vs'
 |_,_=>False
def eB (f:List Nat)(ob ob':Q0):Prop:=
 match ob with
 | .box cs=>∃cs',ob'= .box cs'/\ cZ f cs cs'
 | .dead=>True
 |ob=>ob'=ob
def dH (f:List Nat)(h':List Q0):List Nat->List Q0->Prop
 |[],[]=>True
 |o::os,ob::obs=>(∃ob',h'[o]? =some ob'/\ eB f ob ob')/\ dH f h' os obs
 |_,_=>False
structure Y3 (f:List Nat) (h h':List Q0):Prop where
 nodup:f.Nodup
 len:f.length=h.length
 obs:∀(i o:Nat)(ob:Q0),f[i]? =some o->h[i]? =some ob->∃ob',h'[o]? =some ob'/\ eB f ob ob'
structure Cln (f:List Nat) (Z X:St):Prop where
 heap:Y3 f Z.h X.h
 tmps:dj f Z.t X.t
def FU {f:List Nat}{h':List Q0}:∀{os:List Nat}{obs:List Q0},dH f h' os obs->os.length=obs.length/\ ∀(i o:Nat)(ob:Q0),os[i]? =some o->obs[i]? =some ob->∃ob',h'[o]? =some ob'/\ eB f ob ob'
 |[],[],_=>⟨rfl,fun i o ob h=>by simp at h⟩
 |o::os,ob::obs,h=>by
  obtain⟨h1,h2⟩:=FU h.2;refine⟨by simp[h1],fun i o' ob' e1 e2=> ?_⟩;cases i with
  |zero=>simp at e1 e2;subst e1 e2;exact h.1
  |succ i=>exact h2 i o' ob' (by simpa using e1) (by simpa using e2)
 |[],_::_,h=>h.elim
 |_::_,[],h=>h.elim
def Cln.of (f:List Nat){t t':List V}{h h':List Q0}(nd:f.Nodup)(ho:dH f h' f h)(ht:dj f t t'):Cln f ⟨t,h⟩ ⟨t',h'⟩:=
 ⟨⟨nd,(FU ho).1,(FU ho).2⟩,ht⟩
section
variable {f:List Nat}{h h':List Q0}
def L.cJ {g:List Nat}{l l':L}(e:l.bD f=some l'):l.bD (f++g)=some l':=by
 have key:∀{o o':Nat},f[o]? =some o'->(f++g)[o]? =some o':=fun{o o'}h=>by rw[Ze (Zb.1 h).1];exact h
 cases l with
 |ptr o i j=>simp only[L.bD]at e⊢;split at e;rename_i o' h1;rw[key h1];exact e;cases e
 |arr o=>simp only[L.bD]at e⊢;split at e;rename_i o' h1;rw[key h1];exact e;cases e
 |sub o c=>simp only[L.bD]at e⊢;split at e;rename_i o' h1;rw[key h1];exact e;cases e
 |_=>exact e
def fI.mono {g:List Nat}{l l':L}(e:fI f l l'):fI (f++g) l l':=e.imp id L.cJ
def cZ.mono {g:List Nat}:∀{ls ls':List L},cZ f ls ls'->cZ (f++g) ls ls'
 |[],[],_=>trivial
 |_::_,_::_,e=>⟨e.1.mono,cZ.mono e.2⟩
 |[],_::_,e=>e.elim
 |_::_,[],e=>e.elim
def iJ.mono {g:List Nat}:∀{ls ls':List L},iJ f ls ls'->iJ (f++g) ls ls'
 |[],[],_=>trivial
 |_::_,_::_,e=>⟨L.cJ e.1,iJ.mono e.2⟩
 |[],_::_,e=>e.elim
 |_::_,[],e=>e.elim
def ed.mono {g:List Nat}:∀{xs ys:List (Bool×List L)},ed f xs ys->ed (f++g) xs ys
 |[],[],_=>trivial
 |_::_,_::_,e=>⟨e.1,e.2.1.mono,ed.mono e.2.2⟩
 |[],_::_,e=>e.elim
 |_::_,[],e=>e.elim
def dQ.mono {g:List Nat}{v v':V}(e:dQ f v v'):dQ (f++g) v v':=by
 cases v with
 |one l=>rcases e with e|⟨l',e1,e2⟩;exact .inl e;exact .inr ⟨l',e1,L.cJ e2⟩
 |agg ls=>obtain⟨ls',e1,e2⟩:=e;exact⟨ls',e1,e2.mono⟩
 |b8 xs=>obtain⟨ys,e1,e2⟩:=e;exact⟨ys,e1,e2.mono⟩
def dj.mono {g:List Nat}:∀{vs vs':List V},dj f vs vs'->dj (f++g) vs vs'
 |[],[],_=>trivial
 |_::_,_::_,e=>⟨e.1.mono,dj.mono e.2⟩
 |[],_::_,e=>e.elim
 |_::_,[],e=>e.elim
def eB.mono {g:List Nat}{ob ob':Q0}(e:eB f ob ob'):eB (f++g) ob ob':=by
 cases ob with
 |box cs=>obtain⟨cs',e1,e2⟩:=e;exact⟨cs',e1,e2.mono⟩
 |_=>exact e
def iJ.rel :∀{ls ls':List L},iJ f ls ls'->cZ f ls ls'
 |[],[],_=>trivial
 |_::_,_::_,e=>⟨.inr e.1,iJ.rel e.2⟩
 |[],_::_,e=>e.elim
 |_::_,[],e=>e.elim
def cZ.length :∀{ls ls':List L},cZ f ls ls'->ls.length=ls'.length
 |[],[],_=>rfl
 |_::_,_::_,e=>by simp[cZ.length e.2]
 |[],_::_,e=>e.elim
 |_::_,[],e=>e.elim
def cZ.at :∀{ls ls':List L}{i:Nat}{l:L},cZ f ls ls'->ls[i]? =some l->∃l',ls'[i]? =some l'/\ fI f l l'
 |[],[],_,_,_,h=>by simp at h
 |a::ls,b::ls',0,l,e,h=>by simp at h;subst h;exact⟨b,rfl,e.1⟩
 |a::ls,b::ls',i+1,l,e,h=>by simpa using cZ.at e.2 (i:=i) (by simpa using h)
 |[],_::_,_,_,e,_=>e.elim
 |_::_,[],_,_,e,_=>e.elim
def cZ.drop :∀{ls ls':List L}(n:Nat),cZ f ls ls'->cZ f (ls.drop n) (ls'.drop n)
 |_,_,0,e=>e
 |[],[],_+1,_=>trivial
 |_::_,_::_,n+1,e=>by simpa using cZ.drop n e.2
 |[],_::_,_+1,e=>e.elim
 |_::_,[],_+1,e=>e.elim
def cZ.take :∀{ls ls':List L}(n:Nat),cZ f ls ls'->cZ f (ls.take n) (ls'.take n)
 |_,_,0,e=>by simp only[ZM];trivial
 |[],[],_+1,_=>trivial
 |_::_,_::_,n+1,e=>⟨e.1,cZ.take n e.2⟩
 |[],_::_,_+1,e=>e.elim
 |_::_,[],_+1,e=>e.elim
def cZ.append :∀{ls ls' ms ab:List L},cZ f ls ls'->cZ f ms ab->cZ f (ls++ms) (ls'++ab)
 |[],[],_,_,_,k=>k
 |_::_,_::_,_,_,e,k=>⟨e.1,cZ.append e.2 k⟩
 |[],_::_,_,_,e,_=>e.elim
 |_::_,[],_,_,e,_=>e.elim
def xG :∀(ps:List PV),cZ f (ps.map .pv) (ps.map .pv)
 |[]=>trivial
 |p::ps=>⟨.inr rfl,xG ps⟩
def cZ.putAt {cs cs' ls ls':List L}(j:Nat)(e:cZ f cs cs')(k:cZ f ls ls'):cZ f (Gi.putAt cs j ls) (Gi.putAt cs' j ls'):=by unfold Gi.putAt;rw[k.length];exact((e.take j).append k).append (e.drop _)
def dQ.one {l l':L}(e:fI f l l'):dQ f (.one l) (.one l'):=e.imp id (fun h=>⟨l',rfl,h⟩)
def uq {p:PV}{v':V}(e:dQ f (.one (.pv p)) v'):v'= .one (.pv p):=by rcases e with e|⟨l',rfl,e⟩;cases e;simp only[L.bD]at e;cases e;rfl
def dQ.pv (p:PV):dQ f (.one (.pv p)) (.one (.pv p)):= .inr ⟨_,rfl,rfl⟩
def dQ.none :dQ f (.b8 []) (.b8 []):=⟨[],rfl,trivial⟩
def Vb {p:PV}{l':L}(e:fI f (.pv p) l'):l'= .pv p:=by rcases e with e|e;cases e;simp only[L.bD]at e;cases e;rfl
def dj.getD :∀{vs vs':List V}(n:Nat),dj f vs vs'->dQ f (vs.getD n (.b8 [])) (vs'.getD n (.b8 []))
 |[],[],n,_=>by simpa using dQ.none
 |_::_,_::_,0,e=>by simpa using e.1
 |_::_,_::_,n+1,e=>by simpa using dj.getD n e.2
 |[],_::_,_,e=>e.elim
 |_::_,[],_,e=>e.elim
def dj.set :∀{vs vs':List V}(n:Nat){v v':V},dj f vs vs'->dQ f v v'->dj f (vs.set n v) (vs'.set n v')
 |[],[],_,_,_,_,_=>trivial
 |_::_,_::_,0,_,_,e,k=>⟨k,e.2⟩
 |_::_,_::_,n+1,_,_,e,k=>⟨e.1,dj.set n e.2 k⟩
 |[],_::_,_,_,_,e,_=>e.elim
 |_::_,[],_,_,_,e,_=>e.elim
def dj.put {vs vs':List V}(d:Option Nat){v v':V}(e:dj f vs vs')(k:dQ f v v'):dj f (Gi.put vs d v) (Gi.put vs' d v'):=by
 cases d with
 |none=>exact e
 |some d=>exact e.set d k
def Cln.ev {Z X:St}(s:Cln f Z X):∀(x:Opd),dQ f (x.ev Z) (x.ev X)
 | .tmp n=>s.tmps.getD n
 | .pv p=>dQ.pv p
 | .nil=> .inr ⟨_,rfl,rfl⟩
 | .fn k=> .inr ⟨_,rfl,rfl⟩
def dj.ev {Z X:St}(s:Cln f Z X):∀(xs:List Opd),dj f (xs.map (Opd.ev Z)) (xs.map (Opd.ev X))
 |[]=>trivial
 |x::xs=>⟨s.ev x,dj.ev s xs⟩
def dQ.isInt {v v':V}{k:IntKind}{n:Int}(r:dQ f v v')(e:isInt v=some (k,n)):isInt v'=some (k,n):=by unfold Gi.isInt at e;split at e;cases e;rw[uq r];rfl;cases e
def dQ.isStr {v v':V}{s:List UInt8}(r:dQ f v v')(e:isStr v=some s):isStr v'=some s:=by unfold Gi.isStr at e;split at e;cases e;rw[uq r];rfl;cases e
def dQ.isBool {v v':V}{b:Bool}(r:dQ f v v')(e:isBool v=some b):isBool v'=some b:=by unfold Gi.isBool at e;split at e;cases e;rw[uq r];rfl;cases e
def VK {op:BinOp}{k:IntKind}{a b:Int}{v:V}(h:ft op k a b=some v):∃r,v=V.one (.pv r):=by unfold ft at h;split at h<;>first|(cases h;exact⟨_,rfl⟩)|(split at h<;>first|(cases h;done)|(cases h;exact⟨_,rfl⟩))|cases h
def Gk {op:BinOp}{k:IntKind}{a b:Int}{v:V}(h:qw op k a b=some v):∃r,v=V.one (.pv r):=by
 unfold qw at h;split at h;cases h
 ·split at h<;>first|(cases h;exact⟨_,rfl⟩)|cases h
def VL {op:BinOp}{a b:List UInt8}{v:V}(h:mJ op a b=some v):∃r,v=V.one (.pv r):=by unfold mJ at h;split at h<;>first|(cases h;exact⟨_,rfl⟩)|(split at h<;>first|(cases h;done)|(cases h;exact⟨_,rfl⟩))|cases h
def ad4 {op:BinOp}{x y v:V}(h:bin op x y=some v):∃p q r,x= .one (.pv p)/\ y= .one (.pv q)/\ v= .one (.pv r):=by unfold bin at h;split at h;split at h;obtain⟨r,rfl⟩:=Gk h;exact⟨_,_,r,rfl,rfl,rfl⟩;obtain⟨r,rfl⟩:=Gk h;exact⟨_,_,r,rfl,rfl,rfl⟩;split at h;obtain⟨r,rfl⟩:=VK h;exact⟨_,_,r,rfl,rfl,rfl⟩;cases h;obtain⟨r,rfl⟩:=VL h;exact⟨_,_,r,rfl,rfl,rfl⟩;cases h
def afu {op:UnOp}{x v:V}(h:un op x=some v):∃p r,x= .one (.pv p)/\ v= .one (.pv r):=by unfold un at h;split at h;cases h;exact⟨_,_,rfl,rfl⟩;cases h;exact⟨_,_,rfl,rfl⟩;cases h
def Aq {g:Bool}{n j:Nat}{cs cs':List L}{v:V}(r:cZ f cs cs')(e:ja g n j cs=some v):∃v',ja g n j cs'=some v'/\ dQ f v v':=by unfold ja at e⊢;rw[<-r.length];split at e;rename_i h1;rw[if_pos h1];split at e;rename_i h2;rw[if_pos h2];cases e;exact⟨_,rfl,_,rfl,(r.drop j).take n⟩;rename_i h2;rw[if_neg h2];split at e;rename_i h3;rw[if_pos h3];split at e;rename_i l h4;cases e;obtain⟨l',h5,h6⟩:=r.at h4;rw[h5];exact⟨_,rfl,dQ.one h6⟩;cases e;cases e;cases e
def Y3.get (k:Y3 f h h'){i o:Nat}(e:f[i]? =some o):∃ob ob',h[i]? =some ob/\ h'[o]? =some ob'/\ eB f ob ob':=by
 have hi:i<h.length:=by rw[<-k.len];exact(Zb.1 e).1
 obtain⟨ob',h1,h2⟩:=k.obs i o h[i] e (by simp[hi]);exact⟨h[i],ob',by simp[hi],h1,h2⟩
def Y3.lt (k:Y3 f h h'){i o:Nat}(e:f[i]? =some o):o<h'.length:=by obtain⟨ob,ob',_,h2,_⟩:=k.get e;exact(Zb.1 h2).1
def Y3.inj (k:Y3 f h h'){i j o:Nat}(e1:f[i]? =some o)(e2:f[j]? =some o):i=j:=by obtain⟨l1,e1⟩:=Zb.1 e1;obtain⟨l2,e2⟩:=Zb.1 e2;have hp:=QU.1 k.nodup;rcases QV i j with q|q|q;exact absurd (e1.trans e2.symm) (hp i j l1 l2 q);exact q;exact absurd (e2.trans e1.symm) (hp j i l2 l1 q)
def Y3.set (k:Y3 f h h'){i o:Nat}(e:f[i]? =some o){ob ob':Q0}(r:eB f ob ob'):Y3 f (h.set i ob) (h'.set o ob'):=by
 refine⟨k.nodup,by simp[k.len],fun j p x e1 e2=> ?_⟩;have hlt:=k.lt e;by_cases a5:i=j;subst a5;rw[e]at e1;cases e1;have hi:i<h.length:=by rw[<-k.len];exact(Zb.1 e).1
 rw[Zd hi]at e2;cases e2;exact⟨ob',Zd hlt,r⟩;rw[Za a5]at e2;have a7:o≠p:=fun q=>a5 (k.inj e (by rw[e1,q]));obtain⟨x',h1,h2⟩:=k.obs j p x e1 e2;exact⟨x',by rw[Za a7];exact h1,h2⟩
def Y3.setR (k:Y3 f h h'){i o:Nat}(e:f[i]? =some o)(hd:h[i]? =some .dead)(ob':Q0):Y3 f h (h'.set o ob'):=by refine⟨k.nodup,k.len,fun j p x e1 e2=> ?_⟩;have hlt:=k.lt e;by_cases a5:i=j;subst a5;rw[e]at e1;cases e1;rw[hd]at e2;cases e2;exact⟨ob',Zd hlt,trivial⟩;have a7:o≠p:=fun q=>a5 (k.inj e (by rw[e1,q]));obtain⟨x',h1,h2⟩:=k.obs j p x e1 e2;exact⟨x',by rw[Za a7];exact h1,h2⟩
def Y3.push (k:Y3 f h h'){ob ob':Q0}(r:eB (f++[h'.length]) ob ob'):Y3 (f++[h'.length]) (h++[ob]) (h'++[ob']):=by
 refine⟨?_,by simp[k.len],fun i o x e1 e2=> ?_⟩;refine List.nodup_append.2 ⟨k.nodup,by simp,fun a ha b hb=> ?_⟩;simp at hb;subst hb;obtain⟨i,hi⟩:=List.getElem?_of_mem ha;have:=k.lt hi;omega;by_cases hi:i<f.length;rw[Ze hi]at e1;rw[Ze (by rw[<-k.len];exact hi)]at e2;obtain⟨x',h1,h2⟩:=k.obs i o x e1 e2;exact⟨x',by rw[Ze (k.lt e1)];exact h1,h2.mono⟩;have ad:i<(f++[h'.length]).length:=(Zb.1 e1).1;have:i=f.length:=by simp at ad;omega
 subst this;rw[Zm (Zi _)]at e1;simp at e1;subst e1;rw[k.len,Zm (Zi _)]at e2;simp at e2;subst e2;exact⟨ob',by rw[Zm (Zi _)];simp,r⟩
def dk {ob ob':Q0}(r:eB f ob ob')(hb:∀cs,ob≠ .box cs)(hd:ob≠ .dead):ob'=ob:=by
 cases ob with
 |box cs=>exact absurd rfl (hb cs)
 |dead=>exact absurd rfl hd
 |_=>exact r
def jB {o:Nat}{l':L}(e:L.bD f (.arr o)=some l'):∃o',f[o]? =some o'/\ l'= .arr o':=by simp only[L.bD]at e;split at e;cases e;exact⟨_,by assumption,rfl⟩;cases e
def j8 {o i j:Nat}{l':L}(e:L.bD f (.ptr o i j)=some l'):∃o',f[o]? =some o'/\ l'= .ptr o' i j:=by simp only[L.bD]at e;split at e;cases e;exact⟨_,by assumption,rfl⟩;cases e
def ur {o c:Nat}{l':L}(e:L.bD f (.sub o c)=some l'):∃o',f[o]? =some o'/\ l'= .sub o' c:=by simp only[L.bD]at e;split at e;cases e;exact⟨_,by assumption,rfl⟩;cases e
def fI.view (k:Y3 f h h'){l l':L}{p:PV}(r:fI f l l')(e:l.view h=some p):l.bD f=some l'/\ l'.view h'=some p/\ l.mut h=l'.mut h':=by
 rcases r with rfl|r;cases e;refine⟨r,?_⟩;cases l with
 |arr o=>
  obtain⟨o',h1,rfl⟩:=jB r;obtain⟨ob,ob',h2,h3,h4⟩:=k.get h1;simp only[L.view,h2]at e;cases ob with
  |arr z es=>rw[dk h4 (by simp) (by simp)]at h3;exact⟨by simp only[L.view,h3];exact e,by simp[L.mut,h2,h3]⟩
  |bI z es=>rw[dk h4 (by simp) (by simp)]at h3;exact⟨by simp only[L.view,h3];exact e,by simp[L.mut,h2,h3]⟩
  |bA z es=>rw[dk h4 (by simp) (by simp)]at h3;exact⟨by simp only[L.view,h3];exact e,by simp[L.mut,h2,h3]⟩
  |_=>cases e
 |pv q=>simp only[L.bD]at r;cases r;exact⟨e,rfl⟩
 |nil=>simp only[L.bD]at r;cases r;exact⟨e,rfl⟩
 |_=>cases e
def cZ.view (k:Y3 f h h'):∀{ls ls':List L}{ps:List PV},cZ f ls ls'->viewL h ls=some ps->iJ f ls ls'/\ viewL h' ls'=some ps/\ ls.any (L.mut h)=ls'.any (L.mut h')
 |[],[],_,_,e=>⟨trivial,e,rfl⟩
 |l::ls,l'::ls',ps,r,e=>by simp only[viewL]at e;split at e;rename_i p qs h1 h2;cases e;obtain⟨a1,a2,a3⟩:=r.1.view k h1;obtain⟨b1,b2,b3⟩:=cZ.view k r.2 h2;refine⟨⟨a1,b1⟩,by simp only[viewL,a2,b2],by simp only[Qd,a3,b3]⟩;cases e
 |[],_::_,_,e,_=>e.elim
 |_::_,[],_,e,_=>e.elim
def dQ.view (k:Y3 f h h'){v v' a:V}(r:dQ f v v')(e:v.view h=some a):iJ f v.cells v'.cells/\ v'.view h'=some a/\ v.mut h=v'.mut h':=by
 cases v with
 |one l=>
  rcases r with rfl|⟨l',rfl,r⟩;cases e;have key:∀{p:PV},l.view h=some p->(V.one l).view h=some (.one (.pv p))->(∀kk caps,l≠ .fn kk caps)->iJ f (V.one l).cells (V.one l').cells/\ (V.one l').view h'=some (.one (.pv p))/\ (V.one l).mut h=(V.one l').mut h':=fun{p}h1 _ hn=>by
   obtain⟨a1,a2,a3⟩:=(show fI f l l' from .inr r).view k h1;refine⟨⟨a1,trivial⟩,?_,by simp[V.mut,V.cells,a3]⟩;cases l' with
   |fn kk caps=>cases a2
   |_=>simp only[V.view,a2]
  cases l with
  |fn kk caps=>simp only[L.bD]at r;cases r;exact⟨⟨rfl,trivial⟩,e,rfl⟩
  |pv p=>have e':=e;simp only[V.view,L.view]at e';cases e';exact key rfl e (by simp)
  |arr o=>have e':=e;simp only[V.view]at e';split at e';rename_i p hp;cases e';exact key hp e (by simp);cases e'
  |nil=>have e':=e;simp only[V.view,L.view]at e';cases e';exact key rfl e (by simp)
  |_=>cases e
 |agg ls=>obtain⟨ls',rfl,r⟩:=r;simp only[V.view]at e⊢;split at e;rename_i ps hp;cases e;obtain⟨b1,b2,b3⟩:=r.view k hp;exact⟨b1,by rw[b2],b3⟩;cases e
 |b8 xs=>cases e
def xL (f:List Nat):List V->List V->Prop
 |[],[]=>True
 |v::vs,v'::vs'=>iJ f v.cells v'.cells/\ xL f vs vs'
 |_,_=>False
def xL.mono {g:List Nat}:∀{vs vs':List V},xL f vs vs'->xL (f++g) vs vs'
 |[],[],_=>trivial
 |_::_,_::_,e=>⟨e.1.mono,xL.mono e.2⟩
 |[],_::_,e=>e.elim
 |_::_,[],e=>e.elim
def dj.view (k:Y3 f h h'):∀{vs vs' xz:List V},dj f vs vs'->cy h vs=some xz->xL f vs vs'/\ cy h' vs'=some xz/\ vs.any (V.mut h)=vs'.any (V.mut h')
 |[],[],_,_,e=>⟨trivial,e,rfl⟩
 |v::vs,v'::vs',xz,r,e=>by simp only[cy]at e;split at e;rename_i p qs h1 h2;cases e;obtain⟨a1,a2,a3⟩:=r.1.view k h1;obtain⟨b1,b2,b3⟩:=dj.view k r.2 h2;refine⟨⟨a1,b1⟩,by simp only[cy,a2,b2],by simp only[Qd,a3,b3]⟩;cases e
 |[],_::_,_,e,_=>e.elim
 |_::_,[],_,e,_=>e.elim
def dj.rows (k:Y3 f h h'):∀{vs vs':List V}{es:List (List PV)},dj f vs vs'->cQ h vs=some es->xL f vs vs'/\ cQ h' vs'=some es
 |[],[],_,_,e=>⟨trivial,e⟩
 |v::vs,v'::vs',xz,r,e=>by
  simp only[cQ]at e;split at e;rename_i p qs h1 h2;cases e;have a:iJ f v.cells v'.cells/\ viewL h' v'.cells=some p:=by
   cases v with
   |one l=>rcases r.1 with rfl|⟨l',rfl,r1⟩;cases h1;obtain⟨a1,a2,_⟩:=(show cZ f [l] [l']from⟨.inr r1,trivial⟩).view k h1;exact⟨a1,a2⟩
   |agg ls=>obtain⟨ls',rfl,r1⟩:=r.1;obtain⟨a1,a2,_⟩:=r1.view k h1;exact⟨a1,a2⟩
   |b8 xs=>cases h1
  obtain⟨b1,b2⟩:=dj.rows k r.2 h2;exact⟨⟨a.1,b1⟩,by simp only[cQ,a.2,b2]⟩;cases e
 |[],_::_,_,e,_=>e.elim
 |_::_,[],_,e,_=>e.elim
def dQ.asList (k:Y3 f h h'){v v':V}{es:List (List PV)}(r:dQ f v v')(e:asList h v=some es):asList h' v'=some es/\ iJ f v.cells v'.cells:=by
 cases v with
 |one l=>rcases r with rfl|⟨l',rfl,r⟩;cases e;simp only[Gi.asList]at e⊢;split at e;rename_i es' h1;cases e;obtain⟨a1,a2,_⟩:=(show fI f l l' from .inr r).view k h1;rw[a2];exact⟨rfl,a1,trivial⟩;cases e
 |_=>cases e
def Y3.freezeL (k:Y3 f h h'){l l':L}(r:l.bD f=some l'):Y3 f (freezeL h l) (freezeL h' l'):=by
 cases l with
 |arr o=>
  obtain⟨o',h1,rfl⟩:=jB r;obtain⟨ob,ob',h2,h3,h4⟩:=k.get h1;simp only[Gi.freezeL,h2,h3];cases ob with
  |arr z es=>rw[dk h4 (by simp) (by simp)];exact k.set h1 rfl
  |bA z es=>rw[dk h4 (by simp) (by simp)];exact k.set h1 rfl
  |bC z es=>rw[dk h4 (by simp) (by simp)];exact k
  |bI z es=>rw[dk h4 (by simp) (by simp)];exact k
  |bM ps=>rw[dk h4 (by simp) (by simp)];exact k
  |bU n=>rw[dk h4 (by simp) (by simp)];exact k
  |res=>rw[dk h4 (by simp) (by simp)];exact k
  |box cs=>obtain⟨cs',rfl,_⟩:=h4;exact k
  |dead=>
   cases ob' with
   |arr z es=>exact k.setR h1 h2 _
   |bA z es=>exact k.setR h1 h2 _
   |_=>exact k
 |ptr o i j=>obtain⟨o',h1,rfl⟩:=j8 r;exact k
 |sub o c=>obtain⟨o',h1,rfl⟩:=ur r;exact k
 |cB o l q=>cases r
 |_=>simp only[L.bD]at r;cases r;exact k
def Y3.freezeLs :∀{ls ls':List L}{h h':List Q0},Y3 f h h'->iJ f ls ls'->Y3 f (freezeLs h ls) (freezeLs h' ls')
 |[],[],_,_,k,_=>k
 |_::ls,_::ls',h,h',k,r=>Y3.freezeLs (ls:=ls) (ls':=ls') (k.freezeL r.1) r.2
 |[],_::_,_,_,_,e=>e.elim
 |_::_,[],_,_,_,e=>e.elim
def Y3.freezeVs :∀{vs vs':List V}{h h':List Q0},Y3 f h h'->xL f vs vs'->Y3 f (freezeVs h vs) (freezeVs h' vs')
 |[],[],_,_,k,_=>k
 |_::vs,_::vs',h,h',k,r=>Y3.freezeVs (vs:=vs) (vs':=vs') (k.freezeLs r.1) r.2
 |[],_::_,_,_,_,e=>e.elim
 |_::_,[],_,_,_,e=>e.elim
def Y3.thawL :∀{ls:List L}{f:List Nat}{h h':List Q0},Y3 f h h'->ls.all L.clean=true->∃g,Y3 (f++g) (thawL h ls).2 (thawL h' ls).2/\ iJ (f++g) (thawL h ls).1 (thawL h' ls).1
 |[],f,h,h',k,_=>⟨[],by simpa[Gi.thawL]using⟨k,trivial⟩⟩
 |l::ls,f,h,h',k,hc=>by
  simp only[Zq,Zg]at hc;cases l with
  |own z es=>
   obtain⟨g,k1,k2⟩:=Y3.thawL (ls:=ls) (k.push (ob:= .arr z es) (ob':= .arr z es) rfl) hc.2;refine⟨[h'.length]++g,?_⟩;simp only[Gi.thawL];rw[<-List.append_assoc];refine⟨k1,?_,k2⟩;have:(f++[h'.length]++g)[h.length]? =some h'.length:=by rw[Ze (by simp[k.len]),<-k.len];simp
   simp only[L.bD,this]
  |down z es=>
   obtain⟨g,k1,k2⟩:=Y3.thawL (ls:=ls) (k.push (ob:= .bA z es) (ob':= .bA z es) rfl) hc.2;refine⟨[h'.length]++g,?_⟩;simp only[Gi.thawL];rw[<-List.append_assoc];refine⟨k1,?_,k2⟩;have:(f++[h'.length]++g)[h.length]? =some h'.length:=by rw[Ze (by simp[k.len]),<-k.len];simp
   simp only[L.bD,this]
  |pv p=>obtain⟨g,k1,k2⟩:=Y3.thawL (ls:=ls) k hc.2;exact⟨g,by simpa only[Gi.thawL]using k1,by simp only[Gi.thawL];exact⟨rfl,k2⟩⟩
  |nil=>obtain⟨g,k1,k2⟩:=Y3.thawL (ls:=ls) k hc.2;exact⟨g,by simpa only[Gi.thawL]using k1,by simp only[Gi.thawL];exact⟨rfl,k2⟩⟩
  |_=>exact absurd hc.1 (by simp[L.clean])
def Y3.thawT :∀{xs:List (Bool×List L)}{f:List Nat}{h h':List Q0},Y3 f h h'->(xs.all fun x=>x.2.all L.clean)=true->∃g,Y3 (f++g) (thawT h xs).2 (thawT h' xs).2/\ ed (f++g) (thawT h xs).1 (thawT h' xs).1
 |[],f,h,h',k,_=>⟨[],by simpa[Gi.thawT]using⟨k,trivial⟩⟩
 |(b,ls)::xs,f,h,h',k,hc=>by simp only[Zq,Zg]at hc;obtain⟨g,k1,k2⟩:=k.thawL hc.1;obtain⟨g',k3,k4⟩:=Y3.thawT (xs:=xs) k1 hc.2;refine⟨g++g',?_⟩;simp only[Gi.thawT];rw[<-List.append_assoc];exact⟨k3,rfl,k2.rel.mono,k4⟩
def Y3.thaw (k:Y3 f h h'){r:V}(hc:r.clean=true):∃g,Y3 (f++g) (thaw h r).2 (thaw h' r).2/\ dQ (f++g) (thaw h r).1 (thaw h' r).1:=by
 cases r with
 |one l=>
  obtain⟨g,k1,k2⟩:=k.thawL (ls:=[l]) (by simpa[V.clean]using hc);refine⟨g,?_⟩;cases l with
  |own z es=>simp only[Gi.thaw,Gi.thawL]at k1 k2⊢;exact⟨k1, .inr ⟨_,rfl,k2.1⟩⟩
  |down z es=>simp only[Gi.thaw,Gi.thawL]at k1 k2⊢;exact⟨k1, .inr ⟨_,rfl,k2.1⟩⟩
  |pv p=>simp only[Gi.thaw,Gi.thawL]at k1 k2⊢;exact⟨k1, .inr ⟨_,rfl,k2.1⟩⟩
  |nil=>simp only[Gi.thaw,Gi.thawL]at k1 k2⊢;exact⟨k1, .inr ⟨_,rfl,k2.1⟩⟩
  |_=>simp[V.clean,L.clean]at hc
 |agg ls=>obtain⟨g,k1,k2⟩:=k.thawL (ls:=ls) (by simpa[V.clean]using hc);exact⟨g,by simpa only[Gi.thaw]using k1,_,by simp only[Gi.thaw],k2.rel⟩
 |b8 xs=>obtain⟨g,k1,k2⟩:=k.thawT (xs:=xs) (by simpa[V.clean]using hc);exact⟨g,by simpa only[Gi.thaw]using k1,_,by simp only[Gi.thaw],k2⟩
def FT :∀{ls:List L},ls.all L.clean=true->cZ f (ls.map fv) (ls.map fv)
 |[],_=>trivial
 |l::ls,hc=>by
  simp only[Zq,Zg]at hc;refine⟨.inr ?_,FT hc.2⟩;cases l with
  |own z es=>rfl
  |down z es=>rfl
  |pv p=>rfl
  |nil=>rfl
  |_=>exact absurd hc.1 (by simp[L.clean])
def MH :∀{xs:List (Bool×List L)},(xs.all fun x=>x.2.all L.clean)=true->ed f (xs.map fun x=>(x.1,x.2.map fv)) (xs.map fun x=>(x.1,x.2.map fv))
 |[],_=>trivial
 |(b,ls)::xs,hc=>by simp only[Zq,Zg]at hc;exact⟨rfl,FT hc.1,MH hc.2⟩
def Kf {r:V}(hc:r.clean=true):dQ f (fe r) (fe r):=by
 cases r with
 |one l=>
  cases l with
  |own z es=>exact .inr ⟨_,rfl,rfl⟩
  |down z es=>exact .inr ⟨_,rfl,rfl⟩
  |pv p=>exact .inr ⟨_,rfl,rfl⟩
  |nil=>exact .inr ⟨_,rfl,rfl⟩
  |_=>simp[V.clean,L.clean]at hc
 |agg ls=>exact⟨_,rfl,FT (by simpa[V.clean]using hc)⟩
 |b8 xs=>exact⟨_,rfl,MH (by simpa[V.clean]using hc)⟩
def VT (k:Y3 f h h'){v v':V}{e:List PV}{h1:List Q0}(r:dQ f v v')(hc:uj h v=some (e,h1)):∃a6,uj h' v'=some (e,a6)/\ Y3 f h1 a6:=by
 cases v with
 |one l=>
  rcases r with rfl|⟨l',rfl,r⟩;cases hc;cases l with
  |ptr o i j=>
   obtain⟨o',g1,rfl⟩:=j8 r;obtain⟨ob,ob',g2,g3,g4⟩:=k.get g1;simp only[uj,g2]at hc;simp only[uj,g3];split at hc;rename_i a5;rw[if_pos a5];cases ob with
   |box cs=>
    obtain⟨cs',rfl,rr⟩:=g4;simp only at hc⊢;split at hc;rename_i ps hp;obtain⟨b1,b2,b3⟩:=rr.view k hp;rw[b2];split at hc;rename_i hm;cases hc;have ae:(cs'.all fun l=> !(L.mut h' l))=true:=by
     have e1:∀(hh:List Q0)(l:List L),(l.all fun x=> !(L.mut hh x))= !(l.any (L.mut hh)):=fun hh l=>by
      induction l with
      |nil=>rfl
      |cons a l ih=>simp only[Zq,Qd,ih,Bool.not_or]
     rw[e1]at hm⊢;rw[<-b3];exact hm
    simp only[ae,if_true];exact⟨_,rfl,k.set g1 rfl⟩;cases hc;cases hc
   |bM ps=>rw[dk g4 (by simp) (by simp)];simp only at hc⊢;cases hc;exact⟨_,rfl,k⟩
   |_=>cases hc
   cases hc
  |ip e' j=>simp only[L.bD]at r;cases r;simp only[uj]at hc⊢;split at hc;rename_i hj;cases hc;rw[if_pos hj];exact⟨_,rfl,k⟩;cases hc
  |_=>cases hc
 |_=>cases hc
def Iw :∀{vs vs':List V}{h h':List Q0}{es:List (List PV)}{h1:List Q0},Y3 f h h'->dj f vs vs'->nW h vs=some (es,h1)->∃a6,nW h' vs'=some (es,a6)/\ Y3 f h1 a6
 |[],[],h,h',_,_,k,_,e=>by simp only[nW]at e⊢;cases e;exact⟨_,rfl,k⟩
 |v::vs,v'::vs',h,h',es,h1,k,r,e=>by simp only[nW]at e⊢;split at e;rename_i e0 h0 c0;obtain⟨af,d0,k0⟩:=VT k r.1 c0;split at e;rename_i es' h2 c1;cases e;obtain⟨ag,d1,k1⟩:=Iw k0 r.2 c1;simp only[d0,d1];exact⟨_,rfl,k1⟩;cases e;cases e
 |[],_::_,_,_,_,_,_,e,_=>e.elim
 |_::_,[],_,_,_,_,_,e,_=>e.elim
def Rb :∀{ks:List EK}{xz bs a8 aa:List L}{b:Bool},cZ f xz a8->cZ f bs aa->ul ks xz bs=some b->ul ks a8 aa=some b
 |[],_,_,_,_,_,_,_,e=>by simp only[ul]at e⊢;exact e
 |k::ks,a::xz,b::bs,a'::a8,b'::aa,x,r,s,e=>by
  simp only[ul]at e⊢;split at e
  ·rename_i u v h1 h2;have h3:UD k a' b'=some u:=by unfold UD at h1;split at h1<;>first|(rw[Vb r.1,Vb s.1];exact h1)|cases h1
   rw[h3,Rb r.2 s.2 h2];exact e
  cases e
 |_::_,[],_,_,_,_,_,_,e=>by simp only[ul]at e;cases e
 |_::_,_::_,[],_,_,_,_,_,e=>by simp only[ul]at e;cases e
 |_::_,_::_,_::_,[],_,_,r,_,_=>r.elim
 |_::_,_::_,_::_,_::_,[],_,_,s,_=>s.elim
end
end Gi
