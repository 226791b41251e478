/- Of this proof. -/
import Derived.Test.YtebnmoogdmpepaaGreatGiv
set_option linter.unusedSimpArgs false
set_option linter.unusedVariables false
namespace Gi
open Go
def L.ren (f:List Nat):L→Option L
 | .ptr o i j=>match f[o]? with
  |some o'=>some (.ptr o' i j)
  |none=>none
 | .arr o=>match f[o]? with
  |some o'=>some (.arr o')
  |none=>none
 | .sub o c=>match f[o]? with
  |some o'=>some (.sub o' c)
  |none=>none
 |l=>some l
def dv (f:List Nat)(l l':L):Prop:=l= .junk∨l.ren f=some l'
def aN (f:List Nat):List L→List L→Prop
 |[],[]=>True
 |l::ls,l'::ls'=>dv f l l'∧aN f ls ls'
 |_,_=>False
def fh (f:List Nat):List L→List L→Prop
 |[],[]=>True
 |l::ls,l'::ls'=>l.ren f=some l'∧fh f ls ls'
 |_,_=>False
def bR (f:List Nat):List (Bool×List L)→List (Bool×List L)→Prop
 |[],[]=>True
 |x::xs,y::ys=>x.1=y.1∧aN f x.2 y.2∧bR f xs ys
 |_,_=>False
def bC (f:List Nat)(v v':V):Prop:=
 match v with
 | .one l=>l= .junk∨∃l',v'= .one l'∧l.ren f=some l'
 | .agg ls=>∃ls',v'= .agg ls'∧aN f ls ls'
 | .tup xs=>∃ys,v'= .tup ys∧bR f xs ys
def aZ (f:List Nat):List V→List V→Prop
 |[],[]=>True
 |v::vs,v'::vs'=>bC f v v'∧aZ f vs vs'
 |_,_=>False
def bV (f:List Nat)(ob ob':AObj):Prop:=
 match ob with
 | .box cs=>∃cs',ob'= .box cs'∧aN f cs cs'
 | .dead=>True
 |ob=>ob'=ob
def bj (f:List Nat)(h':List AObj):List Nat→List AObj→Prop
 |[],[]=>True
 |o::os,ob::obs=>(∃ob',h'[o]? =some ob'∧bV f ob ob')∧bj f h' os obs
 |_,_=>False
structure HRel (f:List Nat) (h h':List AObj):Prop where
 nodup:f.Nodup
 len:f.length=h.length
 obs:∀(i o:Nat)(ob:AObj),f[i]? =some o→h[i]? =some ob→∃ob',h'[o]? =some ob'∧bV f ob ob'
structure Cln (f:List Nat) (σ τ:St):Prop where
 heap:HRel f σ.h τ.h
 tmps:aZ f σ.t τ.t
theorem BM {f:List Nat}{h':List AObj}:∀{os:List Nat}{obs:List AObj},bj f h' os obs→os.length=obs.length∧∀(i o:Nat)(ob:AObj),os[i]? =some o→obs[i]? =some ob→∃ob',h'[o]? =some ob'∧bV f ob ob'
 |[],[],_=>⟨rfl,fun i o ob h=>by simp at h⟩
 |o::os,ob::obs,h=>by
  obtain⟨h1,h2⟩:=BM h.2
  refine⟨by simp[h1],fun i o' ob' e1 e2=> ?_⟩
  cases i with
  |zero=>simp at e1 e2;subst e1 e2;exact h.1
  |succ i=>exact h2 i o' ob' (by simpa using e1) (by simpa using e2)
 |[],_::_,h=>h.elim
 |_::_,[],h=>h.elim
theorem Cln.of (f:List Nat){t t':List V}{h h':List AObj}(nd:f.Nodup)(ho:bj f h' f h)(ht:aZ f t t'):Cln f ⟨t,h⟩ ⟨t',h'⟩:=
 ⟨⟨nd,(BM ho).1,(BM ho).2⟩,ht⟩
section
variable {f:List Nat}{h h':List AObj}
theorem L.ren_mono {g:List Nat}{l l':L}(e:l.ren f=some l'):l.ren (f++g)=some l':=by
 have key:∀{o o':Nat},f[o]? =some o'→(f++g)[o]? =some o':=fun{o o'}h=>by
  rw[Ze (Zb.1 h).1];exact h
 cases l with
 |ptr o i j=>
  simp only[L.ren]at e⊢
  split at e
  ·rename_i o' h1;rw[key h1];exact e
  ·cases e
 |arr o=>
  simp only[L.ren]at e⊢
  split at e
  ·rename_i o' h1;rw[key h1];exact e
  ·cases e
 |sub o c=>
  simp only[L.ren]at e⊢
  split at e
  ·rename_i o' h1;rw[key h1];exact e
  ·cases e
 |_=>exact e
theorem dv.mono {g:List Nat}{l l':L}(e:dv f l l'):dv (f++g) l l':=e.imp id L.ren_mono
theorem aN.mono {g:List Nat}:∀{ls ls':List L},aN f ls ls'→aN (f++g) ls ls'
 |[],[],_=>trivial
 |_::_,_::_,e=>⟨e.1.mono,aN.mono e.2⟩
 |[],_::_,e=>e.elim
 |_::_,[],e=>e.elim
theorem fh.mono {g:List Nat}:∀{ls ls':List L},fh f ls ls'→fh (f++g) ls ls'
 |[],[],_=>trivial
 |_::_,_::_,e=>⟨L.ren_mono e.1,fh.mono e.2⟩
 |[],_::_,e=>e.elim
 |_::_,[],e=>e.elim
theorem bR.mono {g:List Nat}:∀{xs ys:List (Bool×List L)},bR f xs ys→bR (f++g) xs ys
 |[],[],_=>trivial
 |_::_,_::_,e=>⟨e.1,e.2.1.mono,bR.mono e.2.2⟩
 |[],_::_,e=>e.elim
 |_::_,[],e=>e.elim
theorem bC.mono {g:List Nat}{v v':V}(e:bC f v v'):bC (f++g) v v':=by
 cases v with
 |one l=>
  rcases e with e|⟨l',e1,e2⟩
  ·exact .inl e
  ·exact .inr ⟨l',e1,L.ren_mono e2⟩
 |agg ls=>obtain⟨ls',e1,e2⟩:=e;exact⟨ls',e1,e2.mono⟩
 |tup xs=>obtain⟨ys,e1,e2⟩:=e;exact⟨ys,e1,e2.mono⟩
theorem aZ.mono {g:List Nat}:∀{vs vs':List V},aZ f vs vs'→aZ (f++g) vs vs'
 |[],[],_=>trivial
 |_::_,_::_,e=>⟨e.1.mono,aZ.mono e.2⟩
 |[],_::_,e=>e.elim
 |_::_,[],e=>e.elim
theorem bV.mono {g:List Nat}{ob ob':AObj}(e:bV f ob ob'):bV (f++g) ob ob':=by
 cases ob with
 |box cs=>obtain⟨cs',e1,e2⟩:=e;exact⟨cs',e1,e2.mono⟩
 |_=>exact e
theorem fh.rel :∀{ls ls':List L},fh f ls ls'→aN f ls ls'
 |[],[],_=>trivial
 |_::_,_::_,e=>⟨.inr e.1,fh.rel e.2⟩
 |[],_::_,e=>e.elim
 |_::_,[],e=>e.elim
theorem aN.length :∀{ls ls':List L},aN f ls ls'→ls.length=ls'.length
 |[],[],_=>rfl
 |_::_,_::_,e=>by simp[aN.length e.2]
 |[],_::_,e=>e.elim
 |_::_,[],e=>e.elim
theorem aN.at :∀{ls ls':List L}{i:Nat}{l:L},aN f ls ls'→ls[i]? =some l→∃l',ls'[i]? =some l'∧dv f l l'
 |[],[],_,_,_,h=>by simp at h
 |a::ls,b::ls',0,l,e,h=>by simp at h;subst h;exact⟨b,rfl,e.1⟩
 |a::ls,b::ls',i+1,l,e,h=>by simpa using aN.at e.2 (i:=i) (by simpa using h)
 |[],_::_,_,_,e,_=>e.elim
 |_::_,[],_,_,e,_=>e.elim
theorem aN.drop :∀{ls ls':List L}(n:Nat),aN f ls ls'→aN f (ls.drop n) (ls'.drop n)
 |_,_,0,e=>e
 |[],[],_+1,_=>trivial
 |_::_,_::_,n+1,e=>by simpa using aN.drop n e.2
 |[],_::_,_+1,e=>e.elim
 |_::_,[],_+1,e=>e.elim
theorem aN.take :∀{ls ls':List L}(n:Nat),aN f ls ls'→aN f (ls.take n) (ls'.take n)
 |_,_,0,e=>by simp only[Ya];trivial
 |[],[],_+1,_=>trivial
 |_::_,_::_,n+1,e=>⟨e.1,aN.take n e.2⟩
 |[],_::_,_+1,e=>e.elim
 |_::_,[],_+1,e=>e.elim
theorem aN.append :∀{ls ls' ms ms':List L},aN f ls ls'→aN f ms ms'→aN f (ls++ms) (ls'++ms')
 |[],[],_,_,_,k=>k
 |_::_,_::_,_,_,e,k=>⟨e.1,aN.append e.2 k⟩
 |[],_::_,_,_,e,_=>e.elim
 |_::_,[],_,_,e,_=>e.elim
theorem tv :∀(ps:List PV),aN f (ps.map .pv) (ps.map .pv)
 |[]=>trivial
 |p::ps=>⟨.inr rfl,tv ps⟩
theorem aN.putAt {cs cs' ls ls':List L}(j:Nat)(e:aN f cs cs')(k:aN f ls ls'):aN f (Gi.putAt cs j ls) (Gi.putAt cs' j ls'):=by
 unfold Gi.putAt
 rw[k.length]
 exact((e.take j).append k).append (e.drop _)
theorem bC.one {l l':L}(e:dv f l l'):bC f (.one l) (.one l'):=e.imp id (fun h=>⟨l',rfl,h⟩)
theorem pW {p:PV}{v':V}(e:bC f (.one (.pv p)) v'):v'= .one (.pv p):=by
 rcases e with e|⟨l',rfl,e⟩
 ·cases e
 ·simp only[L.ren]at e;cases e;rfl
theorem bC.pv (p:PV):bC f (.one (.pv p)) (.one (.pv p)):= .inr ⟨_,rfl,rfl⟩
theorem bC.none :bC f (.tup []) (.tup []):=⟨[],rfl,trivial⟩
theorem O9 {p:PV}{l':L}(e:dv f (.pv p) l'):l'= .pv p:=by
 rcases e with e|e
 ·cases e
 ·simp only[L.ren]at e;cases e;rfl
theorem aZ.getD :∀{vs vs':List V}(n:Nat),aZ f vs vs'→bC f (vs.getD n (.tup [])) (vs'.getD n (.tup []))
 |[],[],n,_=>by simpa using bC.none
 |_::_,_::_,0,e=>by simpa using e.1
 |_::_,_::_,n+1,e=>by simpa using aZ.getD n e.2
 |[],_::_,_,e=>e.elim
 |_::_,[],_,e=>e.elim
theorem aZ.set :∀{vs vs':List V}(n:Nat){v v':V},aZ f vs vs'→bC f v v'→aZ f (vs.set n v) (vs'.set n v')
 |[],[],_,_,_,_,_=>trivial
 |_::_,_::_,0,_,_,e,k=>⟨k,e.2⟩
 |_::_,_::_,n+1,_,_,e,k=>⟨e.1,aZ.set n e.2 k⟩
 |[],_::_,_,_,_,e,_=>e.elim
 |_::_,[],_,_,_,e,_=>e.elim
theorem aZ.put {vs vs':List V}(d:Option Nat){v v':V}(e:aZ f vs vs')(k:bC f v v'):aZ f (Gi.put vs d v) (Gi.put vs' d v'):=by
 cases d with
 |none=>exact e
 |some d=>exact e.set d k
theorem Cln.ev {σ τ:St}(s:Cln f σ τ):∀(x:Opd),bC f (x.ev σ) (x.ev τ)
 | .tmp n=>s.tmps.getD n
 | .pv p=>bC.pv p
 | .nil=> .inr ⟨_,rfl,rfl⟩
 | .fn k=> .inr ⟨_,rfl,rfl⟩
theorem aZ.ev {σ τ:St}(s:Cln f σ τ):∀(xs:List Opd),aZ f (xs.map (Opd.ev σ)) (xs.map (Opd.ev τ))
 |[]=>trivial
 |x::xs=>⟨s.ev x,aZ.ev s xs⟩
theorem bC.isInt {v v':V}{k:IntKind}{n:Int}(r:bC f v v')(e:isInt v=some (k,n)):isInt v'=some (k,n):=by
 unfold Gi.isInt at e
 split at e
 ·cases e;rw[pW r];rfl
 ·cases e
theorem bC.isStr {v v':V}{s:List UInt8}(r:bC f v v')(e:isStr v=some s):isStr v'=some s:=by
 unfold Gi.isStr at e
 split at e
 ·cases e;rw[pW r];rfl
 ·cases e
theorem bC.isBool {v v':V}{b:Bool}(r:bC f v v')(e:isBool v=some b):isBool v'=some b:=by
 unfold Gi.isBool at e
 split at e
 ·cases e;rw[pW r];rfl
 ·cases e
theorem PD {op:BinOp}{k:IntKind}{a b:Int}{v:V}(h:cK op k a b=some v):∃r,v=V.one (.pv r):=by
 unfold cK at h
 split at h<;>first|(cases h;exact⟨_,rfl⟩)|(split at h<;>first|(cases h;done)|(cases h;exact⟨_,rfl⟩))|cases h
theorem B3 {op:BinOp}{k:IntKind}{a b:Int}{v:V}(h:mQ op k a b=some v):∃r,v=V.one (.pv r):=by
 unfold mQ at h
 split at h
 ·cases h
 ·split at h<;>first|(cases h;exact⟨_,rfl⟩)|cases h
theorem PE {op:BinOp}{a b:List UInt8}{v:V}(h:jx op a b=some v):∃r,v=V.one (.pv r):=by
 unfold jx at h
 split at h<;>first|(cases h;exact⟨_,rfl⟩)|(split at h<;>first|(cases h;done)|(cases h;exact⟨_,rfl⟩))|cases h
theorem Ut {op:BinOp}{x y v:V}(h:bin op x y=some v):∃p q r,x= .one (.pv p)∧y= .one (.pv q)∧v= .one (.pv r):=by
 unfold bin at h
 split at h
 ·split at h
  ·obtain⟨r,rfl⟩:=B3 h;exact⟨_,_,r,rfl,rfl,rfl⟩
  ·obtain⟨r,rfl⟩:=B3 h;exact⟨_,_,r,rfl,rfl,rfl⟩
  ·split at h
   ·obtain⟨r,rfl⟩:=PD h;exact⟨_,_,r,rfl,rfl,rfl⟩
   ·cases h
 ·obtain⟨r,rfl⟩:=PE h
  exact⟨_,_,r,rfl,rfl,rfl⟩
 ·cases h
theorem Vu {op:UnOp}{x v:V}(h:un op x=some v):∃p r,x= .one (.pv p)∧v= .one (.pv r):=by
 unfold un at h
 split at h
 ·cases h;exact⟨_,_,rfl,rfl⟩
 ·cases h;exact⟨_,_,rfl,rfl⟩
 ·cases h
theorem tU {g:Bool}{n j:Nat}{cs cs':List L}{v:V}(r:aN f cs cs')(e:fR g n j cs=some v):∃v',fR g n j cs'=some v'∧bC f v v':=by
 unfold fR at e⊢
 rw[←r.length]
 split at e
 ·rename_i h1
  rw[if_pos h1]
  split at e
  ·rename_i h2
   rw[if_pos h2]
   cases e
   exact⟨_,rfl,_,rfl,(r.drop j).take n⟩
  ·rename_i h2
   rw[if_neg h2]
   split at e
   ·rename_i h3
    rw[if_pos h3]
    split at e
    ·rename_i l h4
     cases e
     obtain⟨l',h5,h6⟩:=r.at h4
     rw[h5]
     exact⟨_,rfl,bC.one h6⟩
    ·cases e
   ·cases e
 ·cases e
theorem HRel.get (k:HRel f h h'){i o:Nat}(e:f[i]? =some o):∃ob ob',h[i]? =some ob∧h'[o]? =some ob'∧bV f ob ob':=by
 have hi:i<h.length:=by rw[←k.len];exact(Zb.1 e).1
 obtain⟨ob',h1,h2⟩:=k.obs i o h[i] e (by simp[hi])
 exact⟨h[i],ob',by simp[hi],h1,h2⟩
theorem HRel.lt (k:HRel f h h'){i o:Nat}(e:f[i]? =some o):o<h'.length:=by
 obtain⟨ob,ob',_,h2,_⟩:=k.get e
 exact(Zb.1 h2).1
theorem HRel.inj (k:HRel f h h'){i j o:Nat}(e1:f[i]? =some o)(e2:f[j]? =some o):i=j:=by
 obtain⟨l1,e1⟩:=Zb.1 e1
 obtain⟨l2,e2⟩:=Zb.1 e2
 have hp:=List.pairwise_iff_getElem.1 k.nodup
 rcases Nat.lt_trichotomy i j with q|q|q
 ·exact absurd (e1.trans e2.symm) (hp i j l1 l2 q)
 ·exact q
 ·exact absurd (e2.trans e1.symm) (hp j i l2 l1 q)
theorem HRel.set (k:HRel f h h'){i o:Nat}(e:f[i]? =some o){ob ob':AObj}(r:bV f ob ob'):HRel f (h.set i ob) (h'.set o ob'):=by
 refine⟨k.nodup,by simp[k.len],fun j p x e1 e2=> ?_⟩
 have hlt:=k.lt e
 by_cases hij:i=j
 ·subst hij
  rw[e]at e1;cases e1
  have hi:i<h.length:=by rw[←k.len];exact(Zb.1 e).1
  rw[Zd hi]at e2
  cases e2
  exact⟨ob',Zd hlt,r⟩
 ·rw[Za hij]at e2
  have hop:o≠p:=fun q=>hij (k.inj e (by rw[e1,q]))
  obtain⟨x',h1,h2⟩:=k.obs j p x e1 e2
  exact⟨x',by rw[Za hop];exact h1,h2⟩
theorem HRel.setR (k:HRel f h h'){i o:Nat}(e:f[i]? =some o)(hd:h[i]? =some .dead)(ob':AObj):HRel f h (h'.set o ob'):=by
 refine⟨k.nodup,k.len,fun j p x e1 e2=> ?_⟩
 have hlt:=k.lt e
 by_cases hij:i=j
 ·subst hij
  rw[e]at e1;cases e1
  rw[hd]at e2;cases e2
  exact⟨ob',Zd hlt,trivial⟩
 ·have hop:o≠p:=fun q=>hij (k.inj e (by rw[e1,q]))
  obtain⟨x',h1,h2⟩:=k.obs j p x e1 e2
  exact⟨x',by rw[Za hop];exact h1,h2⟩
theorem HRel.push (k:HRel f h h'){ob ob':AObj}(r:bV (f++[h'.length]) ob ob'):HRel (f++[h'.length]) (h++[ob]) (h'++[ob']):=by
 refine⟨?_,by simp[k.len],fun i o x e1 e2=> ?_⟩
 ·refine List.nodup_append.2 ⟨k.nodup,by simp,fun a ha b hb=> ?_⟩
  simp at hb;subst hb
  obtain⟨i,hi⟩:=List.getElem?_of_mem ha
  have:=k.lt hi
  omega
 ·by_cases hi:i<f.length
  ·rw[Ze hi]at e1
   rw[Ze (by rw[←k.len];exact hi)]at e2
   obtain⟨x',h1,h2⟩:=k.obs i o x e1 e2
   exact⟨x',by rw[Ze (k.lt e1)];exact h1,h2.mono⟩
  ·have hi2:i<(f++[h'.length]).length:=(Zb.1 e1).1
   have:i=f.length:=by simp at hi2;omega
   subst this
   rw[Zk (Zm _)]at e1
   simp at e1
   subst e1
   rw[k.len,Zk (Zm _)]at e2
   simp at e2
   subst e2
   exact⟨ob',by rw[Zk (Zm _)];simp,r⟩
theorem aX {ob ob':AObj}(r:bV f ob ob')(hb:∀cs,ob≠ .box cs)(hd:ob≠ .dead):ob'=ob:=by
 cases ob with
 |box cs=>exact absurd rfl (hb cs)
 |dead=>exact absurd rfl hd
 |_=>exact r
theorem fZ {o:Nat}{l':L}(e:L.ren f (.arr o)=some l'):∃o',f[o]? =some o'∧l'= .arr o':=by
 simp only[L.ren]at e
 split at e
 ·cases e;exact⟨_,by assumption,rfl⟩
 ·cases e
theorem gQ {o i j:Nat}{l':L}(e:L.ren f (.ptr o i j)=some l'):∃o',f[o]? =some o'∧l'= .ptr o' i j:=by
 simp only[L.ren]at e
 split at e
 ·cases e;exact⟨_,by assumption,rfl⟩
 ·cases e
theorem pX {o c:Nat}{l':L}(e:L.ren f (.sub o c)=some l'):∃o',f[o]? =some o'∧l'= .sub o' c:=by
 simp only[L.ren]at e
 split at e
 ·cases e;exact⟨_,by assumption,rfl⟩
 ·cases e
theorem dv.view (k:HRel f h h'){l l':L}{p:PV}(r:dv f l l')(e:l.view h=some p):l.ren f=some l'∧l'.view h'=some p∧l.mut h=l'.mut h':=by
 rcases r with rfl|r
 ·cases e
 refine⟨r,?_⟩
 cases l with
 |arr o=>
  obtain⟨o',h1,rfl⟩:=fZ r
  obtain⟨ob,ob',h2,h3,h4⟩:=k.get h1
  simp only[L.view,h2]at e
  cases ob with
  |arr z es=>rw[aX h4 (by simp) (by simp)]at h3;exact⟨by simp only[L.view,h3];exact e,by simp[L.mut,h2,h3]⟩
  |froz z es=>rw[aX h4 (by simp) (by simp)]at h3;exact⟨by simp only[L.view,h3];exact e,by simp[L.mut,h2,h3]⟩
  |darr z es=>rw[aX h4 (by simp) (by simp)]at h3;exact⟨by simp only[L.view,h3];exact e,by simp[L.mut,h2,h3]⟩
  |_=>cases e
 |pv q=>simp only[L.ren]at r;cases r;exact⟨e,rfl⟩
 |nil=>simp only[L.ren]at r;cases r;exact⟨e,rfl⟩
 |_=>cases e
theorem aN.view (k:HRel f h h'):∀{ls ls':List L}{ps:List PV},aN f ls ls'→viewL h ls=some ps→fh f ls ls'∧viewL h' ls'=some ps∧ls.any (L.mut h)=ls'.any (L.mut h')
 |[],[],_,_,e=>⟨trivial,e,rfl⟩
 |l::ls,l'::ls',ps,r,e=>by
  simp only[viewL]at e
  split at e
  ·rename_i p qs h1 h2
   cases e
   obtain⟨a1,a2,a3⟩:=r.1.view k h1
   obtain⟨b1,b2,b3⟩:=aN.view k r.2 h2
   refine⟨⟨a1,b1⟩,by simp only[viewL,a2,b2],by simp only[List.any_cons,a3,b3]⟩
  ·cases e
 |[],_::_,_,e,_=>e.elim
 |_::_,[],_,e,_=>e.elim
theorem bC.view (k:HRel f h h'){v v' a:V}(r:bC f v v')(e:v.view h=some a):fh f v.cells v'.cells∧v'.view h'=some a∧v.mut h=v'.mut h':=by
 cases v with
 |one l=>
  rcases r with rfl|⟨l',rfl,r⟩
  ·cases e
  have key:∀{p:PV},l.view h=some p→(V.one l).view h=some (.one (.pv p))→(∀kk caps,l≠ .fn kk caps)→fh f (V.one l).cells (V.one l').cells∧(V.one l').view h'=some (.one (.pv p))∧(V.one l).mut h=(V.one l').mut h':=fun{p}h1 _ hn=>by
   obtain⟨a1,a2,a3⟩:=(show dv f l l' from .inr r).view k h1
   refine⟨⟨a1,trivial⟩,?_,by simp[V.mut,V.cells,a3]⟩
   cases l' with
   |fn kk caps=>cases a2
   |_=>simp only[V.view,a2]
  cases l with
  |fn kk caps=>
   simp only[L.ren]at r
   cases r
   exact⟨⟨rfl,trivial⟩,e,rfl⟩
  |pv p=>
   have e':=e
   simp only[V.view,L.view]at e'
   cases e'
   exact key rfl e (by simp)
  |arr o=>
   have e':=e
   simp only[V.view]at e'
   split at e'
   ·rename_i p hp
    cases e'
    exact key hp e (by simp)
   ·cases e'
  |nil=>
   have e':=e
   simp only[V.view,L.view]at e'
   cases e'
   exact key rfl e (by simp)
  |_=>cases e
 |agg ls=>
  obtain⟨ls',rfl,r⟩:=r
  simp only[V.view]at e⊢
  split at e
  ·rename_i ps hp
   cases e
   obtain⟨b1,b2,b3⟩:=r.view k hp
   exact⟨b1,by rw[b2],b3⟩
  ·cases e
 |tup xs=>cases e
def tC (f:List Nat):List V→List V→Prop
 |[],[]=>True
 |v::vs,v'::vs'=>fh f v.cells v'.cells∧tC f vs vs'
 |_,_=>False
theorem tC.mono {g:List Nat}:∀{vs vs':List V},tC f vs vs'→tC (f++g) vs vs'
 |[],[],_=>trivial
 |_::_,_::_,e=>⟨e.1.mono,tC.mono e.2⟩
 |[],_::_,e=>e.elim
 |_::_,[],e=>e.elim
theorem aZ.view (k:HRel f h h'):∀{vs vs' xz:List V},aZ f vs vs'→aj h vs=some xz→tC f vs vs'∧aj h' vs'=some xz∧vs.any (V.mut h)=vs'.any (V.mut h')
 |[],[],_,_,e=>⟨trivial,e,rfl⟩
 |v::vs,v'::vs',xz,r,e=>by
  simp only[aj]at e
  split at e
  ·rename_i p qs h1 h2
   cases e
   obtain⟨a1,a2,a3⟩:=r.1.view k h1
   obtain⟨b1,b2,b3⟩:=aZ.view k r.2 h2
   refine⟨⟨a1,b1⟩,by simp only[aj,a2,b2],by simp only[List.any_cons,a3,b3]⟩
  ·cases e
 |[],_::_,_,e,_=>e.elim
 |_::_,[],_,e,_=>e.elim
theorem aZ.rows (k:HRel f h h'):∀{vs vs':List V}{es:List (List PV)},aZ f vs vs'→aP h vs=some es→tC f vs vs'∧aP h' vs'=some es
 |[],[],_,_,e=>⟨trivial,e⟩
 |v::vs,v'::vs',xz,r,e=>by
  simp only[aP]at e
  split at e
  ·rename_i p qs h1 h2
   cases e
   have a:fh f v.cells v'.cells∧viewL h' v'.cells=some p:=by
    cases v with
    |one l=>
     rcases r.1 with rfl|⟨l',rfl,r1⟩
     ·cases h1
     ·obtain⟨a1,a2,_⟩:=(show aN f [l] [l']from⟨.inr r1,trivial⟩).view k h1
      exact⟨a1,a2⟩
    |agg ls=>
     obtain⟨ls',rfl,r1⟩:=r.1
     obtain⟨a1,a2,_⟩:=r1.view k h1
     exact⟨a1,a2⟩
    |tup xs=>cases h1
   obtain⟨b1,b2⟩:=aZ.rows k r.2 h2
   exact⟨⟨a.1,b1⟩,by simp only[aP,a.2,b2]⟩
  ·cases e
 |[],_::_,_,e,_=>e.elim
 |_::_,[],_,e,_=>e.elim
theorem bC.asList (k:HRel f h h'){v v':V}{es:List (List PV)}(r:bC f v v')(e:asList h v=some es):asList h' v'=some es∧fh f v.cells v'.cells:=by
 cases v with
 |one l=>
  rcases r with rfl|⟨l',rfl,r⟩
  ·cases e
  simp only[Gi.asList]at e⊢
  split at e
  ·rename_i es' h1
   cases e
   obtain⟨a1,a2,_⟩:=(show dv f l l' from .inr r).view k h1
   rw[a2]
   exact⟨rfl,a1,trivial⟩
  ·cases e
 |_=>cases e
theorem HRel.freezeL (k:HRel f h h'){l l':L}(r:l.ren f=some l'):HRel f (freezeL h l) (freezeL h' l'):=by
 cases l with
 |arr o=>
  obtain⟨o',h1,rfl⟩:=fZ r
  obtain⟨ob,ob',h2,h3,h4⟩:=k.get h1
  simp only[Gi.freezeL,h2,h3]
  cases ob with
  |arr z es=>rw[aX h4 (by simp) (by simp)];exact k.set h1 rfl
  |darr z es=>rw[aX h4 (by simp) (by simp)];exact k.set h1 rfl
  |zarr z es=>rw[aX h4 (by simp) (by simp)];exact k
  |froz z es=>rw[aX h4 (by simp) (by simp)];exact k
  |fbox ps=>rw[aX h4 (by simp) (by simp)];exact k
  |tbox n=>rw[aX h4 (by simp) (by simp)];exact k
  |res=>rw[aX h4 (by simp) (by simp)];exact k
  |box cs=>obtain⟨cs',rfl,_⟩:=h4;exact k
  |dead=>
   cases ob' with
   |arr z es=>exact k.setR h1 h2 _
   |darr z es=>exact k.setR h1 h2 _
   |_=>exact k
 |ptr o i j=>obtain⟨o',h1,rfl⟩:=gQ r;exact k
 |sub o c=>obtain⟨o',h1,rfl⟩:=pX r;exact k
 |_=>simp only[L.ren]at r;cases r;exact k
theorem HRel.freezeLs :∀{ls ls':List L}{h h':List AObj},HRel f h h'→fh f ls ls'→HRel f (freezeLs h ls) (freezeLs h' ls')
 |[],[],_,_,k,_=>k
 |_::ls,_::ls',h,h',k,r=>HRel.freezeLs (ls:=ls) (ls':=ls') (k.freezeL r.1) r.2
 |[],_::_,_,_,_,e=>e.elim
 |_::_,[],_,_,_,e=>e.elim
theorem HRel.freezeVs :∀{vs vs':List V}{h h':List AObj},HRel f h h'→tC f vs vs'→HRel f (freezeVs h vs) (freezeVs h' vs')
 |[],[],_,_,k,_=>k
 |_::vs,_::vs',h,h',k,r=>HRel.freezeVs (vs:=vs) (vs':=vs') (k.freezeLs r.1) r.2
 |[],_::_,_,_,_,e=>e.elim
 |_::_,[],_,_,_,e=>e.elim
theorem HRel.thawL :∀{ls:List L}{f:List Nat}{h h':List AObj},HRel f h h'→ls.all L.clean=true→∃g,HRel (f++g) (thawL h ls).2 (thawL h' ls).2∧fh (f++g) (thawL h ls).1 (thawL h' ls).1
 |[],f,h,h',k,_=>⟨[],by simpa[Gi.thawL]using⟨k,trivial⟩⟩
 |l::ls,f,h,h',k,hc=>by
  simp only[Zr,Zh]at hc
  cases l with
  |own z es=>
   obtain⟨g,k1,k2⟩:=HRel.thawL (ls:=ls) (k.push (ob:= .arr z es) (ob':= .arr z es) rfl) hc.2
   refine⟨[h'.length]++g,?_⟩
   simp only[Gi.thawL]
   rw[←Zp]
   refine⟨k1,?_,k2⟩
   have:(f++[h'.length]++g)[h.length]? =some h'.length:=by
    rw[Ze (by simp[k.len]),←k.len]
    simp
   simp only[L.ren,this]
  |down z es=>
   obtain⟨g,k1,k2⟩:=HRel.thawL (ls:=ls) (k.push (ob:= .darr z es) (ob':= .darr z es) rfl) hc.2
   refine⟨[h'.length]++g,?_⟩
   simp only[Gi.thawL]
   rw[←Zp]
   refine⟨k1,?_,k2⟩
   have:(f++[h'.length]++g)[h.length]? =some h'.length:=by
    rw[Ze (by simp[k.len]),←k.len]
    simp
   simp only[L.ren,this]
  |pv p=>
   obtain⟨g,k1,k2⟩:=HRel.thawL (ls:=ls) k hc.2
   exact⟨g,by simpa only[Gi.thawL]using k1,by simp only[Gi.thawL];exact⟨rfl,k2⟩⟩
  |nil=>
   obtain⟨g,k1,k2⟩:=HRel.thawL (ls:=ls) k hc.2
   exact⟨g,by simpa only[Gi.thawL]using k1,by simp only[Gi.thawL];exact⟨rfl,k2⟩⟩
  |_=>exact absurd hc.1 (by simp[L.clean])
theorem HRel.thawT :∀{xs:List (Bool×List L)}{f:List Nat}{h h':List AObj},HRel f h h'→(xs.all fun x=>x.2.all L.clean)=true→∃g,HRel (f++g) (thawT h xs).2 (thawT h' xs).2∧bR (f++g) (thawT h xs).1 (thawT h' xs).1
 |[],f,h,h',k,_=>⟨[],by simpa[Gi.thawT]using⟨k,trivial⟩⟩
 |(b,ls)::xs,f,h,h',k,hc=>by
  simp only[Zr,Zh]at hc
  obtain⟨g,k1,k2⟩:=k.thawL hc.1
  obtain⟨g',k3,k4⟩:=HRel.thawT (xs:=xs) k1 hc.2
  refine⟨g++g',?_⟩
  simp only[Gi.thawT]
  rw[←Zp]
  exact⟨k3,rfl,k2.rel.mono,k4⟩
theorem HRel.thaw (k:HRel f h h'){r:V}(hc:r.clean=true):∃g,HRel (f++g) (thaw h r).2 (thaw h' r).2∧bC (f++g) (thaw h r).1 (thaw h' r).1:=by
 cases r with
 |one l=>
  obtain⟨g,k1,k2⟩:=k.thawL (ls:=[l]) (by simpa[V.clean]using hc)
  refine⟨g,?_⟩
  cases l with
  |own z es=>
   simp only[Gi.thaw,Gi.thawL]at k1 k2⊢
   exact⟨k1, .inr ⟨_,rfl,k2.1⟩⟩
  |down z es=>
   simp only[Gi.thaw,Gi.thawL]at k1 k2⊢
   exact⟨k1, .inr ⟨_,rfl,k2.1⟩⟩
  |pv p=>
   simp only[Gi.thaw,Gi.thawL]at k1 k2⊢
   exact⟨k1, .inr ⟨_,rfl,k2.1⟩⟩
  |nil=>
   simp only[Gi.thaw,Gi.thawL]at k1 k2⊢
   exact⟨k1, .inr ⟨_,rfl,k2.1⟩⟩
  |_=>simp[V.clean,L.clean]at hc
 |agg ls=>
  obtain⟨g,k1,k2⟩:=k.thawL (ls:=ls) (by simpa[V.clean]using hc)
  exact⟨g,by simpa only[Gi.thaw]using k1,_,by simp only[Gi.thaw],k2.rel⟩
 |tup xs=>
  obtain⟨g,k1,k2⟩:=k.thawT (xs:=xs) (by simpa[V.clean]using hc)
  exact⟨g,by simpa only[Gi.thaw]using k1,_,by simp only[Gi.thaw],k2⟩
theorem BL :∀{ls:List L},ls.all L.clean=true→aN f (ls.map da) (ls.map da)
 |[],_=>trivial
 |l::ls,hc=>by
  simp only[Zr,Zh]at hc
  refine⟨.inr ?_,BL hc.2⟩
  cases l with
  |own z es=>rfl
  |down z es=>rfl
  |pv p=>rfl
  |nil=>rfl
  |_=>exact absurd hc.1 (by simp[L.clean])
theorem Ih :∀{xs:List (Bool×List L)},(xs.all fun x=>x.2.all L.clean)=true→bR f (xs.map fun x=>(x.1,x.2.map da)) (xs.map fun x=>(x.1,x.2.map da))
 |[],_=>trivial
 |(b,ls)::xs,hc=>by
  simp only[Zr,Zh]at hc
  exact⟨rfl,BL hc.1,Ih hc.2⟩
theorem FZ {r:V}(hc:r.clean=true):bC f (db r) (db r):=by
 cases r with
 |one l=>
  cases l with
  |own z es=>exact .inr ⟨_,rfl,rfl⟩
  |down z es=>exact .inr ⟨_,rfl,rfl⟩
  |pv p=>exact .inr ⟨_,rfl,rfl⟩
  |nil=>exact .inr ⟨_,rfl,rfl⟩
  |_=>simp[V.clean,L.clean]at hc
 |agg ls=>exact⟨_,rfl,BL (by simpa[V.clean]using hc)⟩
 |tup xs=>exact⟨_,rfl,Ih (by simpa[V.clean]using hc)⟩
theorem PN (k:HRel f h h'){v v':V}{e:List PV}{h1:List AObj}(r:bC f v v')(hc:qi h v=some (e,h1)):∃h1',qi h' v'=some (e,h1')∧HRel f h1 h1':=by
 cases v with
 |one l=>
  rcases r with rfl|⟨l',rfl,r⟩
  ·cases hc
  cases l with
  |ptr o i j=>
   obtain⟨o',g1,rfl⟩:=gQ r
   obtain⟨ob,ob',g2,g3,g4⟩:=k.get g1
   simp only[qi,g2]at hc
   simp only[qi,g3]
   split at hc
   ·rename_i hij
    rw[if_pos hij]
    cases ob with
    |box cs=>
     obtain⟨cs',rfl,rr⟩:=g4
     simp only at hc⊢
     split at hc
     ·rename_i ps hp
      obtain⟨b1,b2,b3⟩:=rr.view k hp
      rw[b2]
      split at hc
      ·rename_i hm
       cases hc
       have hm':(cs'.all fun l=> !(L.mut h' l))=true:=by
        have e1:∀(hh:List AObj)(l:List L),(l.all fun x=> !(L.mut hh x))= !(l.any (L.mut hh)):=fun hh l=>by
         induction l with
         |nil=>rfl
         |cons a l ih=>simp only[Zr,List.any_cons,ih,Bool.not_or]
        rw[e1]at hm⊢
        rw[←b3];exact hm
       simp only[hm',if_true]
       exact⟨_,rfl,k.set g1 rfl⟩
      ·cases hc
     ·cases hc
    |fbox ps=>
     rw[aX g4 (by simp) (by simp)]
     simp only at hc⊢
     cases hc
     exact⟨_,rfl,k⟩
    |_=>cases hc
   ·cases hc
  |ip e' j=>
   simp only[L.ren]at r
   cases r
   simp only[qi]at hc⊢
   split at hc
   ·rename_i hj
    cases hc
    rw[if_pos hj]
    exact⟨_,rfl,k⟩
   ·cases hc
  |_=>cases hc
 |_=>cases hc
theorem D7 :∀{vs vs':List V}{h h':List AObj}{es:List (List PV)}{h1:List AObj},HRel f h h'→aZ f vs vs'→la h vs=some (es,h1)→∃h1',la h' vs'=some (es,h1')∧HRel f h1 h1'
 |[],[],h,h',_,_,k,_,e=>by simp only[la]at e⊢;cases e;exact⟨_,rfl,k⟩
 |v::vs,v'::vs',h,h',es,h1,k,r,e=>by
  simp only[la]at e⊢
  split at e
  ·rename_i e0 h0 c0
   obtain⟨h0',d0,k0⟩:=PN k r.1 c0
   split at e
   ·rename_i es' h2 c1
    cases e
    obtain⟨h2',d1,k1⟩:=D7 k0 r.2 c1
    simp only[d0,d1]
    exact⟨_,rfl,k1⟩
   ·cases e
  ·cases e
 |[],_::_,_,_,_,_,_,e,_=>e.elim
 |_::_,[],_,_,_,_,_,e,_=>e.elim
theorem Lb :∀{ks:List EK}{xz bs as' bs':List L}{b:Bool},aN f xz as'→aN f bs bs'→pT ks xz bs=some b→pT ks as' bs'=some b
 |[],_,_,_,_,_,_,_,e=>by simp only[pT]at e⊢;exact e
 |k::ks,a::xz,b::bs,a'::as',b'::bs',x,r,s,e=>by
  simp only[pT]at e⊢
  split at e
  ·rename_i u v h1 h2
   have h3:Ox k a' b'=some u:=by
    unfold Ox at h1
    split at h1<;>first|(rw[O9 r.1,O9 s.1];exact h1)|cases h1
   rw[h3,Lb r.2 s.2 h2]
   exact e
  ·cases e
 |_::_,[],_,_,_,_,_,_,e=>by simp only[pT]at e;cases e
 |_::_,_::_,[],_,_,_,_,_,e=>by simp only[pT]at e;cases e
 |_::_,_::_,_::_,[],_,_,r,_,_=>r.elim
 |_::_,_::_,_::_,_::_,[],_,_,s,_=>s.elim
end
end Gi
