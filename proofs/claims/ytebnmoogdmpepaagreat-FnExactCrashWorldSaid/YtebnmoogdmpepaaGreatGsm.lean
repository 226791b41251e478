/- Of this proof. -/
import Derived.Test.YtebnmoogdmpepaaGreatGiv
set_option linter.unusedSimpArgs false
set_option linter.unusedVariables false
namespace Gi
open Go
def L.ren (f:List Nat):L→Option L
 | .ptr o i j=>match f[o]? with
  |some o'=>some (.ptr o' i j)
  |none=>none
 | .arr o=>match f[o]? with
  |some o'=>some (.arr o')
  |none=>none
 | .sub o c=>match f[o]? with
  |some o'=>some (.sub o' c)
  |none=>none
 | .win _ _ _=>none
 |l=>some l
def dz (f:List Nat)(l l':L):Prop:=l= .junk∨l.ren f=some l'
def aF (f:List Nat):List L→List L→Prop
 |[],[]=>True
 |l::ls,l'::ls'=>dz f l l'∧aF f ls ls'
 |_,_=>False
def eW (f:List Nat):List L→List L→Prop
 |[],[]=>True
 |l::ls,l'::ls'=>l.ren f=some l'∧eW f ls ls'
 |_,_=>False
def bL (f:List Nat):List (Bool×List L)→List (Bool×List L)→Prop
 |[],[]=>True
 |x::xs,y::ys=>x.1=y.1∧aF f x.2 y.2∧bL f xs ys
 |_,_=>False
def bm (f:List Nat)(v v':V):Prop:=
 match v with
 | .one l=>l= .junk∨∃l',v'= .one l'∧l.ren f=some l'
 | .agg ls=>∃ls',v'= .agg ls'∧aF f ls ls'
 | .tup xs=>∃ys,v'= .tup ys∧bL f xs ys
def aW (f:List Nat):List V→List V→Prop
 |[],[]=>True
 |v::vs,v'::vs'=>bm f v v'∧aW f vs vs'
 |_,_=>False
def bS (f:List Nat)(ob ob':AObj):Prop:=
 match ob with
 | .box cs=>∃cs',ob'= .box cs'∧aF f cs cs'
 | .dead=>True
 |ob=>ob'=ob
def bf (f:List Nat)(h':List AObj):List Nat→List AObj→Prop
 |[],[]=>True
 |o::os,ob::obs=>(∃ob',h'[o]? =some ob'∧bS f ob ob')∧bf f h' os obs
 |_,_=>False
structure HRel (f:List Nat) (h h':List AObj):Prop where
 nodup:f.Nodup
 len:f.length=h.length
 obs:∀(i o:Nat)(ob:AObj),f[i]? =some o→h[i]? =some ob→∃ob',h'[o]? =some ob'∧bS f ob ob'
structure Cln (f:List Nat) (σ τ:St):Prop where
 heap:HRel f σ.h τ.h
 tmps:aW f σ.t τ.t
theorem Bp {f:List Nat}{h':List AObj}:∀{os:List Nat}{obs:List AObj},bf f h' os obs→os.length=obs.length∧∀(i o:Nat)(ob:AObj),os[i]? =some o→obs[i]? =some ob→∃ob',h'[o]? =some ob'∧bS f ob ob'
 |[],[],_=>⟨rfl,fun i o ob h=>by simp at h⟩
 |o::os,ob::obs,h=>by
  obtain⟨h1,h2⟩:=Bp h.2
  refine⟨by simp[h1],fun i o' ob' e1 e2=> ?_⟩
  cases i with
  |zero=>simp at e1 e2;subst e1 e2;exact h.1
  |succ i=>exact h2 i o' ob' (by simpa using e1) (by simpa using e2)
 |[],_::_,h=>h.elim
 |_::_,[],h=>h.elim
theorem Cln.of (f:List Nat){t t':List V}{h h':List AObj}(nd:f.Nodup)(ho:bf f h' f h)(ht:aW f t t'):Cln f ⟨t,h⟩ ⟨t',h'⟩:=
 ⟨⟨nd,(Bp ho).1,(Bp ho).2⟩,ht⟩
section
variable {f:List Nat}{h h':List AObj}
theorem L.ren_mono {g:List Nat}{l l':L}(e:l.ren f=some l'):l.ren (f++g)=some l':=by
 have key:∀{o o':Nat},f[o]? =some o'→(f++g)[o]? =some o':=fun{o o'}h=>by
  rw[Ze (Zb.1 h).1];exact h
 cases l with
 |ptr o i j=>
  simp only[L.ren]at e⊢
  split at e
  ·rename_i o' h1;rw[key h1];exact e
  ·cases e
 |arr o=>
  simp only[L.ren]at e⊢
  split at e
  ·rename_i o' h1;rw[key h1];exact e
  ·cases e
 |sub o c=>
  simp only[L.ren]at e⊢
  split at e
  ·rename_i o' h1;rw[key h1];exact e
  ·cases e
 |_=>exact e
theorem dz.mono {g:List Nat}{l l':L}(e:dz f l l'):dz (f++g) l l':=e.imp id L.ren_mono
theorem aF.mono {g:List Nat}:∀{ls ls':List L},aF f ls ls'→aF (f++g) ls ls'
 |[],[],_=>trivial
 |_::_,_::_,e=>⟨e.1.mono,aF.mono e.2⟩
 |[],_::_,e=>e.elim
 |_::_,[],e=>e.elim
theorem eW.mono {g:List Nat}:∀{ls ls':List L},eW f ls ls'→eW (f++g) ls ls'
 |[],[],_=>trivial
 |_::_,_::_,e=>⟨L.ren_mono e.1,eW.mono e.2⟩
 |[],_::_,e=>e.elim
 |_::_,[],e=>e.elim
theorem bL.mono {g:List Nat}:∀{xs ys:List (Bool×List L)},bL f xs ys→bL (f++g) xs ys
 |[],[],_=>trivial
 |_::_,_::_,e=>⟨e.1,e.2.1.mono,bL.mono e.2.2⟩
 |[],_::_,e=>e.elim
 |_::_,[],e=>e.elim
theorem bm.mono {g:List Nat}{v v':V}(e:bm f v v'):bm (f++g) v v':=by
 cases v with
 |one l=>
  rcases e with e|⟨l',e1,e2⟩
  ·exact .inl e
  ·exact .inr ⟨l',e1,L.ren_mono e2⟩
 |agg ls=>obtain⟨ls',e1,e2⟩:=e;exact⟨ls',e1,e2.mono⟩
 |tup xs=>obtain⟨ys,e1,e2⟩:=e;exact⟨ys,e1,e2.mono⟩
theorem aW.mono {g:List Nat}:∀{vs vs':List V},aW f vs vs'→aW (f++g) vs vs'
 |[],[],_=>trivial
 |_::_,_::_,e=>⟨e.1.mono,aW.mono e.2⟩
 |[],_::_,e=>e.elim
 |_::_,[],e=>e.elim
theorem bS.mono {g:List Nat}{ob ob':AObj}(e:bS f ob ob'):bS (f++g) ob ob':=by
 cases ob with
 |box cs=>obtain⟨cs',e1,e2⟩:=e;exact⟨cs',e1,e2.mono⟩
 |_=>exact e
theorem eW.rel :∀{ls ls':List L},eW f ls ls'→aF f ls ls'
 |[],[],_=>trivial
 |_::_,_::_,e=>⟨.inr e.1,eW.rel e.2⟩
 |[],_::_,e=>e.elim
 |_::_,[],e=>e.elim
theorem aF.length :∀{ls ls':List L},aF f ls ls'→ls.length=ls'.length
 |[],[],_=>rfl
 |_::_,_::_,e=>by simp[aF.length e.2]
 |[],_::_,e=>e.elim
 |_::_,[],e=>e.elim
theorem aF.at :∀{ls ls':List L}{i:Nat}{l:L},aF f ls ls'→ls[i]? =some l→∃l',ls'[i]? =some l'∧dz f l l'
 |[],[],_,_,_,h=>by simp at h
 |a::ls,b::ls',0,l,e,h=>by simp at h;subst h;exact⟨b,rfl,e.1⟩
 |a::ls,b::ls',i+1,l,e,h=>by simpa using aF.at e.2 (i:=i) (by simpa using h)
 |[],_::_,_,_,e,_=>e.elim
 |_::_,[],_,_,e,_=>e.elim
theorem aF.drop :∀{ls ls':List L}(n:Nat),aF f ls ls'→aF f (ls.drop n) (ls'.drop n)
 |_,_,0,e=>e
 |[],[],_+1,_=>trivial
 |_::_,_::_,n+1,e=>by simpa using aF.drop n e.2
 |[],_::_,_+1,e=>e.elim
 |_::_,[],_+1,e=>e.elim
theorem aF.take :∀{ls ls':List L}(n:Nat),aF f ls ls'→aF f (ls.take n) (ls'.take n)
 |_,_,0,e=>by simp only[Ya];trivial
 |[],[],_+1,_=>trivial
 |_::_,_::_,n+1,e=>⟨e.1,aF.take n e.2⟩
 |[],_::_,_+1,e=>e.elim
 |_::_,[],_+1,e=>e.elim
theorem aF.append :∀{ls ls' ms ms':List L},aF f ls ls'→aF f ms ms'→aF f (ls++ms) (ls'++ms')
 |[],[],_,_,_,k=>k
 |_::_,_::_,_,_,e,k=>⟨e.1,aF.append e.2 k⟩
 |[],_::_,_,_,e,_=>e.elim
 |_::_,[],_,_,e,_=>e.elim
theorem sj :∀(ps:List PV),aF f (ps.map .pv) (ps.map .pv)
 |[]=>trivial
 |p::ps=>⟨.inr rfl,sj ps⟩
theorem aF.putAt {cs cs' ls ls':List L}(j:Nat)(e:aF f cs cs')(k:aF f ls ls'):aF f (Gi.putAt cs j ls) (Gi.putAt cs' j ls'):=by
 unfold Gi.putAt
 rw[k.length]
 exact((e.take j).append k).append (e.drop _)
theorem bm.one {l l':L}(e:dz f l l'):bm f (.one l) (.one l'):=e.imp id (fun h=>⟨l',rfl,h⟩)
theorem pf {p:PV}{v':V}(e:bm f (.one (.pv p)) v'):v'= .one (.pv p):=by
 rcases e with e|⟨l',rfl,e⟩
 ·cases e
 ·simp only[L.ren]at e;cases e;rfl
theorem bm.pv (p:PV):bm f (.one (.pv p)) (.one (.pv p)):= .inr ⟨_,rfl,rfl⟩
theorem bm.none :bm f (.tup []) (.tup []):=⟨[],rfl,trivial⟩
theorem OA {p:PV}{l':L}(e:dz f (.pv p) l'):l'= .pv p:=by
 rcases e with e|e
 ·cases e
 ·simp only[L.ren]at e;cases e;rfl
theorem aW.getD :∀{vs vs':List V}(n:Nat),aW f vs vs'→bm f (vs.getD n (.tup [])) (vs'.getD n (.tup []))
 |[],[],n,_=>by simpa using bm.none
 |_::_,_::_,0,e=>by simpa using e.1
 |_::_,_::_,n+1,e=>by simpa using aW.getD n e.2
 |[],_::_,_,e=>e.elim
 |_::_,[],_,e=>e.elim
theorem aW.set :∀{vs vs':List V}(n:Nat){v v':V},aW f vs vs'→bm f v v'→aW f (vs.set n v) (vs'.set n v')
 |[],[],_,_,_,_,_=>trivial
 |_::_,_::_,0,_,_,e,k=>⟨k,e.2⟩
 |_::_,_::_,n+1,_,_,e,k=>⟨e.1,aW.set n e.2 k⟩
 |[],_::_,_,_,_,e,_=>e.elim
 |_::_,[],_,_,_,e,_=>e.elim
theorem aW.put {vs vs':List V}(d:Option Nat){v v':V}(e:aW f vs vs')(k:bm f v v'):aW f (Gi.put vs d v) (Gi.put vs' d v'):=by
 cases d with
 |none=>exact e
 |some d=>exact e.set d k
theorem Cln.ev {σ τ:St}(s:Cln f σ τ):∀(x:Opd),bm f (x.ev σ) (x.ev τ)
 | .tmp n=>s.tmps.getD n
 | .pv p=>bm.pv p
 | .nil=> .inr ⟨_,rfl,rfl⟩
 | .fn k=> .inr ⟨_,rfl,rfl⟩
theorem aW.ev {σ τ:St}(s:Cln f σ τ):∀(xs:List Opd),aW f (xs.map (Opd.ev σ)) (xs.map (Opd.ev τ))
 |[]=>trivial
 |x::xs=>⟨s.ev x,aW.ev s xs⟩
theorem bm.isInt {v v':V}{k:IntKind}{n:Int}(r:bm f v v')(e:isInt v=some (k,n)):isInt v'=some (k,n):=by
 unfold Gi.isInt at e
 split at e
 ·cases e;rw[pf r];rfl
 ·cases e
theorem bm.isStr {v v':V}{s:List UInt8}(r:bm f v v')(e:isStr v=some s):isStr v'=some s:=by
 unfold Gi.isStr at e
 split at e
 ·cases e;rw[pf r];rfl
 ·cases e
theorem bm.isBool {v v':V}{b:Bool}(r:bm f v v')(e:isBool v=some b):isBool v'=some b:=by
 unfold Gi.isBool at e
 split at e
 ·cases e;rw[pf r];rfl
 ·cases e
theorem O2 {op:BinOp}{k:IntKind}{a b:Int}{v:V}(h:bV op k a b=some v):∃r,v=V.one (.pv r):=by
 unfold bV at h
 split at h<;>first|(cases h;exact⟨_,rfl⟩)|(split at h<;>first|(cases h;done)|(cases h;exact⟨_,rfl⟩))|cases h
theorem BH {op:BinOp}{k:IntKind}{a b:Int}{v:V}(h:jN op k a b=some v):∃r,v=V.one (.pv r):=by
 unfold jN at h
 split at h
 ·cases h
 ·split at h<;>first|(cases h;exact⟨_,rfl⟩)|cases h
theorem O3 {op:BinOp}{a b:List UInt8}{v:V}(h:je op a b=some v):∃r,v=V.one (.pv r):=by
 unfold je at h
 split at h<;>first|(cases h;exact⟨_,rfl⟩)|(split at h<;>first|(cases h;done)|(cases h;exact⟨_,rfl⟩))|cases h
theorem TU {op:BinOp}{x y v:V}(h:bin op x y=some v):∃p q r,x= .one (.pv p)∧y= .one (.pv q)∧v= .one (.pv r):=by
 unfold bin at h
 split at h
 ·split at h
  ·obtain⟨r,rfl⟩:=BH h;exact⟨_,_,r,rfl,rfl,rfl⟩
  ·obtain⟨r,rfl⟩:=BH h;exact⟨_,_,r,rfl,rfl,rfl⟩
  ·split at h
   ·obtain⟨r,rfl⟩:=O2 h;exact⟨_,_,r,rfl,rfl,rfl⟩
   ·cases h
 ·obtain⟨r,rfl⟩:=O3 h
  exact⟨_,_,r,rfl,rfl,rfl⟩
 ·cases h
theorem UW {op:UnOp}{x v:V}(h:un op x=some v):∃p r,x= .one (.pv p)∧v= .one (.pv r):=by
 unfold un at h
 split at h
 ·cases h;exact⟨_,_,rfl,rfl⟩
 ·cases h;exact⟨_,_,rfl,rfl⟩
 ·cases h
theorem sI {g:Bool}{n j:Nat}{cs cs':List L}{v:V}(r:aF f cs cs')(e:gn g n j cs=some v):∃v',gn g n j cs'=some v'∧bm f v v':=by
 unfold gn at e⊢
 rw[←r.length]
 split at e
 ·rename_i h1
  rw[if_pos h1]
  split at e
  ·rename_i h2
   rw[if_pos h2]
   cases e
   exact⟨_,rfl,_,rfl,(r.drop j).take n⟩
  ·rename_i h2
   rw[if_neg h2]
   split at e
   ·rename_i h3
    rw[if_pos h3]
    split at e
    ·rename_i l h4
     cases e
     obtain⟨l',h5,h6⟩:=r.at h4
     rw[h5]
     exact⟨_,rfl,bm.one h6⟩
    ·cases e
   ·cases e
 ·cases e
theorem HRel.get (k:HRel f h h'){i o:Nat}(e:f[i]? =some o):∃ob ob',h[i]? =some ob∧h'[o]? =some ob'∧bS f ob ob':=by
 have hi:i<h.length:=by rw[←k.len];exact(Zb.1 e).1
 obtain⟨ob',h1,h2⟩:=k.obs i o h[i] e (by simp[hi])
 exact⟨h[i],ob',by simp[hi],h1,h2⟩
theorem HRel.lt (k:HRel f h h'){i o:Nat}(e:f[i]? =some o):o<h'.length:=by
 obtain⟨ob,ob',_,h2,_⟩:=k.get e
 exact(Zb.1 h2).1
theorem HRel.inj (k:HRel f h h'){i j o:Nat}(e1:f[i]? =some o)(e2:f[j]? =some o):i=j:=by
 obtain⟨l1,e1⟩:=Zb.1 e1
 obtain⟨l2,e2⟩:=Zb.1 e2
 have hp:=List.pairwise_iff_getElem.1 k.nodup
 rcases Nat.lt_trichotomy i j with q|q|q
 ·exact absurd (e1.trans e2.symm) (hp i j l1 l2 q)
 ·exact q
 ·exact absurd (e2.trans e1.symm) (hp j i l2 l1 q)
theorem HRel.set (k:HRel f h h'){i o:Nat}(e:f[i]? =some o){ob ob':AObj}(r:bS f ob ob'):HRel f (h.set i ob) (h'.set o ob'):=by
 refine⟨k.nodup,by simp[k.len],fun j p x e1 e2=> ?_⟩
 have hlt:=k.lt e
 by_cases hij:i=j
 ·subst hij
  rw[e]at e1;cases e1
  have hi:i<h.length:=by rw[←k.len];exact(Zb.1 e).1
  rw[Zd hi]at e2
  cases e2
  exact⟨ob',Zd hlt,r⟩
 ·rw[Za hij]at e2
  have hop:o≠p:=fun q=>hij (k.inj e (by rw[e1,q]))
  obtain⟨x',h1,h2⟩:=k.obs j p x e1 e2
  exact⟨x',by rw[Za hop];exact h1,h2⟩
theorem HRel.setR (k:HRel f h h'){i o:Nat}(e:f[i]? =some o)(hd:h[i]? =some .dead)(ob':AObj):HRel f h (h'.set o ob'):=by
 refine⟨k.nodup,k.len,fun j p x e1 e2=> ?_⟩
 have hlt:=k.lt e
 by_cases hij:i=j
 ·subst hij
  rw[e]at e1;cases e1
  rw[hd]at e2;cases e2
  exact⟨ob',Zd hlt,trivial⟩
 ·have hop:o≠p:=fun q=>hij (k.inj e (by rw[e1,q]))
  obtain⟨x',h1,h2⟩:=k.obs j p x e1 e2
  exact⟨x',by rw[Za hop];exact h1,h2⟩
theorem HRel.push (k:HRel f h h'){ob ob':AObj}(r:bS (f++[h'.length]) ob ob'):HRel (f++[h'.length]) (h++[ob]) (h'++[ob']):=by
 refine⟨?_,by simp[k.len],fun i o x e1 e2=> ?_⟩
 ·refine List.nodup_append.2 ⟨k.nodup,by simp,fun a ha b hb=> ?_⟩
  simp at hb;subst hb
  obtain⟨i,hi⟩:=List.getElem?_of_mem ha
  have:=k.lt hi
  omega
 ·by_cases hi:i<f.length
  ·rw[Ze hi]at e1
   rw[Ze (by rw[←k.len];exact hi)]at e2
   obtain⟨x',h1,h2⟩:=k.obs i o x e1 e2
   exact⟨x',by rw[Ze (k.lt e1)];exact h1,h2.mono⟩
  ·have hi2:i<(f++[h'.length]).length:=(Zb.1 e1).1
   have:i=f.length:=by simp at hi2;omega
   subst this
   rw[Zh (Zl _)]at e1
   simp at e1
   subst e1
   rw[k.len,Zh (Zl _)]at e2
   simp at e2
   subst e2
   exact⟨ob',by rw[Zh (Zl _)];simp,r⟩
theorem aI {ob ob':AObj}(r:bS f ob ob')(hb:∀cs,ob≠ .box cs)(hd:ob≠ .dead):ob'=ob:=by
 cases ob with
 |box cs=>exact absurd rfl (hb cs)
 |dead=>exact absurd rfl hd
 |_=>exact r
theorem fQ {o:Nat}{l':L}(e:L.ren f (.arr o)=some l'):∃o',f[o]? =some o'∧l'= .arr o':=by
 simp only[L.ren]at e
 split at e
 ·cases e;exact⟨_,by assumption,rfl⟩
 ·cases e
theorem gv {o i j:Nat}{l':L}(e:L.ren f (.ptr o i j)=some l'):∃o',f[o]? =some o'∧l'= .ptr o' i j:=by
 simp only[L.ren]at e
 split at e
 ·cases e;exact⟨_,by assumption,rfl⟩
 ·cases e
theorem pg {o c:Nat}{l':L}(e:L.ren f (.sub o c)=some l'):∃o',f[o]? =some o'∧l'= .sub o' c:=by
 simp only[L.ren]at e
 split at e
 ·cases e;exact⟨_,by assumption,rfl⟩
 ·cases e
theorem dz.view (k:HRel f h h'){l l':L}{p:PV}(r:dz f l l')(e:l.view h=some p):l.ren f=some l'∧l'.view h'=some p∧l.mut h=l'.mut h':=by
 rcases r with rfl|r
 ·cases e
 refine⟨r,?_⟩
 cases l with
 |arr o=>
  obtain⟨o',h1,rfl⟩:=fQ r
  obtain⟨ob,ob',h2,h3,h4⟩:=k.get h1
  simp only[L.view,h2]at e
  cases ob with
  |arr z es=>rw[aI h4 (by simp) (by simp)]at h3;exact⟨by simp only[L.view,h3];exact e,by simp[L.mut,h2,h3]⟩
  |froz z es=>rw[aI h4 (by simp) (by simp)]at h3;exact⟨by simp only[L.view,h3];exact e,by simp[L.mut,h2,h3]⟩
  |darr z es=>rw[aI h4 (by simp) (by simp)]at h3;exact⟨by simp only[L.view,h3];exact e,by simp[L.mut,h2,h3]⟩
  |_=>cases e
 |pv q=>simp only[L.ren]at r;cases r;exact⟨e,rfl⟩
 |nil=>simp only[L.ren]at r;cases r;exact⟨e,rfl⟩
 |_=>cases e
theorem aF.view (k:HRel f h h'):∀{ls ls':List L}{ps:List PV},aF f ls ls'→viewL h ls=some ps→eW f ls ls'∧viewL h' ls'=some ps∧ls.any (L.mut h)=ls'.any (L.mut h')
 |[],[],_,_,e=>⟨trivial,e,rfl⟩
 |l::ls,l'::ls',ps,r,e=>by
  simp only[viewL]at e
  split at e
  ·rename_i p qs h1 h2
   cases e
   obtain⟨a1,a2,a3⟩:=r.1.view k h1
   obtain⟨b1,b2,b3⟩:=aF.view k r.2 h2
   refine⟨⟨a1,b1⟩,by simp only[viewL,a2,b2],by simp only[List.any_cons,a3,b3]⟩
  ·cases e
 |[],_::_,_,e,_=>e.elim
 |_::_,[],_,e,_=>e.elim
theorem bm.view (k:HRel f h h'){v v' a:V}(r:bm f v v')(e:v.view h=some a):eW f v.cells v'.cells∧v'.view h'=some a∧v.mut h=v'.mut h':=by
 cases v with
 |one l=>
  rcases r with rfl|⟨l',rfl,r⟩
  ·cases e
  have key:∀{p:PV},l.view h=some p→(V.one l).view h=some (.one (.pv p))→(∀kk caps,l≠ .fn kk caps)→eW f (V.one l).cells (V.one l').cells∧(V.one l').view h'=some (.one (.pv p))∧(V.one l).mut h=(V.one l').mut h':=fun{p}h1 _ hn=>by
   obtain⟨a1,a2,a3⟩:=(show dz f l l' from .inr r).view k h1
   refine⟨⟨a1,trivial⟩,?_,by simp[V.mut,V.cells,a3]⟩
   cases l' with
   |fn kk caps=>cases a2
   |_=>simp only[V.view,a2]
  cases l with
  |fn kk caps=>
   simp only[L.ren]at r
   cases r
   exact⟨⟨rfl,trivial⟩,e,rfl⟩
  |pv p=>
   have e':=e
   simp only[V.view,L.view]at e'
   cases e'
   exact key rfl e (by simp)
  |arr o=>
   have e':=e
   simp only[V.view]at e'
   split at e'
   ·rename_i p hp
    cases e'
    exact key hp e (by simp)
   ·cases e'
  |nil=>
   have e':=e
   simp only[V.view,L.view]at e'
   cases e'
   exact key rfl e (by simp)
  |_=>cases e
 |agg ls=>
  obtain⟨ls',rfl,r⟩:=r
  simp only[V.view]at e⊢
  split at e
  ·rename_i ps hp
   cases e
   obtain⟨b1,b2,b3⟩:=r.view k hp
   exact⟨b1,by rw[b2],b3⟩
  ·cases e
 |tup xs=>cases e
def sp (f:List Nat):List V→List V→Prop
 |[],[]=>True
 |v::vs,v'::vs'=>eW f v.cells v'.cells∧sp f vs vs'
 |_,_=>False
theorem sp.mono {g:List Nat}:∀{vs vs':List V},sp f vs vs'→sp (f++g) vs vs'
 |[],[],_=>trivial
 |_::_,_::_,e=>⟨e.1.mono,sp.mono e.2⟩
 |[],_::_,e=>e.elim
 |_::_,[],e=>e.elim
theorem aW.view (k:HRel f h h'):∀{vs vs' xz:List V},aW f vs vs'→am h vs=some xz→sp f vs vs'∧am h' vs'=some xz∧vs.any (V.mut h)=vs'.any (V.mut h')
 |[],[],_,_,e=>⟨trivial,e,rfl⟩
 |v::vs,v'::vs',xz,r,e=>by
  simp only[am]at e
  split at e
  ·rename_i p qs h1 h2
   cases e
   obtain⟨a1,a2,a3⟩:=r.1.view k h1
   obtain⟨b1,b2,b3⟩:=aW.view k r.2 h2
   refine⟨⟨a1,b1⟩,by simp only[am,a2,b2],by simp only[List.any_cons,a3,b3]⟩
  ·cases e
 |[],_::_,_,e,_=>e.elim
 |_::_,[],_,e,_=>e.elim
theorem aW.rows (k:HRel f h h'):∀{vs vs':List V}{es:List (List PV)},aW f vs vs'→aV h vs=some es→sp f vs vs'∧aV h' vs'=some es
 |[],[],_,_,e=>⟨trivial,e⟩
 |v::vs,v'::vs',xz,r,e=>by
  simp only[aV]at e
  split at e
  ·rename_i p qs h1 h2
   cases e
   have a:eW f v.cells v'.cells∧viewL h' v'.cells=some p:=by
    cases v with
    |one l=>
     rcases r.1 with rfl|⟨l',rfl,r1⟩
     ·cases h1
     ·obtain⟨a1,a2,_⟩:=(show aF f [l] [l']from⟨.inr r1,trivial⟩).view k h1
      exact⟨a1,a2⟩
    |agg ls=>
     obtain⟨ls',rfl,r1⟩:=r.1
     obtain⟨a1,a2,_⟩:=r1.view k h1
     exact⟨a1,a2⟩
    |tup xs=>cases h1
   obtain⟨b1,b2⟩:=aW.rows k r.2 h2
   exact⟨⟨a.1,b1⟩,by simp only[aV,a.2,b2]⟩
  ·cases e
 |[],_::_,_,e,_=>e.elim
 |_::_,[],_,e,_=>e.elim
theorem bm.asList (k:HRel f h h'){v v':V}{es:List (List PV)}(r:bm f v v')(e:asList h v=some es):asList h' v'=some es∧eW f v.cells v'.cells:=by
 cases v with
 |one l=>
  rcases r with rfl|⟨l',rfl,r⟩
  ·cases e
  simp only[Gi.asList]at e⊢
  split at e
  ·rename_i es' h1
   cases e
   obtain⟨a1,a2,_⟩:=(show dz f l l' from .inr r).view k h1
   rw[a2]
   exact⟨rfl,a1,trivial⟩
  ·cases e
 |_=>cases e
theorem HRel.freezeL (k:HRel f h h'){l l':L}(r:l.ren f=some l'):HRel f (freezeL h l) (freezeL h' l'):=by
 cases l with
 |arr o=>
  obtain⟨o',h1,rfl⟩:=fQ r
  obtain⟨ob,ob',h2,h3,h4⟩:=k.get h1
  simp only[Gi.freezeL,h2,h3]
  cases ob with
  |arr z es=>rw[aI h4 (by simp) (by simp)];exact k.set h1 rfl
  |darr z es=>rw[aI h4 (by simp) (by simp)];exact k.set h1 rfl
  |zarr z es=>rw[aI h4 (by simp) (by simp)];exact k
  |froz z es=>rw[aI h4 (by simp) (by simp)];exact k
  |fbox ps=>rw[aI h4 (by simp) (by simp)];exact k
  |tbox n=>rw[aI h4 (by simp) (by simp)];exact k
  |res=>rw[aI h4 (by simp) (by simp)];exact k
  |box cs=>obtain⟨cs',rfl,_⟩:=h4;exact k
  |dead=>
   cases ob' with
   |arr z es=>exact k.setR h1 h2 _
   |darr z es=>exact k.setR h1 h2 _
   |_=>exact k
 |ptr o i j=>obtain⟨o',h1,rfl⟩:=gv r;exact k
 |sub o c=>obtain⟨o',h1,rfl⟩:=pg r;exact k
 |win o l q=>cases r
 |_=>simp only[L.ren]at r;cases r;exact k
theorem HRel.freezeLs :∀{ls ls':List L}{h h':List AObj},HRel f h h'→eW f ls ls'→HRel f (freezeLs h ls) (freezeLs h' ls')
 |[],[],_,_,k,_=>k
 |_::ls,_::ls',h,h',k,r=>HRel.freezeLs (ls:=ls) (ls':=ls') (k.freezeL r.1) r.2
 |[],_::_,_,_,_,e=>e.elim
 |_::_,[],_,_,_,e=>e.elim
theorem HRel.freezeVs :∀{vs vs':List V}{h h':List AObj},HRel f h h'→sp f vs vs'→HRel f (freezeVs h vs) (freezeVs h' vs')
 |[],[],_,_,k,_=>k
 |_::vs,_::vs',h,h',k,r=>HRel.freezeVs (vs:=vs) (vs':=vs') (k.freezeLs r.1) r.2
 |[],_::_,_,_,_,e=>e.elim
 |_::_,[],_,_,_,e=>e.elim
theorem HRel.thawL :∀{ls:List L}{f:List Nat}{h h':List AObj},HRel f h h'→ls.all L.clean=true→∃g,HRel (f++g) (thawL h ls).2 (thawL h' ls).2∧eW (f++g) (thawL h ls).1 (thawL h' ls).1
 |[],f,h,h',k,_=>⟨[],by simpa[Gi.thawL]using⟨k,trivial⟩⟩
 |l::ls,f,h,h',k,hc=>by
  simp only[Zq,Zm]at hc
  cases l with
  |own z es=>
   obtain⟨g,k1,k2⟩:=HRel.thawL (ls:=ls) (k.push (ob:= .arr z es) (ob':= .arr z es) rfl) hc.2
   refine⟨[h'.length]++g,?_⟩
   simp only[Gi.thawL]
   rw[←Zo]
   refine⟨k1,?_,k2⟩
   have:(f++[h'.length]++g)[h.length]? =some h'.length:=by
    rw[Ze (by simp[k.len]),←k.len]
    simp
   simp only[L.ren,this]
  |down z es=>
   obtain⟨g,k1,k2⟩:=HRel.thawL (ls:=ls) (k.push (ob:= .darr z es) (ob':= .darr z es) rfl) hc.2
   refine⟨[h'.length]++g,?_⟩
   simp only[Gi.thawL]
   rw[←Zo]
   refine⟨k1,?_,k2⟩
   have:(f++[h'.length]++g)[h.length]? =some h'.length:=by
    rw[Ze (by simp[k.len]),←k.len]
    simp
   simp only[L.ren,this]
  |pv p=>
   obtain⟨g,k1,k2⟩:=HRel.thawL (ls:=ls) k hc.2
   exact⟨g,by simpa only[Gi.thawL]using k1,by simp only[Gi.thawL];exact⟨rfl,k2⟩⟩
  |nil=>
   obtain⟨g,k1,k2⟩:=HRel.thawL (ls:=ls) k hc.2
   exact⟨g,by simpa only[Gi.thawL]using k1,by simp only[Gi.thawL];exact⟨rfl,k2⟩⟩
  |_=>exact absurd hc.1 (by simp[L.clean])
theorem HRel.thawT :∀{xs:List (Bool×List L)}{f:List Nat}{h h':List AObj},HRel f h h'→(xs.all fun x=>x.2.all L.clean)=true→∃g,HRel (f++g) (thawT h xs).2 (thawT h' xs).2∧bL (f++g) (thawT h xs).1 (thawT h' xs).1
 |[],f,h,h',k,_=>⟨[],by simpa[Gi.thawT]using⟨k,trivial⟩⟩
 |(b,ls)::xs,f,h,h',k,hc=>by
  simp only[Zq,Zm]at hc
  obtain⟨g,k1,k2⟩:=k.thawL hc.1
  obtain⟨g',k3,k4⟩:=HRel.thawT (xs:=xs) k1 hc.2
  refine⟨g++g',?_⟩
  simp only[Gi.thawT]
  rw[←Zo]
  exact⟨k3,rfl,k2.rel.mono,k4⟩
theorem HRel.thaw (k:HRel f h h'){r:V}(hc:r.clean=true):∃g,HRel (f++g) (thaw h r).2 (thaw h' r).2∧bm (f++g) (thaw h r).1 (thaw h' r).1:=by
 cases r with
 |one l=>
  obtain⟨g,k1,k2⟩:=k.thawL (ls:=[l]) (by simpa[V.clean]using hc)
  refine⟨g,?_⟩
  cases l with
  |own z es=>
   simp only[Gi.thaw,Gi.thawL]at k1 k2⊢
   exact⟨k1, .inr ⟨_,rfl,k2.1⟩⟩
  |down z es=>
   simp only[Gi.thaw,Gi.thawL]at k1 k2⊢
   exact⟨k1, .inr ⟨_,rfl,k2.1⟩⟩
  |pv p=>
   simp only[Gi.thaw,Gi.thawL]at k1 k2⊢
   exact⟨k1, .inr ⟨_,rfl,k2.1⟩⟩
  |nil=>
   simp only[Gi.thaw,Gi.thawL]at k1 k2⊢
   exact⟨k1, .inr ⟨_,rfl,k2.1⟩⟩
  |_=>simp[V.clean,L.clean]at hc
 |agg ls=>
  obtain⟨g,k1,k2⟩:=k.thawL (ls:=ls) (by simpa[V.clean]using hc)
  exact⟨g,by simpa only[Gi.thaw]using k1,_,by simp only[Gi.thaw],k2.rel⟩
 |tup xs=>
  obtain⟨g,k1,k2⟩:=k.thawT (xs:=xs) (by simpa[V.clean]using hc)
  exact⟨g,by simpa only[Gi.thaw]using k1,_,by simp only[Gi.thaw],k2⟩
theorem Bo :∀{ls:List L},ls.all L.clean=true→aF f (ls.map di) (ls.map di)
 |[],_=>trivial
 |l::ls,hc=>by
  simp only[Zq,Zm]at hc
  refine⟨.inr ?_,Bo hc.2⟩
  cases l with
  |own z es=>rfl
  |down z es=>rfl
  |pv p=>rfl
  |nil=>rfl
  |_=>exact absurd hc.1 (by simp[L.clean])
theorem H0 :∀{xs:List (Bool×List L)},(xs.all fun x=>x.2.all L.clean)=true→bL f (xs.map fun x=>(x.1,x.2.map di)) (xs.map fun x=>(x.1,x.2.map di))
 |[],_=>trivial
 |(b,ls)::xs,hc=>by
  simp only[Zq,Zm]at hc
  exact⟨rfl,Bo hc.1,H0 hc.2⟩
theorem FB {r:V}(hc:r.clean=true):bm f (dO r) (dO r):=by
 cases r with
 |one l=>
  cases l with
  |own z es=>exact .inr ⟨_,rfl,rfl⟩
  |down z es=>exact .inr ⟨_,rfl,rfl⟩
  |pv p=>exact .inr ⟨_,rfl,rfl⟩
  |nil=>exact .inr ⟨_,rfl,rfl⟩
  |_=>simp[V.clean,L.clean]at hc
 |agg ls=>exact⟨_,rfl,Bo (by simpa[V.clean]using hc)⟩
 |tup xs=>exact⟨_,rfl,H0 (by simpa[V.clean]using hc)⟩
theorem Pb (k:HRel f h h'){v v':V}{e:List PV}{h1:List AObj}(r:bm f v v')(hc:rH h v=some (e,h1)):∃h1',rH h' v'=some (e,h1')∧HRel f h1 h1':=by
 cases v with
 |one l=>
  rcases r with rfl|⟨l',rfl,r⟩
  ·cases hc
  cases l with
  |ptr o i j=>
   obtain⟨o',g1,rfl⟩:=gv r
   obtain⟨ob,ob',g2,g3,g4⟩:=k.get g1
   simp only[rH,g2]at hc
   simp only[rH,g3]
   split at hc
   ·rename_i hij
    rw[if_pos hij]
    cases ob with
    |box cs=>
     obtain⟨cs',rfl,rr⟩:=g4
     simp only at hc⊢
     split at hc
     ·rename_i ps hp
      obtain⟨b1,b2,b3⟩:=rr.view k hp
      rw[b2]
      split at hc
      ·rename_i hm
       cases hc
       have hm':(cs'.all fun l=> !(L.mut h' l))=true:=by
        have e1:∀(hh:List AObj)(l:List L),(l.all fun x=> !(L.mut hh x))= !(l.any (L.mut hh)):=fun hh l=>by
         induction l with
         |nil=>rfl
         |cons a l ih=>simp only[Zq,List.any_cons,ih,Bool.not_or]
        rw[e1]at hm⊢
        rw[←b3];exact hm
       simp only[hm',if_true]
       exact⟨_,rfl,k.set g1 rfl⟩
      ·cases hc
     ·cases hc
    |fbox ps=>
     rw[aI g4 (by simp) (by simp)]
     simp only at hc⊢
     cases hc
     exact⟨_,rfl,k⟩
    |_=>cases hc
   ·cases hc
  |ip e' j=>
   simp only[L.ren]at r
   cases r
   simp only[rH]at hc⊢
   split at hc
   ·rename_i hj
    cases hc
    rw[if_pos hj]
    exact⟨_,rfl,k⟩
   ·cases hc
  |_=>cases hc
 |_=>cases hc
theorem DT :∀{vs vs':List V}{h h':List AObj}{es:List (List PV)}{h1:List AObj},HRel f h h'→aW f vs vs'→mc h vs=some (es,h1)→∃h1',mc h' vs'=some (es,h1')∧HRel f h1 h1'
 |[],[],h,h',_,_,k,_,e=>by simp only[mc]at e⊢;cases e;exact⟨_,rfl,k⟩
 |v::vs,v'::vs',h,h',es,h1,k,r,e=>by
  simp only[mc]at e⊢
  split at e
  ·rename_i e0 h0 c0
   obtain⟨h0',d0,k0⟩:=Pb k r.1 c0
   split at e
   ·rename_i es' h2 c1
    cases e
    obtain⟨h2',d1,k1⟩:=DT k0 r.2 c1
    simp only[d0,d1]
    exact⟨_,rfl,k1⟩
   ·cases e
  ·cases e
 |[],_::_,_,_,_,_,_,e,_=>e.elim
 |_::_,[],_,_,_,_,_,e,_=>e.elim
theorem KL :∀{ks:List EK}{xz bs as' bs':List L}{b:Bool},aF f xz as'→aF f bs bs'→qw ks xz bs=some b→qw ks as' bs'=some b
 |[],_,_,_,_,_,_,_,e=>by simp only[qw]at e⊢;exact e
 |k::ks,a::xz,b::bs,a'::as',b'::bs',x,r,s,e=>by
  simp only[qw]at e⊢
  split at e
  ·rename_i u v h1 h2
   have h3:QD k a' b'=some u:=by
    unfold QD at h1
    split at h1<;>first|(rw[OA r.1,OA s.1];exact h1)|cases h1
   rw[h3,KL r.2 s.2 h2]
   exact e
  ·cases e
 |_::_,[],_,_,_,_,_,_,e=>by simp only[qw]at e;cases e
 |_::_,_::_,[],_,_,_,_,_,e=>by simp only[qw]at e;cases e
 |_::_,_::_,_::_,[],_,_,r,_,_=>r.elim
 |_::_,_::_,_::_,_::_,[],_,_,s,_=>s.elim
end
end Gi
