/- Of this proof. -/
import Derived.Test.YtebnmoogdmpepaaGreatGsn
set_option linter.unusedSimpArgs false
set_option linter.unusedVariables false
namespace Gi
open Go
section
variable {f g:List Nat}{h h':List AObj}{σ τ υ:St}{call:Nat→List V→Option V}
theorem Qj (k:HRel f h h'){l l' x:L}(r:dv f l l')(e:bI h l=some x):bI h' l'=some x∧l.ren f=some l':=by
 rcases r with rfl|r
 ·cases e
 refine⟨?_,r⟩
 cases l with
 |arr o=>
  obtain⟨o',h1,rfl⟩:=fZ r
  obtain⟨ob,ob',h2,h3,h4⟩:=k.get h1
  simp only[bI,h2]at e
  simp only[bI,h3]
  cases ob with
  |arr z es=>rw[aX h4 (by simp) (by simp)];exact e
  |froz z es=>rw[aX h4 (by simp) (by simp)];exact e
  |darr z es=>rw[aX h4 (by simp) (by simp)];exact e
  |_=>cases e
 |pv p=>simp only[L.ren]at r;cases r;exact e
 |nil=>simp only[L.ren]at r;cases r;exact e
 |_=>cases e
theorem xV (k:HRel f h h'):∀{ls ls' xs:List L},aN f ls ls'→aQ h ls=some xs→aQ h' ls'=some xs∧fh f ls ls'
 |[],[],_,_,e=>⟨e,trivial⟩
 |l::ls,l'::ls',xs,r,e=>by
  simp only[aQ]at e⊢
  split at e
  ·rename_i x ys h1 h2
   cases e
   obtain⟨a1,a2⟩:=Qj k r.1 h1
   obtain⟨b1,b2⟩:=xV k r.2 h2
   rw[a1,b1]
   exact⟨rfl,a2,b2⟩
  ·cases e
 |[],_::_,_,e,_=>e.elim
 |_::_,[],_,e,_=>e.elim
theorem RE (k:HRel f h h'){v v':V}{x:Bool×List L}(r:bC f v v')(e:comp h v=some x):comp h' v'=some x∧fh f v.cells v'.cells:=by
 cases v with
 |one l=>
  rcases r with rfl|⟨l',rfl,r⟩
  ·cases e
  simp only[comp]at e⊢
  split at e
  ·rename_i xs h1
   obtain⟨a1,a2⟩:=xV k (show aN f [l] [l']from⟨.inr r,trivial⟩) h1
   rw[a1]
   exact⟨e,a2⟩
  ·cases e
 |agg ls=>
  obtain⟨ls',rfl,r⟩:=r
  simp only[comp]at e⊢
  split at e
  ·rename_i xs h1
   obtain⟨a1,a2⟩:=xV k r h1
   rw[a1]
   exact⟨e,a2⟩
  ·cases e
 |tup xs=>cases e
theorem H0 (k:HRel f h h'):∀{vs vs':List V}{xs:List (Bool×List L)},aZ f vs vs'→bS h vs=some xs→bS h' vs'=some xs∧fh f (vs.flatMap V.cells) (vs'.flatMap V.cells)
 |[],[],_,_,e=>⟨e,trivial⟩
 |v::vs,v'::vs',xs,r,e=>by
  simp only[bS]at e⊢
  split at e
  ·rename_i x ys h1 h2
   cases e
   obtain⟨a1,a2⟩:=RE k r.1 h1
   obtain⟨b1,b2⟩:=H0 k r.2 h2
   rw[a1,b1]
   exact⟨rfl,by simpa only[Yn]using a2.append b2⟩
  ·cases e
 |[],_::_,_,e,_=>e.elim
 |_::_,[],_,e,_=>e.elim
theorem Ky (k:HRel f h h'):∀{ls ls':List L},fh f ls ls'→(∀o',o'∈ai ls'→∃o,o∈ai ls∧f[o]? =some o')∧((ai ls).Nodup→(ai ls').Nodup)
 |[],[],_=>⟨fun o' h=>by simp[ai]at h,fun h=>h⟩
 |l::ls,l'::ls',r=>by
  obtain⟨i1,i2⟩:=Ky k r.2
  have r1:=r.1
  have other:(∀o,l≠ .arr o)→(∀o,l'≠ .arr o)→ai (l::ls)=ai ls∧ai (l'::ls')=ai ls':=fun a b=>by
   constructor
   ·cases l with
    |arr o=>exact absurd rfl (a o)
    |_=>rfl
   ·cases l' with
    |arr o=>exact absurd rfl (b o)
    |_=>rfl
  cases l with
  |arr o=>
   obtain⟨o',h1,rfl⟩:=fZ r1
   have ea:ai (.arr o::ls)=o::ai ls:=rfl
   have eb:ai (.arr o'::ls')=o'::ai ls':=rfl
   rw[ea,eb]
   refine⟨fun p hp=> ?_,fun nd=> ?_⟩
   ·rcases Z8.1 hp with rfl|hp
    ·exact⟨o,Xq,h1⟩
    ·obtain⟨q,h2,h3⟩:=i1 p hp
     exact⟨q,Y5 _ h2,h3⟩
   ·obtain⟨n1,n2⟩:=Yz.1 nd
    refine Yz.2 ⟨fun hp=> ?_,i2 n2⟩
    obtain⟨q,h2,h3⟩:=i1 o' hp
    rw[k.inj h3 h1]at h2
    exact n1 h2
  |ptr o i j=>
   obtain⟨o',_,rfl⟩:=gQ r1
   obtain⟨ea,eb⟩:=other (by simp) (by simp)
   rw[ea,eb];exact⟨i1,i2⟩
  |sub o c=>
   obtain⟨o',_,rfl⟩:=pX r1
   obtain⟨ea,eb⟩:=other (by simp) (by simp)
   rw[ea,eb];exact⟨i1,i2⟩
  |_=>
   simp only[L.ren]at r1
   cases r1
   obtain⟨ea,eb⟩:=other (by simp) (by simp)
   rw[ea,eb];exact⟨i1,i2⟩
 |[],_::_,e=>e.elim
 |_::_,[],e=>e.elim
theorem xp (s:Cln f σ τ):∀{rs:List ARes}{vs:List V},am σ rs=some vs→∃vs',am τ rs=some vs'∧aZ f vs vs'
 |[],vs,e=>by simp only[am]at e⊢;cases e;exact⟨_,rfl,trivial⟩
 |r::rs,vs,e=>by
  simp only[am]at e⊢
  split at e
  ·rename_i x xs h1 h2
   cases e
   obtain⟨xs',h3,h4⟩:=xp s h2
   have:∃x',cF τ r=some x'∧bC f x x':=by
    cases r with
    |tmp t=>simp only[cF]at h1⊢;cases h1;exact⟨_,rfl,s.tmps.getD t⟩
    |cell t n=>exact OE (call:=fun _ _=>none) (op:= .load true n (.tmp t)) s (fun _ _ _ h=>by cases h) rfl h1
   obtain⟨x',h5,h6⟩:=this
   rw[h5,h3]
   exact⟨_,rfl,h6,h4⟩
  ·cases e
theorem Qd (k:Kn σ τ){rs:List ARes}{r:V}(e:aW σ rs=some r):aW τ rs=some r:=by
 obtain⟨f,s⟩:=k
 unfold aW at e⊢
 cases hr:am σ rs with
 |none=>simp[hr]at e
 |some vs=>
  obtain⟨vs',h1,h2⟩:=xp s hr
  rw[h1]
  simp only[hr]at e⊢
  split at e
  ·rename_i nd
   cases hcs:bS σ.h vs with
   |none=>simp[hcs]at e
   |some xs=>
    obtain⟨a1,a2⟩:=H0 s.heap h2 hcs
    rw[if_pos ((Ky s.heap a2).2 nd),a1]
    rw[hcs]at e
    exact e
  ·cases e
def uw (g f:List Nat):List Nat:=f.map fun o=>g.getD o 0
theorem Ii (k:HRel f h h')(hg:g.length=h'.length){l l' l'':L}(e1:l.ren f=some l')(e2:l'.ren g=some l''):l.ren (uw g f)=some l'':=by
 have key:∀{o o' o'':Nat},f[o]? =some o'→g[o']? =some o''→(uw g f)[o]? =some o'':=fun{o o' o''}a b=>by
  simp only[uw,Zq,a,Option.map_some,List.getD,b,Y8]
 cases l with
 |ptr o i j=>
  obtain⟨o',a,rfl⟩:=gQ e1
  obtain⟨o'',b,rfl⟩:=gQ e2
  simp only[L.ren,key a b]
 |arr o=>
  obtain⟨o',a,rfl⟩:=fZ e1
  obtain⟨o'',b,rfl⟩:=fZ e2
  simp only[L.ren,key a b]
 |sub o c=>
  obtain⟨o',a,rfl⟩:=pX e1
  obtain⟨o'',b,rfl⟩:=pX e2
  simp only[L.ren,key a b]
 |_=>
  simp only[L.ren]at e1
  cases e1
  exact e2
theorem LU {l:L}(e:l.ren f=some .junk):l= .junk:=by
 cases l with
 |ptr o i j=>obtain⟨o',a,h⟩:=gQ e;cases h
 |arr o=>obtain⟨o',a,h⟩:=fZ e;cases h
 |sub o c=>obtain⟨o',a,h⟩:=pX e;cases h
 |junk=>rfl
 |_=>simp only[L.ren]at e;cases e
theorem dv.trans (k:HRel f h h')(hg:g.length=h'.length){l l' l'':L}(e1:dv f l l')(e2:dv g l' l''):dv (uw g f) l l'':=by
 rcases e1 with e1|e1
 ·exact .inl e1
 rcases e2 with rfl|e2
 ·exact .inl (LU e1)
 ·exact .inr (Ii k hg e1 e2)
theorem aN.trans (k:HRel f h h')(hg:g.length=h'.length):∀{a b c:List L},aN f a b→aN g b c→aN (uw g f) a c
 |[],[],[],_,_=>trivial
 |_::_,_::_,_::_,e1,e2=>⟨e1.1.trans k hg e2.1,aN.trans k hg e1.2 e2.2⟩
 |[],_::_,_,e,_=>e.elim
 |_::_,[],_,e,_=>e.elim
 |_,[],_::_,_,e=>e.elim
 |_,_::_,[],_,e=>e.elim
theorem bR.trans (k:HRel f h h')(hg:g.length=h'.length):∀{a b c:List (Bool×List L)},bR f a b→bR g b c→bR (uw g f) a c
 |[],[],[],_,_=>trivial
 |_::_,_::_,_::_,e1,e2=>⟨e1.1.trans e2.1,e1.2.1.trans k hg e2.2.1,bR.trans k hg e1.2.2 e2.2.2⟩
 |[],_::_,_,e,_=>e.elim
 |_::_,[],_,e,_=>e.elim
 |_,[],_::_,_,e=>e.elim
 |_,_::_,[],_,e=>e.elim
theorem bC.trans (k:HRel f h h')(hg:g.length=h'.length){a b c:V}(e1:bC f a b)(e2:bC g b c):bC (uw g f) a c:=by
 cases a with
 |one l=>
  rcases e1 with e1|⟨l',rfl,e1⟩
  ·exact .inl e1
  rcases e2 with rfl|⟨l'',rfl,e2⟩
  ·exact .inl (LU e1)
  ·exact .inr ⟨l'',rfl,Ii k hg e1 e2⟩
 |agg ls=>
  obtain⟨ls',rfl,e1⟩:=e1
  obtain⟨ls'',rfl,e2⟩:=e2
  exact⟨_,rfl,e1.trans k hg e2⟩
 |tup xs=>
  obtain⟨ls',rfl,e1⟩:=e1
  obtain⟨ls'',rfl,e2⟩:=e2
  exact⟨_,rfl,e1.trans k hg e2⟩
theorem aZ.trans (k:HRel f h h')(hg:g.length=h'.length):∀{a b c:List V},aZ f a b→aZ g b c→aZ (uw g f) a c
 |[],[],[],_,_=>trivial
 |_::_,_::_,_::_,e1,e2=>⟨e1.1.trans k hg e2.1,aZ.trans k hg e1.2 e2.2⟩
 |[],_::_,_,e,_=>e.elim
 |_::_,[],_,e,_=>e.elim
 |_,[],_::_,_,e=>e.elim
 |_,_::_,[],_,e=>e.elim
theorem Kn.trans (a:Kn σ τ)(b:Kn τ υ):Kn σ υ:=by
 obtain⟨f,a⟩:=a
 obtain⟨g,b⟩:=b
 have hg:=b.heap.len
 have at2:∀{i:Nat}{o'':Nat},(uw g f)[i]? =some o''→∃o',f[i]? =some o'∧g[o']? =some o'':=fun{i o''}e=>by
  simp only[uw,Zq,Zj]at e
  obtain⟨o',h1,h2⟩:=e
  refine⟨o',h1,?_⟩
  have:o'<g.length:=by rw[hg];exact a.heap.lt h1
  simp only[List.getD,Zn this,Y8]at h2
  rw[Zn this,h2]
 refine⟨uw g f,⟨?_,by simp[uw,a.heap.len],fun i o ob e1 e2=> ?_⟩,a.tmps.trans a.heap hg b.tmps⟩
 ·refine List.pairwise_iff_getElem.2 fun i j hi hj hij e=> ?_
  obtain⟨o1,h1,h2⟩:=at2 (Zn hi)
  obtain⟨o2,h3,h4⟩:=at2 (Zn hj)
  rw[e]at h2
  have:=b.heap.inj h2 h4
  subst this
  exact absurd (a.heap.inj h1 h3) (by omega)
 ·obtain⟨o',h1,h2⟩:=at2 e1
  obtain⟨ob',h3,h4⟩:=a.heap.obs i o' ob h1 e2
  obtain⟨ob'',h5,h6⟩:=b.heap.obs o' o ob' h2 h3
  refine⟨ob'',h5,?_⟩
  cases ob with
  |box cs=>
   obtain⟨cs',rfl,h4⟩:=h4
   obtain⟨cs'',rfl,h6⟩:=h6
   exact⟨_,rfl,h4.trans a.heap hg h6⟩
  |dead=>trivial
  |arr z es=>rw[aX h4 (by simp) (by simp)]at h6;exact h6
  |froz z es=>rw[aX h4 (by simp) (by simp)]at h6;exact h6
  |darr z es=>rw[aX h4 (by simp) (by simp)]at h6;exact h6
  |zarr z es=>rw[aX h4 (by simp) (by simp)]at h6;exact h6
  |fbox ps=>rw[aX h4 (by simp) (by simp)]at h6;exact h6
  |tbox n=>rw[aX h4 (by simp) (by simp)]at h6;exact h6
  |res=>rw[aX h4 (by simp) (by simp)]at h6;exact h6
theorem Kn.of (f:List Nat){t t':List V}{h h':List AObj}(nd:f.Nodup)(ho:bj f h' f h)(ht:aZ f t t'):Kn ⟨t,h⟩ ⟨t',h'⟩:=⟨f,Cln.of f nd ho ht⟩
theorem Kn.r (f:List Nat){t t':List V}{h h':List AObj}(ho:bj f h' f h:=by simp[aZ,bC,aN,dv,bR,bj,bV,L.ren])(ht:aZ f t t':=by simp[aZ,bC,aN,dv,bR,bj,bV,L.ren])(nd:f.Nodup:=by decide):Kn ⟨t,h⟩ ⟨t',h'⟩:=Kn.of f nd ho ht
end
inductive Fr where
 |sq (c:ACode)
 |bk (id:Nat)
def kz :List Fr→Bool
 |[]=>true
 | .sq c::ks=>c.zOk&&kz ks
 | .bk _::ks=>kz ks
section
variable (call:Nat→List V→Option V)
def wp (Q:Ex→St→Prop):List Fr→Option (Ex×St)→Prop
 |[],some (e,σ)=>Q e σ
 | .sq c::ks,some (.normal,σ)=>wp Q ks (aw call aL c σ)
 | .sq _::ks,some (e,σ)=>wp Q ks (some (e,σ))
 | .bk id::ks,some (.exit i,σ)=>if i=id then wp Q ks (some (.normal,σ))else wp Q ks (some (.exit i,σ))
 | .bk _::ks,some (e,σ)=>wp Q ks (some (e,σ))
 |_,none=>False
end
section
variable {call:Nat→List V→Option V}{Q:Ex→St→Prop}{ks:List Fr}{σ τ:St}
theorem ct {e:Ex}:wp call Q [] (some (e,σ))=Q e σ:=by simp only[wp]
theorem cr {c:ACode}:wp call Q (.sq c::ks) (some (.normal,σ))=wp call Q ks (aw call aL c σ):=by simp only[wp]
theorem cz {c:ACode}:wp call Q (.sq c::ks) (some (.ret,σ))=wp call Q ks (some (.ret,σ)):=by simp only[wp]
theorem cu {c:ACode}{i:Nat}:wp call Q (.sq c::ks) (some (.exit i,σ))=wp call Q ks (some (.exit i,σ)):=by simp only[wp]
theorem cC {id:Nat}:wp call Q (.bk id::ks) (some (.normal,σ))=wp call Q ks (some (.normal,σ)):=by simp only[wp]
theorem cD {id:Nat}:wp call Q (.bk id::ks) (some (.ret,σ))=wp call Q ks (some (.ret,σ)):=by simp only[wp]
theorem cB {id i:Nat}:wp call Q (.bk id::ks) (some (.exit i,σ))=if i=id then wp call Q ks (some (.normal,σ))else wp call Q ks (some (.exit i,σ)):=by simp only[wp]
theorem nJ :wp call Q ks none=False:=by
 cases ks with
 |nil=>simp only[wp]
 |cons k ks=>cases k<;>simp only[wp]
theorem wp_seq {a b:ACode}:wp call Q ks (aw call aL (.seq a b) σ)=wp call Q (.sq b::ks) (aw call aL a σ):=by
 simp only[aw]
 cases aw call aL a σ with
 |none=>simp only[nJ]
 |some x=>
  obtain⟨e,σ'⟩:=x
  cases e<;>simp only[cr,cz,cu]
theorem wp_block {id:Nat}{c:ACode}:wp call Q ks (aw call aL (.block id c) σ)=wp call Q (.bk id::ks) (aw call aL c σ):=by
 simp only[aw]
 cases aw call aL c σ with
 |none=>simp only[nJ]
 |some x=>
  obtain⟨e,σ'⟩:=x
  cases e with
  |exit i=>
   simp only[cB]
   split<;>rfl
  |_=>simp only[cC,cD]
theorem qb {ops:List AOper}:wp call Q ks (aw call aL (.region ops) σ)=wp call Q ks (match ah call ops σ with
 |some σ'=>some (.normal,σ')
 |none=>none):=by simp only[aw];rfl
theorem wp_cond {c:Opd}{a b:ACode}:wp call Q ks (aw call aL (.cond c a b) σ)=wp call Q ks (match isBool (c.ev σ)with
 |some t=>if t then aw call aL a σ else aw call aL b σ
 |none=>none):=by simp only[aw];rfl
theorem wp_skip :wp call Q ks (aw call aL .skip σ)=wp call Q ks (some (.normal,σ)):=by simp only[aw]
theorem wp_exit {id:Nat}:wp call Q ks (aw call aL (.exit id) σ)=wp call Q ks (some (.exit id,σ)):=by simp only[aw]
theorem wp_ret :wp call Q ks (aw call aL .ret σ)=wp call Q ks (some (.ret,σ)):=by simp only[aw]
def Cl (Q:Ex→St→Prop):Prop:=∀e σ τ,Kn σ τ→Q e σ→Q e τ
theorem S1 (hc:rt call)(hQ:Cl Q):∀{ks:List Fr},kz ks=true→∀{e:Ex}{σ τ:St},Kn σ τ→wp call Q ks (some (e,σ))→wp call Q ks (some (e,τ)):=by
 intro ks
 induction ks with
 |nil=>intro _ e σ τ k h;simp only[ct]at h⊢;exact hQ e σ τ k h
 |cons fr ks ih=>
  intro hz e σ τ k h
  cases fr with
  |sq c=>
   simp only[kz,Zh]at hz
   cases e with
   |normal=>
    simp only[cr]at h⊢
    cases hx:aw call aL c σ with
    |none=>rw[hx,nJ]at h;exact h.elim
    |some x=>
     obtain⟨e,σ'⟩:=x
     obtain⟨τ',h1,k1⟩:=Oz hc hz.1 k hx
     rw[hx]at h
     rw[h1]
     exact ih hz.2 k1 h
   |exit i=>simp only[cu]at h⊢;exact ih hz.2 k h
   |ret=>simp only[cz]at h⊢;exact ih hz.2 k h
  |bk id=>
   simp only[kz]at hz
   cases e with
   |normal=>simp only[cC]at h⊢;exact ih hz k h
   |ret=>simp only[cD]at h⊢;exact ih hz k h
   |exit i=>
    simp only[cB]at h⊢
    split at h
    ·rename_i hi;rw[if_pos hi];exact ih hz k h
    ·rename_i hi;rw[if_neg hi];exact ih hz k h
theorem Ki (hc:rt call)(hQ:Cl Q){c:ACode}(σ0:St)(hz:kz (.sq c::ks)=true)(k:Kn σ0 σ)(h:wp call Q ks (aw call aL c σ0)):wp call Q ks (aw call aL c σ):=by
 have:=S1 (e:= .normal) hc hQ hz k (by rw[cr];exact h)
 rwa[cr]at this
variable (call)in
def Uo (c:ACode)(σ:St)(e:Ex)(σe:St):Prop:=∃τ,aL (aw call aL c) σ=some (e,τ)∧Kn σe τ
variable (call)in
def Rn (c:ACode)(σ σ':St):Prop:=∃τ,aw call aL c σ=some (.normal,τ)∧Kn σ' τ
theorem TF (hc:rt call){c:ACode}(hz:c.zOk=true){e:Ex}{σ':St}(k:Kn σ τ)(h:aL (aw call aL c) σ=some (e,σ')):∃τ',aL (aw call aL c) τ=some (e,τ')∧Kn σ' τ':=by
 have:=Oz (c:= .loop c) hc hz k (by simp only[aw];exact h)
 simpa only[aw]using this
theorem Uo.step (hc:rt call){c:ACode}(hz:c.zOk=true){σ' σe:St}{e:Ex}(s:Rn call c σ σ')(E:Uo call c σ' e σe):Uo call c σ e σe:=by
 obtain⟨τ,h1,k1⟩:=s
 obtain⟨τ2,h2,k2⟩:=E
 obtain⟨τ3,h3,k3⟩:=TF hc hz k1 h2
 exact⟨τ3,by rw[gB h1];exact h3,k2.trans k3⟩
theorem Oj {e:Ex}{σe:St}{x:Option (Ex×St)}(h:wp call (fun e' τ=>e'=e∧Kn σe τ) [] x):∃τ,x=some (e,τ)∧Kn σe τ:=by
 cases x with
 |none=>rw[nJ]at h;exact h.elim
 |some x=>
  obtain⟨e',τ⟩:=x
  rw[ct]at h
  obtain⟨rfl,h⟩:=h
  exact⟨τ,rfl,h⟩
theorem Rn.of {c:ACode}{σ':St}(h:wp call (fun e' τ=>e'= .normal∧Kn σ' τ) [] (aw call aL c σ)):Rn call c σ σ':=Oj h
theorem Cl.kn {e:Ex}{σe:St}:Cl (fun e' τ=>e'=e∧Kn σe τ):=fun _ _ _ k h=>⟨h.1,h.2.trans k⟩
end
section
variable {Φ:Nat→Option AFn}{ext:Nat→List V→Option V}
def UR (rs:List ARes)(r:V)(e:Ex)(σ:St):Prop:=(e= .normal∨e= .ret)∧aW σ rs=some r
theorem Cl.fin {fn:List ARes}{r:V}:Cl (UR fn r):=fun _ _ _ k h=>⟨h.1,Qd k h.2⟩
theorem bO {fn:List ARes}{r:V}{σ:St}:UR fn r .ret σ=(aW σ fn=some r):=by simp[UR]
theorem aF {fn:List ARes}{r:V}{σ:St}:UR fn r .normal σ=(aW σ fn=some r):=by simp[UR]
theorem ae {k:Nat}{fn:AFn}{xz:List V}{r:V}(hk:Φ k=some fn)(h:wp (ag Φ ext) (UR fn.results r) [] (aw (ag Φ ext) aL fn.body (start fn xz))):ag Φ ext k xz=some r:=by
 refine fJ hk ?_
 unfold f9
 cases hx:aw (ag Φ ext) aL fn.body (start fn xz)with
 |none=>rw[hx,nJ]at h;exact h.elim
 |some x=>
  obtain⟨e,σ⟩:=x
  rw[hx,ct]at h
  obtain⟨h1|h1,h2⟩:=h<;>subst h1<;>exact h2
theorem sJ {σ:St}{rs:List ARes}{r:V}(e:aW σ rs=some r):r.clean=true:=by
 unfold aW at e
 split at e
 ·cases e
 ·rename_i vs h1
  split at e
  ·cases hcs:bS σ.h vs with
   |none=>simp[hcs]at e
   |some xs=>
    have hc:=(tT vs xs [] hcs).1
    rw[hcs]at e
    split at e
    ·rename_i ls h2
     cases h2;cases e
     simpa[V.clean]using hc
    ·rename_i l h2
     cases h2;cases e
     simpa[V.clean]using hc
    ·rename_i ys h2 h3 h4
     cases h4
     split at e
     ·cases e
     ·cases e
      simpa[V.clean]using hc
    ·cases e
  ·cases e
theorem zT :∀{h:List AObj}{os:List (Bool×List L)},ic h=some os→(os.all fun x=>x.2.all L.clean)=true
 |[],os,e=>by simp only[ic]at e;cases e;rfl
 |ob::h,os,e=>by
  cases ob with
  |zarr z es=>
   simp only[ic]at e
   split at e
   ·rename_i xs h1
    cases e
    simp[zT h1,L.clean]
   ·cases e
  |_=>simp[ic]at e
theorem Fg {m:Nat}{fn:AFn}{σ:St}{r:V}(e:Hm m fn σ=some r):r.clean=true:=by
 unfold Hm at e
 split at e
 ·rename_i l os h1 h2
  split at e
  ·rename_i hl
   cases e
   have hc:=sJ h1
   simp only[V.clean,Zr,List.all_nil,Y7,Zh]at hc⊢
   exact⟨hc,zT h2⟩
  ·cases e
 ·cases e
theorem N7 (he:rt ext):rt (ag Φ ext):=by
 intro k xz r h
 obtain⟨n,hn⟩:=jy.1 h
 cases n with
 |zero=>simp[run]at hn
 |succ n=>
  simp only[run]at hn
  split at hn
  ·split at hn
   ·split at hn
    ·split at hn
     ·unfold xb at hn
      split at hn
      ·exact Fg hn
      ·exact Fg hn
      ·cases hn
     ·cases hn
    ·cases hn
   ·exact he k xz r hn
  ·unfold done at hn
   split at hn
   ·exact sJ hn
   ·exact sJ hn
   ·cases hn
end
inductive Mk where
 |t
 |f
def iy :List Mk→List V→List V
 | .t::m,v::vs=>v::iy m vs
 | .f::m,_::vs=> .one .junk::iy m vs
 |[],vs=>vs
 |_,[]=>[]
theorem aU {m:List Mk}{v:V}{vs:List V}:iy (.t::m) (v::vs)=v::iy m vs:=rfl
theorem aS {m:List Mk}{v:V}{vs:List V}:iy (.f::m) (v::vs)= .one .junk::iy m vs:=rfl
theorem aT {vs:List V}:iy [] vs=vs:=rfl
def nL (t:List V):List (Nat×V)→List V
 |[]=>t
 |(i,v)::r=>nL (t.set i v) r
theorem bz {t:List V}:nL t []=t:=rfl
theorem eV {t:List V}{i:Nat}{v:V}{r:List (Nat×V)}:nL t ((i,v)::r)=nL (t.set i v) r:=rfl
def uG :ACode:= .cond .nil .skip .skip
theorem NR {call:Nat→List V→Option V}{σ:St}:aw call aL uG σ=none:=rfl
section
variable {call:Nat→List V→Option V}{Q:Ex→St→Prop}{ks:List Fr}{σ τ:St}
theorem S2 {x:Option (Ex×St)}(h:wp call Q (.sq uG::ks) x):∃e τ,x=some (e,τ)∧e≠ .normal∧wp call Q ks (some (e,τ)):=by
 cases x with
 |none=>rw[nJ]at h;exact h.elim
 |some x=>
  obtain⟨e,τ⟩:=x
  cases e with
  |normal=>rw[cr,NR,nJ]at h;exact h.elim
  |exit i=>rw[cu]at h;exact⟨_,_,rfl,by simp,h⟩
  |ret=>rw[cz]at h;exact⟨_,_,rfl,by simp,h⟩
theorem tn {c:ACode}(h:wp call Q (.sq uG::ks) (aw call aL c σ)):wp call Q ks (aw call aL (.loop c) σ):=by
 obtain⟨e,τ,h1,h2,h3⟩:=S2 h
 simp only[aw]
 rw[je h1 h2]
 exact h3
theorem BG (hc:rt call)(hQ:Cl Q){c:ACode}{σ':St}(hz:(c.zOk&&kz ks)=true)(s:wp call (fun e τ=>e= .normal∧Kn σ' τ) [] (aw call aL c σ))(h:wp call Q ks (aw call aL (.loop c) σ')):wp call Q ks (aw call aL (.loop c) σ):=by
 obtain⟨τ,h1,k1⟩:=Oj s
 have hz':kz (.sq (.loop c)::ks)=true:=by simpa only[kz,ACode.zOk]using hz
 have:=Ki hc hQ σ' hz' k1 h
 simp only[aw]at this⊢
 rw[gB h1]
 exact this
theorem T0 (hc:rt call)(hQ:Cl Q){c:ACode}(S:Nat→St)(n:Nat)(p:Nat→Bool)(hz:(c.zOk&&kz ks)=true)(kn:Kn (S 0) σ)
 (st:∀k,k<n→p k=false→wp call (fun e τ=>e= .normal∧Kn (S (k+1)) τ) [] (aw call aL c (S k)))
 (le:∀k,k<n→p k=true→(∀j,j<k→p j=false)→wp call Q (.sq uG::ks) (aw call aL c (S k)))
 (en:(∀k,k<n→p k=false)→wp call Q (.sq uG::ks) (aw call aL c (S n))):wp call Q ks (aw call aL (.loop c) σ):=by
 have key:∀m k,k+m=n→(∀j,j<k→p j=false)→wp call Q ks (aw call aL (.loop c) (S k)):=by
  intro m
  induction m with
  |zero=>
   intro k hk hp
   obtain rfl:k=n:=by omega
   exact tn (en hp)
  |succ m ih=>
   intro k hk hp
   cases hpk:p k with
   |true=>exact tn (le k (by omega) hpk hp)
   |false=>
    refine BG hc hQ hz (st k (by omega) hpk) (ih (k+1) (by omega) fun j hj=> ?_)
    by_cases q:j=k
    ·rw[q];exact hpk
    ·exact hp j (by omega)
 have hz':kz (.sq (.loop c)::ks)=true:=by simpa only[kz,ACode.zOk]using hz
 exact Ki hc hQ (S 0) hz' kn (key n 0 (by omega) (fun j h=>by omega))
theorem dD (hc:rt call)(hQ:Cl Q){c:ACode}{t:List V}{h:List AObj}(n:Nat)(m:List Mk)(U:Nat→List (Nat×V))(H:Nat→List AObj)(hz:(c.zOk&&kz ks)=true)(kn:Kn ⟨nL (iy m t) (U 0),H 0⟩ ⟨t,h⟩)
 (st:∀k,k<n→wp call (fun e τ=>e= .normal∧Kn ⟨nL (iy m t) (U (k+1)),H (k+1)⟩ τ) [] (aw call aL c ⟨nL (iy m t) (U k),H k⟩))
 (en:wp call Q (.sq uG::ks) (aw call aL c ⟨nL (iy m t) (U n),H n⟩)):wp call Q ks (aw call aL (.loop c) ⟨t,h⟩):=
 T0 hc hQ (fun k=>⟨nL (iy m t) (U k),H k⟩) n (fun _=>false) hz kn (fun k hk _=>st k hk) (fun k hk hp=>by cases hp) (fun _=>en)
end
section
variable {call:Nat→List V→Option V}{Q:Ex→St→Prop}{ks:List Fr}{σ τ:St}
theorem NQ {id:Nat}{σ:St}(h:wp call Q ks (some (.exit id,σ))):wp call Q (.sq uG::ks) (some (.exit id,σ)):=by rw[cu];exact h
theorem tK {c:ACode}:wp call Q ks (aw call aL (.loop c) σ)=wp call Q (.sq (.loop c)::ks) (aw call aL c σ):=by
 simp only[aw]
 rw[vp]
 cases h:aw call aL c σ with
 |none=>simp only[nJ]
 |some x=>
  obtain⟨e,σ'⟩:=x
  cases e with
  |normal=>simp only[cr,aw]
  |exit i=>simp only[cu]
  |ret=>simp only[cz]
theorem Pp (hc:rt call)(hQ:Cl Q){c:ACode}{t:List V}{h:List AObj}(n:Nat)(m:List Mk)(U:Nat→List (Nat×V))(H:Nat→List AObj)(id:Nat)(hz:(c.zOk&&kz ks)=true)(kn:Kn ⟨nL (iy m t) (U 0),H 0⟩ ⟨t,h⟩)
 (st:∀k,k<n→wp call (fun e τ=>e= .normal∧Kn ⟨nL (iy m t) (U (k+1)),H (k+1)⟩ τ) [] (aw call aL c ⟨nL (iy m t) (U k),H k⟩))
 (en:wp call (fun e τ=>e= .exit id∧Kn ⟨nL (iy m t) (U n),H n⟩ τ) [] (aw call aL c ⟨nL (iy m t) (U n),H n⟩))
 (rest:wp call Q ks (some (.exit id,⟨nL (iy m t) (U n),H n⟩))):wp call Q ks (aw call aL (.loop c) ⟨t,h⟩):=by
 refine dD hc hQ n m U H hz kn st ?_
 obtain⟨τ,h1,k1⟩:=Oj en
 rw[h1]
 refine NQ (S1 hc hQ ?_ k1 rest)
 simp only[Zh]at hz
 exact hz.2
end
def uO :List V→Nat→V
 |[],_=> .tup []
 |v::_,0=>v
 |_::r,n+1=>uO r n
def Aq :List V→Nat→V→List V
 |[],_,_=>[]
 |_::r,0,x=>x::r
 |v::r,n+1,x=>v::Aq r n x
theorem An :∀(t:List V)(n:Nat),t.getD n (.tup [])=uO t n
 |[],_=>by simp[uO]
 |v::r,0=>by simp[uO]
 |v::r,n+1=>by rw[List.getD_cons_succ,An r n];rfl
theorem Kf :∀(t:List V)(n:Nat)(x:V),t.set n x=Aq t n x
 |[],_,_=>rfl
 |v::r,0,_=>rfl
 |v::r,n+1,x=>by rw[Ys,Kf r n x];rfl
theorem cS {σ:St}{n:Nat}:(Opd.tmp n).ev σ=uO σ.t n:=An _ _
theorem ed {σ:St}{p:PV}:(Opd.pv p).ev σ= .one (.pv p):=rfl
theorem cR {σ:St}:Opd.nil.ev σ= .one .nil:=rfl
theorem dZ {σ:St}{k:Nat}:(Opd.fn k).ev σ= .one (.fn k []):=rfl
theorem eu {t:List V}{d:Nat}{v:V}:put t (some d) v=Aq t d v:=Kf _ _ _
theorem ep {t:List V}{v:V}:put t none v=t:=rfl
theorem ce {σ:St}{n:Nat}:cF σ (.tmp n)=some (uO σ.t n):=by simp only[cF,An]
theorem bD {σ:St}{t n:Nat}:cF σ (.cell t n)=bA σ.h true n (uO σ.t t):=by simp only[cF,An]
theorem cY {t:List V}{i:Nat}{v:V}{r:List (Nat×V)}:nL t ((i,v)::r)=nL (Aq t i v) r:=by rw[eV,Kf]
section
variable {a b c d e f g h v:V}{r:List V}{n:Nat}
theorem pz :uO (v::r) 0=v:=rfl
theorem pI {x:V}:Aq (v::r) 0 x=x::r:=rfl
theorem pA :uO (a::v::r) 1=v:=rfl
theorem pJ {x:V}:Aq (a::v::r) 1 x=a::x::r:=rfl
theorem pB :uO (a::b::v::r) 2=v:=rfl
theorem pK {x:V}:Aq (a::b::v::r) 2 x=a::b::x::r:=rfl
theorem pC :uO (a::b::c::v::r) 3=v:=rfl
theorem pL {x:V}:Aq (a::b::c::v::r) 3 x=a::b::c::x::r:=rfl
theorem pD :uO (a::b::c::d::v::r) 4=v:=rfl
theorem pM {x:V}:Aq (a::b::c::d::v::r) 4 x=a::b::c::d::x::r:=rfl
theorem pE :uO (a::b::c::d::e::v::r) 5=v:=rfl
theorem pO {x:V}:Aq (a::b::c::d::e::v::r) 5 x=a::b::c::d::e::x::r:=rfl
theorem pF :uO (a::b::c::d::e::f::v::r) 6=v:=rfl
theorem pP {x:V}:Aq (a::b::c::d::e::f::v::r) 6 x=a::b::c::d::e::f::x::r:=rfl
theorem pG :uO (a::b::c::d::e::f::g::v::r) 7=v:=rfl
theorem pQ {x:V}:Aq (a::b::c::d::e::f::g::v::r) 7 x=a::b::c::d::e::f::g::x::r:=rfl
theorem pH :uO (a::b::c::d::e::f::g::h::r) (n+8)=uO r n:=rfl
theorem pR {x:V}:Aq (a::b::c::d::e::f::g::h::r) (n+8) x=a::b::c::d::e::f::g::h::Aq r n x:=rfl
end
section
variable {call:Nat→List V→Option V}{Q:Ex→St→Prop}{ks:List Fr}{σ τ:St}
variable (call Q ks)in
def wo (ops:List AOper)(σ:St):Prop:=wp call Q ks (match ah call ops σ with
 |some σ'=>some (.normal,σ')
 |none=>none)
variable (call Q ks)in
def oH (r:List AOper)(d:Option Nat)(σ:St):AOp→Prop
 | .pick c a b=>match isBool (c.ev σ)with
  |some t=>if _:t=true then wo call Q ks r ⟨put σ.t d (a.ev σ),σ.h⟩else wo call Q ks r ⟨put σ.t d (b.ev σ),σ.h⟩
  |none=>False
 |op=>match bJ call σ op with
  |some v=>wo call Q ks r ⟨put σ.t d v,σ.h⟩
  |none=>match cI call σ op with
   |some x=>wo call Q ks r ⟨put σ.t d x.1,x.2⟩
   |none=>False
theorem bg {ops:List AOper}:wp call Q ks (aw call aL (.region ops) σ)=wo call Q ks ops σ:=qb
theorem cZ :wo call Q ks [] σ=wp call Q ks (some (.normal,σ)):=rfl
theorem Vx {o:AOper}{r:List AOper}:wo call Q ks (o::r) σ=match aJ call o σ with
 |some σ'=>wo call Q ks r σ'
 |none=>False:=by
 unfold wo
 simp only[ah]
 cases aJ call o σ with
 |some x=>rfl
 |none=>simp only[nJ]
theorem S3 {r:List AOper}{d:Option Nat}{op:AOp}:oH call Q ks r d σ op=match(match bJ call σ op with
 |some v=>some (⟨put σ.t d v,σ.h⟩:St)
 |none=>match cI call σ op with
  |some (v,h)=>some ⟨put σ.t d v,h⟩
  |none=>none)with
 |some σ'=>wo call Q ks r σ'
 |none=>False:=by
 have key:∀(f:Option V)(e:Option (V×List AObj)),(match f with
  |some v=>wo call Q ks r ⟨put σ.t d v,σ.h⟩
  |none=>match e with
   |some x=>wo call Q ks r ⟨put σ.t d x.1,x.2⟩
   |none=>False)=match(match f with
  |some v=>some (⟨put σ.t d v,σ.h⟩:St)
  |none=>match e with
   |some (v,h)=>some ⟨put σ.t d v,h⟩
   |none=>none)with
  |some σ'=>wo call Q ks r σ'
  |none=>False:=fun f e=>by
  cases f with
  |some v=>rfl
  |none=>cases e<;>rfl
 unfold oH
 split
 ·simp only[bJ,cI]
  cases isBool (Opd.ev σ _)with
  |none=>rfl
  |some t=>cases t<;>simp
 ·exact key _ _
theorem cf {r:List AOper}{d:Option Nat}{op:AOp}:wo call Q ks (⟨d,op,none⟩::r) σ=oH call Q ks r d σ op:=by
 rw[Vx,S3];rfl
theorem bE {r:List AOper}{d:Option Nat}{op:AOp}{g:Nat}{w:Bool}:wo call Q ks (⟨d,op,some (g,w)⟩::r) σ=match uO σ.t g with
 | .one (.pv (.bool b))=>if _:b=w then oH call Q ks r d σ op else wo call Q ks r ⟨put σ.t d (.tup []),σ.h⟩
 | .tup []=>wo call Q ks r ⟨put σ.t d (.tup []),σ.h⟩
 |_=>False:=by
 rw[Vx,←An]
 unfold aJ
 simp only[bf]
 cases σ.t.getD g (.tup [])with
 |one l=>
  cases l with
  |pv p=>
   cases p with
   |bool b=>
    have e:=S3 (call:=call) (Q:=Q) (ks:=ks) (σ:=σ) (r:=r) (d:=d) (op:=op)
    cases b<;>cases w<;>simp only[e]<;>simp<;>rfl
   |_=>rfl
  |_=>rfl
 |agg ls=>rfl
 |tup xs=>cases xs<;>rfl
theorem cj {c:Opd}{a b:ACode}:wp call Q ks (aw call aL (.cond c a b) σ)=match isBool (c.ev σ)with
 |some t=>if _:t=true then wp call Q ks (aw call aL a σ)else wp call Q ks (aw call aL b σ)
 |none=>False:=by
 rw[wp_cond]
 cases isBool (c.ev σ)with
 |none=>simp only[nJ]
 |some t=>cases t<;>simp
theorem Pq {P:Ex→St→Prop}{x:Option (Ex×St)}(h:wp call P [] x):∃e τ,x=some (e,τ)∧P e τ:=by
 cases x with
 |none=>rw[nJ]at h;exact h.elim
 |some x=>exact⟨_,_,rfl,h⟩
theorem Rf (hc:rt call)(hQ:Cl Q){c:ACode}(S:Nat→St)(n:Nat)(p:Nat→Bool)(hz:(c.zOk&&kz ks)=true)(kn:Kn (S 0) σ)
 (st:∀k,k<n→(∀j,j<k→p j=false)→wp call (fun e τ=>(p k=true→wp call Q (.sq uG::ks) (some (e,τ)))∧(p k=false→e= .normal∧Kn (S (k+1)) τ)) [] (aw call aL c (S k)))
 (en:(∀k,k<n→p k=false)→wp call Q (.sq uG::ks) (aw call aL c (S n))):wp call Q ks (aw call aL (.loop c) σ):=by
 have key:∀m k,k+m=n→(∀j,j<k→p j=false)→wp call Q ks (aw call aL (.loop c) (S k)):=by
  intro m
  induction m with
  |zero=>
   intro k hk hp
   obtain rfl:k=n:=by omega
   exact tn (en hp)
  |succ m ih=>
   intro k hk hp
   obtain⟨e,τ,h1,h2,h3⟩:=Pq (st k (by omega) hp)
   cases hpk:p k with
   |true=>exact tn (by rw[h1];exact h2 hpk)
   |false=>
    obtain⟨rfl,h4⟩:=h3 hpk
    refine BG hc hQ hz (by rw[h1,ct];exact⟨rfl,h4⟩) (ih (k+1) (by omega) fun j hj=> ?_)
    by_cases q:j=k
    ·rw[q];exact hpk
    ·exact hp j (by omega)
 have hz':kz (.sq (.loop c)::ks)=true:=by simpa only[kz,ACode.zOk]using hz
 exact Ki hc hQ (S 0) hz' kn (key n 0 (by omega) (fun j h=>by omega))
def gD (n:Nat)(p:Nat→Bool):Bool:=(List.range n).any p
theorem Rs {n k:Nat}{p:Nat→Bool}(hk:k<n)(h:p k=true):gD n p=true:=by
 unfold gD;rw[List.any_eq_true];exact⟨k,by simpa using hk,h⟩
theorem IE {n:Nat}{p:Nat→Bool}(h:∀k,k<n→p k=false):gD n p=false:=by
 unfold gD;rw[List.any_eq_false];intro k hk;simp[h k (by simpa using hk)]
theorem uQ {n:Nat}{p:Nat→Bool}(h:gD n p=false){k:Nat}(hk:k<n):p k=false:=by
 unfold gD at h;rw[List.any_eq_false]at h;exact Bool.eq_false_iff.2 (h k (by simpa using hk))
theorem aG (hc:rt call)(hQ:Cl Q){c:ACode}{t:List V}{h:List AObj}(m:List Mk)(U:Nat→List (Nat×V))(n:Nat)(p:Nat→Bool)(hz:(c.zOk&&kz ks)=true)(kn:Kn ⟨nL (iy m t) (U 0),h⟩ ⟨t,h⟩)
 (st:∀k,k<n→(∀j,j<k→p j=false)→wp call (fun e τ=>if _:p k=true then gD n p=true→wp call Q (.sq uG::ks) (some (e,τ))else e= .normal∧Kn ⟨nL (iy m t) (U (k+1)),h⟩ τ) [] (aw call aL c ⟨nL (iy m t) (U k),h⟩))
 (en:(∀k,k<n→p k=false)→gD n p=false→wp call Q (.sq uG::ks) (aw call aL c ⟨nL (iy m t) (U n),h⟩)):wp call Q ks (aw call aL (.loop c) ⟨t,h⟩):=by
 refine Rf hc hQ (fun k=>⟨nL (iy m t) (U k),h⟩) n p hz kn (fun k hk hp=> ?_) fun hp=>en hp (IE hp)
 obtain⟨e,τ,h1,h2⟩:=Pq (st k hk hp)
 rw[h1,ct]
 split at h2
 ·rename_i q;exact⟨fun _=>h2 (Rs hk q),fun q'=>by rw[q]at q';cases q'⟩
 ·rename_i q;exact⟨fun q'=>absurd q' q,fun _=>h2⟩
end
end Gi
