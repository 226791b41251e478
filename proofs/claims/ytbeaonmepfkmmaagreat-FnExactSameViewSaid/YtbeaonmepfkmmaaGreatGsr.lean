/- Of this proof. -/
import Derived.Test.YtbeaonmepfkmmaaGreatGsn
set_option linter.unusedSimpArgs false
set_option linter.unusedVariables false
namespace Gi
open Go
section
variable {f g:List Nat}{h h':List AObj}{σ τ υ:St}{call:Nat→List V→Option V}
theorem OJ (k:HRel f h h'){l l' x:L}(r:dN f l l')(e:bU h l=some x):bU h' l'=some x∧l.ren f=some l':=by
 rcases r with rfl|r
 ·cases e
 refine⟨?_,r⟩
 cases l with
 |arr o=>
  obtain⟨o',h1,rfl⟩:=fY r
  obtain⟨ob,ob',h2,h3,h4⟩:=k.get h1
  simp only[bU,h2]at e
  simp only[bU,h3]
  cases ob with
  |arr z es=>rw[aI h4 (by simp) (by simp)];exact e
  |froz z es=>rw[aI h4 (by simp) (by simp)];exact e
  |darr z es=>rw[aI h4 (by simp) (by simp)];exact e
  |_=>cases e
 |pv p=>simp only[L.ren]at r;cases r;exact e
 |nil=>simp only[L.ren]at r;cases r;exact e
 |_=>cases e
theorem xc (k:HRel f h h'):∀{ls ls' xs:List L},aP f ls ls'→aN h ls=some xs→aN h' ls'=some xs∧eV f ls ls'
 |[],[],_,_,e=>⟨e,trivial⟩
 |l::ls,l'::ls',xs,r,e=>by
  simp only[aN]at e⊢
  split at e
  ·rename_i x ys h1 h2
   cases e
   obtain⟨a1,a2⟩:=OJ k r.1 h1
   obtain⟨b1,b2⟩:=xc k r.2 h2
   rw[a1,b1]
   exact⟨rfl,a2,b2⟩
  ·cases e
 |[],_::_,_,e,_=>e.elim
 |_::_,[],_,e,_=>e.elim
theorem P3 (k:HRel f h h'){v v':V}{x:Bool×List L}(r:bF f v v')(e:comp h v=some x):comp h' v'=some x∧eV f v.cells v'.cells:=by
 cases v with
 |one l=>
  rcases r with rfl|⟨l',rfl,r⟩
  ·cases e
  simp only[comp]at e⊢
  split at e
  ·rename_i xs h1
   obtain⟨a1,a2⟩:=xc k (show aP f [l] [l']from⟨.inr r,trivial⟩) h1
   rw[a1]
   exact⟨e,a2⟩
  ·cases e
 |agg ls=>
  obtain⟨ls',rfl,r⟩:=r
  simp only[comp]at e⊢
  split at e
  ·rename_i xs h1
   obtain⟨a1,a2⟩:=xc k r h1
   rw[a1]
   exact⟨e,a2⟩
  ·cases e
 |tup xs=>cases e
theorem Gp (k:HRel f h h'):∀{vs vs':List V}{xs:List (Bool×List L)},bg f vs vs'→b6 h vs=some xs→b6 h' vs'=some xs∧eV f (vs.flatMap V.cells) (vs'.flatMap V.cells)
 |[],[],_,_,e=>⟨e,trivial⟩
 |v::vs,v'::vs',xs,r,e=>by
  simp only[b6]at e⊢
  split at e
  ·rename_i x ys h1 h2
   cases e
   obtain⟨a1,a2⟩:=P3 k r.1 h1
   obtain⟨b1,b2⟩:=Gp k r.2 h2
   rw[a1,b1]
   exact⟨rfl,by simpa only[List.flatMap_cons]using a2.append b2⟩
  ·cases e
 |[],_::_,_,e,_=>e.elim
 |_::_,[],_,e,_=>e.elim
theorem I4 (k:HRel f h h'):∀{ls ls':List L},eV f ls ls'→(∀o',o'∈aw ls'→∃o,o∈aw ls∧f[o]? =some o')∧((aw ls).Nodup→(aw ls').Nodup)
 |[],[],_=>⟨fun o' h=>by simp[aw]at h,fun h=>h⟩
 |l::ls,l'::ls',r=>by
  obtain⟨i1,i2⟩:=I4 k r.2
  have r1:=r.1
  have other:(∀o,l≠ .arr o)→(∀o,l'≠ .arr o)→aw (l::ls)=aw ls∧aw (l'::ls')=aw ls':=fun a b=>by
   constructor
   ·cases l with
    |arr o=>exact absurd rfl (a o)
    |_=>rfl
   ·cases l' with
    |arr o=>exact absurd rfl (b o)
    |_=>rfl
  cases l with
  |arr o=>
   obtain⟨o',h1,rfl⟩:=fY r1
   have ea:aw (.arr o::ls)=o::aw ls:=rfl
   have eb:aw (.arr o'::ls')=o'::aw ls':=rfl
   rw[ea,eb]
   refine⟨fun p hp=> ?_,fun nd=> ?_⟩
   ·rcases List.mem_cons.1 hp with rfl|hp
    ·exact⟨o,List.mem_cons_self,h1⟩
    ·obtain⟨q,h2,h3⟩:=i1 p hp
     exact⟨q,List.mem_cons_of_mem _ h2,h3⟩
   ·obtain⟨n1,n2⟩:=List.nodup_cons.1 nd
    refine List.nodup_cons.2 ⟨fun hp=> ?_,i2 n2⟩
    obtain⟨q,h2,h3⟩:=i1 o' hp
    rw[k.inj h3 h1]at h2
    exact n1 h2
  |ptr o i j=>
   obtain⟨o',_,rfl⟩:=gq r1
   obtain⟨ea,eb⟩:=other (by simp) (by simp)
   rw[ea,eb];exact⟨i1,i2⟩
  |mp o=>
   obtain⟨o',_,rfl⟩:=qy r1
   obtain⟨ea,eb⟩:=other (by simp) (by simp)
   rw[ea,eb];exact⟨i1,i2⟩
  |sub o c=>
   obtain⟨o',_,rfl⟩:=pH r1
   obtain⟨ea,eb⟩:=other (by simp) (by simp)
   rw[ea,eb];exact⟨i1,i2⟩
  |_=>
   simp only[L.ren]at r1
   cases r1
   obtain⟨ea,eb⟩:=other (by simp) (by simp)
   rw[ea,eb];exact⟨i1,i2⟩
 |[],_::_,e=>e.elim
 |_::_,[],e=>e.elim
theorem wG (s:Cln f σ τ):∀{rs:List ARes}{vs:List V},az σ rs=some vs→∃vs',az τ rs=some vs'∧bg f vs vs'
 |[],vs,e=>by simp only[az]at e⊢;cases e;exact⟨_,rfl,trivial⟩
 |r::rs,vs,e=>by
  simp only[az]at e⊢
  split at e
  ·rename_i x xs h1 h2
   cases e
   obtain⟨xs',h3,h4⟩:=wG s h2
   have:∃x',dO τ r=some x'∧bF f x x':=by
    cases r with
    |tmp t=>simp only[dO]at h1⊢;cases h1;exact⟨_,rfl,s.tmps.getD t⟩
    |cell t n=>exact Nc (call:=fun _ _=>none) (op:= .load true n (.tmp t)) s (fun _ _ _ h=>by cases h) rfl h1
   obtain⟨x',h5,h6⟩:=this
   rw[h5,h3]
   exact⟨_,rfl,h6,h4⟩
  ·cases e
theorem OD (k:Kn σ τ){rs:List ARes}{r:V}(e:aT σ rs=some r):aT τ rs=some r:=by
 obtain⟨f,s⟩:=k
 unfold aT at e⊢
 cases hr:az σ rs with
 |none=>simp[hr]at e
 |some vs=>
  obtain⟨vs',h1,h2⟩:=wG s hr
  rw[h1]
  simp only[hr]at e⊢
  split at e
  ·rename_i nd
   cases hcs:b6 σ.h vs with
   |none=>simp[hcs]at e
   |some xs=>
    obtain⟨a1,a2⟩:=Gp s.heap h2 hcs
    rw[if_pos ((I4 s.heap a2).2 nd),a1]
    rw[hcs]at e
    exact e
  ·cases e
def t6 (g f:List Nat):List Nat:=f.map fun o=>g.getD o 0
theorem GI (k:HRel f h h')(hg:g.length=h'.length){l l' l'':L}(e1:l.ren f=some l')(e2:l'.ren g=some l''):l.ren (t6 g f)=some l'':=by
 have key:∀{o o' o'':Nat},f[o]? =some o'→g[o']? =some o''→(t6 g f)[o]? =some o'':=fun{o o' o''}a b=>by
  simp only[t6,List.getElem?_map,a,Option.map_some,List.getD,b,Option.getD_some]
 cases l with
 |ptr o i j=>
  obtain⟨o',a,rfl⟩:=gq e1
  obtain⟨o'',b,rfl⟩:=gq e2
  simp only[L.ren,key a b]
 |arr o=>
  obtain⟨o',a,rfl⟩:=fY e1
  obtain⟨o'',b,rfl⟩:=fY e2
  simp only[L.ren,key a b]
 |mp o=>
  obtain⟨o',a,rfl⟩:=qy e1
  obtain⟨o'',b,rfl⟩:=qy e2
  simp only[L.ren,key a b]
 |sub o c=>
  obtain⟨o',a,rfl⟩:=pH e1
  obtain⟨o'',b,rfl⟩:=pH e2
  simp only[L.ren,key a b]
 |_=>
  simp only[L.ren]at e1
  cases e1
  exact e2
theorem Kr {l:L}(e:l.ren f=some .junk):l= .junk:=by
 cases l with
 |ptr o i j=>obtain⟨o',a,h⟩:=gq e;cases h
 |arr o=>obtain⟨o',a,h⟩:=fY e;cases h
 |mp o=>obtain⟨o',a,h⟩:=qy e;cases h
 |sub o c=>obtain⟨o',a,h⟩:=pH e;cases h
 |junk=>rfl
 |_=>simp only[L.ren]at e;cases e
theorem dN.trans (k:HRel f h h')(hg:g.length=h'.length){l l' l'':L}(e1:dN f l l')(e2:dN g l' l''):dN (t6 g f) l l'':=by
 rcases e1 with e1|e1
 ·exact .inl e1
 rcases e2 with rfl|e2
 ·exact .inl (Kr e1)
 ·exact .inr (GI k hg e1 e2)
theorem aP.trans (k:HRel f h h')(hg:g.length=h'.length):∀{a b c:List L},aP f a b→aP g b c→aP (t6 g f) a c
 |[],[],[],_,_=>trivial
 |_::_,_::_,_::_,e1,e2=>⟨e1.1.trans k hg e2.1,aP.trans k hg e1.2 e2.2⟩
 |[],_::_,_,e,_=>e.elim
 |_::_,[],_,e,_=>e.elim
 |_,[],_::_,_,e=>e.elim
 |_,_::_,[],_,e=>e.elim
theorem cu.trans (k:HRel f h h')(hg:g.length=h'.length):∀{a b c:List (Bool×List L)},cu f a b→cu g b c→cu (t6 g f) a c
 |[],[],[],_,_=>trivial
 |_::_,_::_,_::_,e1,e2=>⟨e1.1.trans e2.1,e1.2.1.trans k hg e2.2.1,cu.trans k hg e1.2.2 e2.2.2⟩
 |[],_::_,_,e,_=>e.elim
 |_::_,[],_,e,_=>e.elim
 |_,[],_::_,_,e=>e.elim
 |_,_::_,[],_,e=>e.elim
theorem bF.trans (k:HRel f h h')(hg:g.length=h'.length){a b c:V}(e1:bF f a b)(e2:bF g b c):bF (t6 g f) a c:=by
 cases a with
 |one l=>
  rcases e1 with e1|⟨l',rfl,e1⟩
  ·exact .inl e1
  rcases e2 with rfl|⟨l'',rfl,e2⟩
  ·exact .inl (Kr e1)
  ·exact .inr ⟨l'',rfl,GI k hg e1 e2⟩
 |agg ls=>
  obtain⟨ls',rfl,e1⟩:=e1
  obtain⟨ls'',rfl,e2⟩:=e2
  exact⟨_,rfl,e1.trans k hg e2⟩
 |tup xs=>
  obtain⟨ls',rfl,e1⟩:=e1
  obtain⟨ls'',rfl,e2⟩:=e2
  exact⟨_,rfl,e1.trans k hg e2⟩
theorem bg.trans (k:HRel f h h')(hg:g.length=h'.length):∀{a b c:List V},bg f a b→bg g b c→bg (t6 g f) a c
 |[],[],[],_,_=>trivial
 |_::_,_::_,_::_,e1,e2=>⟨e1.1.trans k hg e2.1,bg.trans k hg e1.2 e2.2⟩
 |[],_::_,_,e,_=>e.elim
 |_::_,[],_,e,_=>e.elim
 |_,[],_::_,_,e=>e.elim
 |_,_::_,[],_,e=>e.elim
theorem Kn.trans (a:Kn σ τ)(b:Kn τ υ):Kn σ υ:=by
 obtain⟨f,a⟩:=a
 obtain⟨g,b⟩:=b
 have hg:=b.heap.len
 have at2:∀{i:Nat}{o'':Nat},(t6 g f)[i]? =some o''→∃o',f[i]? =some o'∧g[o']? =some o'':=fun{i o''}e=>by
  simp only[t6,List.getElem?_map,Option.map_eq_some_iff]at e
  obtain⟨o',h1,h2⟩:=e
  refine⟨o',h1,?_⟩
  have:o'<g.length:=by rw[hg];exact a.heap.lt h1
  simp only[List.getD,List.getElem?_eq_getElem this,Option.getD_some]at h2
  rw[List.getElem?_eq_getElem this,h2]
 refine⟨t6 g f,⟨?_,by simp[t6,a.heap.len],fun i o ob e1 e2=> ?_⟩,a.tmps.trans a.heap hg b.tmps⟩
 ·refine List.pairwise_iff_getElem.2 fun i j hi hj hij e=> ?_
  obtain⟨o1,h1,h2⟩:=at2 (List.getElem?_eq_getElem hi)
  obtain⟨o2,h3,h4⟩:=at2 (List.getElem?_eq_getElem hj)
  rw[e]at h2
  have:=b.heap.inj h2 h4
  subst this
  exact absurd (a.heap.inj h1 h3) (by omega)
 ·obtain⟨o',h1,h2⟩:=at2 e1
  obtain⟨ob',h3,h4⟩:=a.heap.obs i o' ob h1 e2
  obtain⟨ob'',h5,h6⟩:=b.heap.obs o' o ob' h2 h3
  refine⟨ob'',h5,?_⟩
  cases ob with
  |box cs=>
   obtain⟨cs',rfl,h4⟩:=h4
   obtain⟨cs'',rfl,h6⟩:=h6
   exact⟨_,rfl,h4.trans a.heap hg h6⟩
  |dead=>trivial
  |arr z es=>rw[aI h4 (by simp) (by simp)]at h6;exact h6
  |froz z es=>rw[aI h4 (by simp) (by simp)]at h6;exact h6
  |darr z es=>rw[aI h4 (by simp) (by simp)]at h6;exact h6
  |zarr z es=>rw[aI h4 (by simp) (by simp)]at h6;exact h6
  |fbox ps=>rw[aI h4 (by simp) (by simp)]at h6;exact h6
  |imap kvs=>rw[aI h4 (by simp) (by simp)]at h6;exact h6
  |tbox n=>rw[aI h4 (by simp) (by simp)]at h6;exact h6
  |res=>rw[aI h4 (by simp) (by simp)]at h6;exact h6
theorem Kn.of (f:List Nat){t t':List V}{h h':List AObj}(nd:f.Nodup)(ho:bK f h' f h)(ht:bg f t t'):Kn ⟨t,h⟩ ⟨t',h'⟩:=⟨f,Cln.of f nd ho ht⟩
theorem Kn.r (f:List Nat){t t':List V}{h h':List AObj}(ho:bK f h' f h:=by simp[bg,bF,aP,dN,cu,bK,cH,L.ren])(ht:bg f t t':=by simp[bg,bF,aP,dN,cu,bK,cH,L.ren])(nd:f.Nodup:=by decide):Kn ⟨t,h⟩ ⟨t',h'⟩:=Kn.of f nd ho ht
end
inductive Fr where
 |sq (c:ACode)
 |bk (id:Nat)
def kz :List Fr→Bool
 |[]=>true
 | .sq c::ks=>c.zOk&&kz ks
 | .bk _::ks=>kz ks
section
variable (call:Nat→List V→Option V)
def wp (Q:Ex→St→Prop):List Fr→Option (Ex×St)→Prop
 |[],some (e,σ)=>Q e σ
 | .sq c::ks,some (.normal,σ)=>wp Q ks (aG call aV c σ)
 | .sq _::ks,some (e,σ)=>wp Q ks (some (e,σ))
 | .bk id::ks,some (.exit i,σ)=>if i=id then wp Q ks (some (.normal,σ))else wp Q ks (some (.exit i,σ))
 | .bk _::ks,some (e,σ)=>wp Q ks (some (e,σ))
 |_,none=>False
end
section
variable {call:Nat→List V→Option V}{Q:Ex→St→Prop}{ks:List Fr}{σ τ:St}
theorem b9 {e:Ex}:wp call Q [] (some (e,σ))=Q e σ:=by simp only[wp]
theorem b8 {c:ACode}:wp call Q (.sq c::ks) (some (.normal,σ))=wp call Q ks (aG call aV c σ):=by simp only[wp]
theorem cj {c:ACode}:wp call Q (.sq c::ks) (some (.ret,σ))=wp call Q ks (some (.ret,σ)):=by simp only[wp]
theorem ca {c:ACode}{i:Nat}:wp call Q (.sq c::ks) (some (.exit i,σ))=wp call Q ks (some (.exit i,σ)):=by simp only[wp]
theorem cr {id:Nat}:wp call Q (.bk id::ks) (some (.normal,σ))=wp call Q ks (some (.normal,σ)):=by simp only[wp]
theorem ct {id:Nat}:wp call Q (.bk id::ks) (some (.ret,σ))=wp call Q ks (some (.ret,σ)):=by simp only[wp]
theorem cq {id i:Nat}:wp call Q (.bk id::ks) (some (.exit i,σ))=if i=id then wp call Q ks (some (.normal,σ))else wp call Q ks (some (.exit i,σ)):=by simp only[wp]
theorem nq :wp call Q ks none=False:=by
 cases ks with
 |nil=>simp only[wp]
 |cons k ks=>cases k<;>simp only[wp]
theorem wp_seq {a b:ACode}:wp call Q ks (aG call aV (.seq a b) σ)=wp call Q (.sq b::ks) (aG call aV a σ):=by
 simp only[aG]
 cases aG call aV a σ with
 |none=>simp only[nq]
 |some x=>
  obtain⟨e,σ'⟩:=x
  cases e<;>simp only[b8,cj,ca]
theorem wp_block {id:Nat}{c:ACode}:wp call Q ks (aG call aV (.block id c) σ)=wp call Q (.bk id::ks) (aG call aV c σ):=by
 simp only[aG]
 cases aG call aV c σ with
 |none=>simp only[nq]
 |some x=>
  obtain⟨e,σ'⟩:=x
  cases e with
  |exit i=>
   simp only[cq]
   split<;>rfl
  |_=>simp only[cr,ct]
theorem GY {ops:List AOper}:wp call Q ks (aG call aV (.region ops) σ)=wp call Q ks (match aK call ops σ with
 |some σ'=>some (.normal,σ')
 |none=>none):=by simp only[aG];rfl
theorem wp_cond {c:Opd}{a b:ACode}:wp call Q ks (aG call aV (.cond c a b) σ)=wp call Q ks (match isBool (c.ev σ)with
 |some t=>if t then aG call aV a σ else aG call aV b σ
 |none=>none):=by simp only[aG];rfl
theorem wp_skip :wp call Q ks (aG call aV .skip σ)=wp call Q ks (some (.normal,σ)):=by simp only[aG]
theorem wp_exit {id:Nat}:wp call Q ks (aG call aV (.exit id) σ)=wp call Q ks (some (.exit id,σ)):=by simp only[aG]
theorem wp_ret :wp call Q ks (aG call aV .ret σ)=wp call Q ks (some (.ret,σ)):=by simp only[aG]
def Cl (Q:Ex→St→Prop):Prop:=∀e σ τ,Kn σ τ→Q e σ→Q e τ
theorem Rq (hc:qS call)(hQ:Cl Q):∀{ks:List Fr},kz ks=true→∀{e:Ex}{σ τ:St},Kn σ τ→wp call Q ks (some (e,σ))→wp call Q ks (some (e,τ)):=by
 intro ks
 induction ks with
 |nil=>intro _ e σ τ k h;simp only[b9]at h⊢;exact hQ e σ τ k h
 |cons fr ks ih=>
  intro hz e σ τ k h
  cases fr with
  |sq c=>
   simp only[kz,Bool.and_eq_true]at hz
   cases e with
   |normal=>
    simp only[b8]at h⊢
    cases hx:aG call aV c σ with
    |none=>rw[hx,nq]at h;exact h.elim
    |some x=>
     obtain⟨e,σ'⟩:=x
     obtain⟨τ',h1,k1⟩:=M6 hc hz.1 k hx
     rw[hx]at h
     rw[h1]
     exact ih hz.2 k1 h
   |exit i=>simp only[ca]at h⊢;exact ih hz.2 k h
   |ret=>simp only[cj]at h⊢;exact ih hz.2 k h
  |bk id=>
   simp only[kz]at hz
   cases e with
   |normal=>simp only[cr]at h⊢;exact ih hz k h
   |ret=>simp only[ct]at h⊢;exact ih hz k h
   |exit i=>
    simp only[cq]at h⊢
    split at h
    ·rename_i hi;rw[if_pos hi];exact ih hz k h
    ·rename_i hi;rw[if_neg hi];exact ih hz k h
theorem IU (hc:qS call)(hQ:Cl Q){c:ACode}(σ0:St)(hz:kz (.sq c::ks)=true)(k:Kn σ0 σ)(h:wp call Q ks (aG call aV c σ0)):wp call Q ks (aG call aV c σ):=by
 have:=Rq (e:= .normal) hc hQ hz k (by rw[b8];exact h)
 rwa[b8]at this
variable (call)in
def S6 (c:ACode)(σ:St)(e:Ex)(σe:St):Prop:=∃τ,aV (aG call aV c) σ=some (e,τ)∧Kn σe τ
variable (call)in
def PO (c:ACode)(σ σ':St):Prop:=∃τ,aG call aV c σ=some (.normal,τ)∧Kn σ' τ
theorem Sf (hc:qS call){c:ACode}(hz:c.zOk=true){e:Ex}{σ':St}(k:Kn σ τ)(h:aV (aG call aV c) σ=some (e,σ')):∃τ',aV (aG call aV c) τ=some (e,τ')∧Kn σ' τ':=by
 have:=M6 (c:= .loop c) hc hz k (by simp only[aG];exact h)
 simpa only[aG]using this
theorem S6.step (hc:qS call){c:ACode}(hz:c.zOk=true){σ' σe:St}{e:Ex}(s:PO call c σ σ')(E:S6 call c σ' e σe):S6 call c σ e σe:=by
 obtain⟨τ,h1,k1⟩:=s
 obtain⟨τ2,h2,k2⟩:=E
 obtain⟨τ3,h3,k3⟩:=Sf hc hz k1 h2
 exact⟨τ3,by rw[jq h1];exact h3,k2.trans k3⟩
theorem MN {e:Ex}{σe:St}{x:Option (Ex×St)}(h:wp call (fun e' τ=>e'=e∧Kn σe τ) [] x):∃τ,x=some (e,τ)∧Kn σe τ:=by
 cases x with
 |none=>rw[nq]at h;exact h.elim
 |some x=>
  obtain⟨e',τ⟩:=x
  rw[b9]at h
  obtain⟨rfl,h⟩:=h
  exact⟨τ,rfl,h⟩
theorem PO.of {c:ACode}{σ':St}(h:wp call (fun e' τ=>e'= .normal∧Kn σ' τ) [] (aG call aV c σ)):PO call c σ σ':=MN h
theorem Cl.kn {e:Ex}{σe:St}:Cl (fun e' τ=>e'=e∧Kn σe τ):=fun _ _ _ k h=>⟨h.1,h.2.trans k⟩
end
section
variable {Φ:Nat→Option AFn}{ext:Nat→List V→Option V}
def TE (rs:List ARes)(r:V)(e:Ex)(σ:St):Prop:=(e= .normal∨e= .ret)∧aT σ rs=some r
theorem Cl.fin {fn:List ARes}{r:V}:Cl (TE fn r):=fun _ _ _ k h=>⟨h.1,OD k h.2⟩
theorem bH {fn:List ARes}{r:V}{σ:St}:TE fn r .ret σ=(aT σ fn=some r):=by simp[TE]
theorem aF {fn:List ARes}{r:V}{σ:St}:TE fn r .normal σ=(aT σ fn=some r):=by simp[TE]
theorem aa {k:Nat}{fn:AFn}{xz:List V}{r:V}(hk:Φ k=some fn)(h:wp (ag Φ ext) (TE fn.results r) [] (aG (ag Φ ext) aV fn.body (start fn xz))):ag Φ ext k xz=some r:=by
 refine gA hk ?_
 unfold mr
 cases hx:aG (ag Φ ext) aV fn.body (start fn xz)with
 |none=>rw[hx,nq]at h;exact h.elim
 |some x=>
  obtain⟨e,σ⟩:=x
  rw[hx,b9]at h
  obtain⟨h1|h1,h2⟩:=h<;>subst h1<;>exact h2
theorem r8 {σ:St}{rs:List ARes}{r:V}(e:aT σ rs=some r):r.clean=true:=by
 unfold aT at e
 split at e
 ·cases e
 ·rename_i vs h1
  split at e
  ·cases hcs:b6 σ.h vs with
   |none=>simp[hcs]at e
   |some xs=>
    have hc:=(tm vs xs [] hcs).1
    rw[hcs]at e
    split at e
    ·rename_i ls h2
     cases h2;cases e
     simpa[V.clean]using hc
    ·rename_i l h2
     cases h2;cases e
     simpa[V.clean]using hc
    ·rename_i ys h2 h3 h4
     cases h4
     split at e
     ·cases e
     ·cases e
      simpa[V.clean]using hc
    ·cases e
  ·cases e
theorem yO :∀{h:List AObj}{os:List (Bool×List L)},ku h=some os→(os.all fun x=>x.2.all L.clean)=true
 |[],os,e=>by simp only[ku]at e;cases e;rfl
 |ob::h,os,e=>by
  cases ob with
  |zarr z es=>
   simp only[ku]at e
   split at e
   ·rename_i xs h1
    cases e
    simp[yO h1,L.clean]
   ·cases e
  |_=>simp[ku]at e
theorem DX {m:Nat}{fn:AFn}{σ:St}{r:V}(e:LM m fn σ=some r):r.clean=true:=by
 unfold LM at e
 split at e
 ·rename_i l os h1 h2
  split at e
  ·rename_i hl
   cases e
   have hc:=r8 h1
   simp only[V.clean,List.all_cons,List.all_nil,Bool.and_true,Bool.and_eq_true]at hc⊢
   exact⟨hc,yO h2⟩
  ·cases e
 ·cases e
theorem MB (he:qS ext):qS (ag Φ ext):=by
 intro k xz r h
 obtain⟨n,hn⟩:=j4.1 h
 cases n with
 |zero=>simp[run]at hn
 |succ n=>
  simp only[run]at hn
  split at hn
  ·split at hn
   ·split at hn
    ·split at hn
     ·unfold Jk at hn
      split at hn
      ·exact DX hn
      ·exact DX hn
      ·cases hn
     ·cases hn
    ·cases hn
   ·exact he k xz r hn
  ·unfold done at hn
   split at hn
   ·exact r8 hn
   ·exact r8 hn
   ·cases hn
end
inductive Mk where
 |t
 |f
def iy :List Mk→List V→List V
 | .t::m,v::vs=>v::iy m vs
 | .f::m,_::vs=> .one .junk::iy m vs
 |[],vs=>vs
 |_,[]=>[]
theorem bq {m:List Mk}{v:V}{vs:List V}:iy (.t::m) (v::vs)=v::iy m vs:=rfl
theorem bo {m:List Mk}{v:V}{vs:List V}:iy (.f::m) (v::vs)= .one .junk::iy m vs:=rfl
theorem bp {vs:List V}:iy [] vs=vs:=rfl
def nA (t:List V):List (Nat×V)→List V
 |[]=>t
 |(i,v)::r=>nA (t.set i v) r
theorem b7 {t:List V}:nA t []=t:=rfl
theorem uW {t:List V}{i:Nat}{v:V}{r:List (Nat×V)}:nA t ((i,v)::r)=nA (t.set i v) r:=rfl
def uc :ACode:= .cond .nil .skip .skip
theorem Mp {call:Nat→List V→Option V}{σ:St}:aG call aV uc σ=none:=rfl
section
variable {call:Nat→List V→Option V}{Q:Ex→St→Prop}{ks:List Fr}{σ τ:St}
theorem Rr {x:Option (Ex×St)}(h:wp call Q (.sq uc::ks) x):∃e τ,x=some (e,τ)∧e≠ .normal∧wp call Q ks (some (e,τ)):=by
 cases x with
 |none=>rw[nq]at h;exact h.elim
 |some x=>
  obtain⟨e,τ⟩:=x
  cases e with
  |normal=>rw[b8,Mp,nq]at h;exact h.elim
  |exit i=>rw[ca]at h;exact⟨_,_,rfl,by simp,h⟩
  |ret=>rw[cj]at h;exact⟨_,_,rfl,by simp,h⟩
theorem sH {c:ACode}(h:wp call Q (.sq uc::ks) (aG call aV c σ)):wp call Q ks (aG call aV (.loop c) σ):=by
 obtain⟨e,τ,h1,h2,h3⟩:=Rr h
 simp only[aG]
 rw[pS h1 h2]
 exact h3
theorem AL (hc:qS call)(hQ:Cl Q){c:ACode}{σ':St}(hz:(c.zOk&&kz ks)=true)(s:wp call (fun e τ=>e= .normal∧Kn σ' τ) [] (aG call aV c σ))(h:wp call Q ks (aG call aV (.loop c) σ')):wp call Q ks (aG call aV (.loop c) σ):=by
 obtain⟨τ,h1,k1⟩:=MN s
 have hz':kz (.sq (.loop c)::ks)=true:=by simpa only[kz,ACode.zOk]using hz
 have:=IU hc hQ σ' hz' k1 h
 simp only[aG]at this⊢
 rw[jq h1]
 exact this
theorem Sz (hc:qS call)(hQ:Cl Q){c:ACode}(S:Nat→St)(n:Nat)(p:Nat→Bool)(hz:(c.zOk&&kz ks)=true)(kn:Kn (S 0) σ)
 (st:∀k,k<n→p k=false→wp call (fun e τ=>e= .normal∧Kn (S (k+1)) τ) [] (aG call aV c (S k)))
 (le:∀k,k<n→p k=true→(∀j,j<k→p j=false)→wp call Q (.sq uc::ks) (aG call aV c (S k)))
 (en:(∀k,k<n→p k=false)→wp call Q (.sq uc::ks) (aG call aV c (S n))):wp call Q ks (aG call aV (.loop c) σ):=by
 have key:∀m k,k+m=n→(∀j,j<k→p j=false)→wp call Q ks (aG call aV (.loop c) (S k)):=by
  intro m
  induction m with
  |zero=>
   intro k hk hp
   obtain rfl:k=n:=by omega
   exact sH (en hp)
  |succ m ih=>
   intro k hk hp
   cases hpk:p k with
   |true=>exact sH (le k (by omega) hpk hp)
   |false=>
    refine AL hc hQ hz (st k (by omega) hpk) (ih (k+1) (by omega) fun j hj=> ?_)
    by_cases q:j=k
    ·rw[q];exact hpk
    ·exact hp j (by omega)
 have hz':kz (.sq (.loop c)::ks)=true:=by simpa only[kz,ACode.zOk]using hz
 exact IU hc hQ (S 0) hz' kn (key n 0 (by omega) (fun j h=>by omega))
theorem iB (hc:qS call)(hQ:Cl Q){c:ACode}{t:List V}{h:List AObj}(n:Nat)(m:List Mk)(U:Nat→List (Nat×V))(H:Nat→List AObj)(hz:(c.zOk&&kz ks)=true)(kn:Kn ⟨nA (iy m t) (U 0),H 0⟩ ⟨t,h⟩)
 (st:∀k,k<n→wp call (fun e τ=>e= .normal∧Kn ⟨nA (iy m t) (U (k+1)),H (k+1)⟩ τ) [] (aG call aV c ⟨nA (iy m t) (U k),H k⟩))
 (en:wp call Q (.sq uc::ks) (aG call aV c ⟨nA (iy m t) (U n),H n⟩)):wp call Q ks (aG call aV (.loop c) ⟨t,h⟩):=
 Sz hc hQ (fun k=>⟨nA (iy m t) (U k),H k⟩) n (fun _=>false) hz kn (fun k hk _=>st k hk) (fun k hk hp=>by cases hp) (fun _=>en)
end
section
variable {call:Nat→List V→Option V}{Q:Ex→St→Prop}{ks:List Fr}{σ τ:St}
theorem Mo {id:Nat}{σ:St}(h:wp call Q ks (some (.exit id,σ))):wp call Q (.sq uc::ks) (some (.exit id,σ)):=by rw[ca];exact h
theorem jA {c:ACode}:wp call Q ks (aG call aV (.loop c) σ)=wp call Q (.sq (.loop c)::ks) (aG call aV c σ):=by
 simp only[aG]
 rw[uQ]
 cases h:aG call aV c σ with
 |none=>simp only[nq]
 |some x=>
  obtain⟨e,σ'⟩:=x
  cases e with
  |normal=>simp only[b8,aG]
  |exit i=>simp only[ca]
  |ret=>simp only[cj]
theorem NP (hc:qS call)(hQ:Cl Q){c:ACode}{t:List V}{h:List AObj}(n:Nat)(m:List Mk)(U:Nat→List (Nat×V))(H:Nat→List AObj)(id:Nat)(hz:(c.zOk&&kz ks)=true)(kn:Kn ⟨nA (iy m t) (U 0),H 0⟩ ⟨t,h⟩)
 (st:∀k,k<n→wp call (fun e τ=>e= .normal∧Kn ⟨nA (iy m t) (U (k+1)),H (k+1)⟩ τ) [] (aG call aV c ⟨nA (iy m t) (U k),H k⟩))
 (en:wp call (fun e τ=>e= .exit id∧Kn ⟨nA (iy m t) (U n),H n⟩ τ) [] (aG call aV c ⟨nA (iy m t) (U n),H n⟩))
 (rest:wp call Q ks (some (.exit id,⟨nA (iy m t) (U n),H n⟩))):wp call Q ks (aG call aV (.loop c) ⟨t,h⟩):=by
 refine iB hc hQ n m U H hz kn st ?_
 obtain⟨τ,h1,k1⟩:=MN en
 rw[h1]
 refine Mo (Rq hc hQ ?_ k1 rest)
 simp only[Bool.and_eq_true]at hz
 exact hz.2
end
def ur :List V→Nat→V
 |[],_=> .tup []
 |v::_,0=>v
 |_::r,n+1=>ur r n
def zA :List V→Nat→V→List V
 |[],_,_=>[]
 |_::r,0,x=>x::r
 |v::r,n+1,x=>v::zA r n x
theorem zx :∀(t:List V)(n:Nat),t.getD n (.tup [])=ur t n
 |[],_=>by simp[ur]
 |v::r,0=>by simp[ur]
 |v::r,n+1=>by rw[List.getD_cons_succ,zx r n];rfl
theorem IR :∀(t:List V)(n:Nat)(x:V),t.set n x=zA t n x
 |[],_,_=>rfl
 |v::r,0,_=>rfl
 |v::r,n+1,x=>by rw[List.set_cons_succ,IR r n x];rfl
theorem cB {σ:St}{n:Nat}:(Opd.tmp n).ev σ=ur σ.t n:=zx _ _
theorem dB {σ:St}{p:PV}:(Opd.pv p).ev σ= .one (.pv p):=rfl
theorem cA {σ:St}:Opd.nil.ev σ= .one .nil:=rfl
theorem dA {σ:St}{k:Nat}:(Opd.fn k).ev σ= .one (.fn k []):=rfl
theorem dG {t:List V}{d:Nat}{v:V}:put t (some d) v=zA t d v:=IR _ _ _
theorem dF {t:List V}{v:V}:put t none v=t:=rfl
theorem bQ {σ:St}{n:Nat}:dO σ (.tmp n)=some (ur σ.t n):=by simp only[dO,zx]
theorem bd {σ:St}{t n:Nat}:dO σ (.cell t n)=bt σ.h true n (ur σ.t t):=by simp only[dO,zx]
theorem cF {t:List V}{i:Nat}{v:V}{r:List (Nat×V)}:nA t ((i,v)::r)=nA (zA t i v) r:=by rw[uW,IR]
section
variable {a b c d e f g h v:V}{r:List V}{n:Nat}
theorem og :ur (v::r) 0=v:=rfl
theorem oA {x:V}:zA (v::r) 0 x=x::r:=rfl
theorem oh :ur (a::v::r) 1=v:=rfl
theorem oB {x:V}:zA (a::v::r) 1 x=a::x::r:=rfl
theorem ol :ur (a::b::v::r) 2=v:=rfl
theorem oC {x:V}:zA (a::b::v::r) 2 x=a::b::x::r:=rfl
theorem om :ur (a::b::c::v::r) 3=v:=rfl
theorem oD {x:V}:zA (a::b::c::v::r) 3 x=a::b::c::x::r:=rfl
theorem oq :ur (a::b::c::d::v::r) 4=v:=rfl
theorem oE {x:V}:zA (a::b::c::d::v::r) 4 x=a::b::c::d::x::r:=rfl
theorem ot :ur (a::b::c::d::e::v::r) 5=v:=rfl
theorem oF {x:V}:zA (a::b::c::d::e::v::r) 5 x=a::b::c::d::e::x::r:=rfl
theorem ou :ur (a::b::c::d::e::f::v::r) 6=v:=rfl
theorem oG {x:V}:zA (a::b::c::d::e::f::v::r) 6 x=a::b::c::d::e::f::x::r:=rfl
theorem ov :ur (a::b::c::d::e::f::g::v::r) 7=v:=rfl
theorem oH {x:V}:zA (a::b::c::d::e::f::g::v::r) 7 x=a::b::c::d::e::f::g::x::r:=rfl
theorem oz :ur (a::b::c::d::e::f::g::h::r) (n+8)=ur r n:=rfl
theorem oI {x:V}:zA (a::b::c::d::e::f::g::h::r) (n+8) x=a::b::c::d::e::f::g::h::zA r n x:=rfl
end
section
variable {call:Nat→List V→Option V}{Q:Ex→St→Prop}{ks:List Fr}{σ τ:St}
variable (call Q ks)in
def wo (ops:List AOper)(σ:St):Prop:=wp call Q ks (match aK call ops σ with
 |some σ'=>some (.normal,σ')
 |none=>none)
variable (call Q ks)in
def nx (r:List AOper)(d:Option Nat)(σ:St):AOp→Prop
 | .pick c a b=>match isBool (c.ev σ)with
  |some t=>if _:t=true then wo call Q ks r ⟨put σ.t d (a.ev σ),σ.h⟩else wo call Q ks r ⟨put σ.t d (b.ev σ),σ.h⟩
  |none=>False
 |op=>match bZ call σ op with
  |some v=>wo call Q ks r ⟨put σ.t d v,σ.h⟩
  |none=>match cJ call σ op with
   |some x=>wo call Q ks r ⟨put σ.t d x.1,x.2⟩
   |none=>False
theorem aM {ops:List AOper}:wp call Q ks (aG call aV (.region ops) σ)=wo call Q ks ops σ:=GY
theorem cG :wo call Q ks [] σ=wp call Q ks (some (.normal,σ)):=rfl
theorem Ur {o:AOper}{r:List AOper}:wo call Q ks (o::r) σ=match bA call o σ with
 |some σ'=>wo call Q ks r σ'
 |none=>False:=by
 unfold wo
 simp only[aK]
 cases bA call o σ with
 |some x=>rfl
 |none=>simp only[nq]
theorem Rs {r:List AOper}{d:Option Nat}{op:AOp}:nx call Q ks r d σ op=match(match bZ call σ op with
 |some v=>some (⟨put σ.t d v,σ.h⟩:St)
 |none=>match cJ call σ op with
  |some (v,h)=>some ⟨put σ.t d v,h⟩
  |none=>none)with
 |some σ'=>wo call Q ks r σ'
 |none=>False:=by
 have key:∀(f:Option V)(e:Option (V×List AObj)),(match f with
  |some v=>wo call Q ks r ⟨put σ.t d v,σ.h⟩
  |none=>match e with
   |some x=>wo call Q ks r ⟨put σ.t d x.1,x.2⟩
   |none=>False)=match(match f with
  |some v=>some (⟨put σ.t d v,σ.h⟩:St)
  |none=>match e with
   |some (v,h)=>some ⟨put σ.t d v,h⟩
   |none=>none)with
  |some σ'=>wo call Q ks r σ'
  |none=>False:=fun f e=>by
  cases f with
  |some v=>rfl
  |none=>cases e<;>rfl
 unfold nx
 split
 ·simp only[bZ,cJ]
  cases isBool (Opd.ev σ _)with
  |none=>rfl
  |some t=>cases t<;>simp
 ·exact key _ _
theorem bR {r:List AOper}{d:Option Nat}{op:AOp}:wo call Q ks (⟨d,op,none⟩::r) σ=nx call Q ks r d σ op:=by
 rw[Ur,Rs];rfl
theorem bf {r:List AOper}{d:Option Nat}{op:AOp}{g:Nat}{w:Bool}:wo call Q ks (⟨d,op,some (g,w)⟩::r) σ=match ur σ.t g with
 | .one (.pv (.bool b))=>if _:b=w then nx call Q ks r d σ op else wo call Q ks r ⟨put σ.t d (.tup []),σ.h⟩
 | .tup []=>wo call Q ks r ⟨put σ.t d (.tup []),σ.h⟩
 |_=>False:=by
 rw[Ur,←zx]
 unfold bA
 simp only[cI]
 cases σ.t.getD g (.tup [])with
 |one l=>
  cases l with
  |pv p=>
   cases p with
   |bool b=>
    have e:=Rs (call:=call) (Q:=Q) (ks:=ks) (σ:=σ) (r:=r) (d:=d) (op:=op)
    cases b<;>cases w<;>simp only[e]<;>simp<;>rfl
   |_=>rfl
  |_=>rfl
 |agg ls=>rfl
 |tup xs=>cases xs<;>rfl
theorem bS {c:Opd}{a b:ACode}:wp call Q ks (aG call aV (.cond c a b) σ)=match isBool (c.ev σ)with
 |some t=>if _:t=true then wp call Q ks (aG call aV a σ)else wp call Q ks (aG call aV b σ)
 |none=>False:=by
 rw[wp_cond]
 cases isBool (c.ev σ)with
 |none=>simp only[nq]
 |some t=>cases t<;>simp
theorem NQ {P:Ex→St→Prop}{x:Option (Ex×St)}(h:wp call P [] x):∃e τ,x=some (e,τ)∧P e τ:=by
 cases x with
 |none=>rw[nq]at h;exact h.elim
 |some x=>exact⟨_,_,rfl,h⟩
theorem PD (hc:qS call)(hQ:Cl Q){c:ACode}(S:Nat→St)(n:Nat)(p:Nat→Bool)(hz:(c.zOk&&kz ks)=true)(kn:Kn (S 0) σ)
 (st:∀k,k<n→(∀j,j<k→p j=false)→wp call (fun e τ=>(p k=true→wp call Q (.sq uc::ks) (some (e,τ)))∧(p k=false→e= .normal∧Kn (S (k+1)) τ)) [] (aG call aV c (S k)))
 (en:(∀k,k<n→p k=false)→wp call Q (.sq uc::ks) (aG call aV c (S n))):wp call Q ks (aG call aV (.loop c) σ):=by
 have key:∀m k,k+m=n→(∀j,j<k→p j=false)→wp call Q ks (aG call aV (.loop c) (S k)):=by
  intro m
  induction m with
  |zero=>
   intro k hk hp
   obtain rfl:k=n:=by omega
   exact sH (en hp)
  |succ m ih=>
   intro k hk hp
   obtain⟨e,τ,h1,h2,h3⟩:=NQ (st k (by omega) hp)
   cases hpk:p k with
   |true=>exact sH (by rw[h1];exact h2 hpk)
   |false=>
    obtain⟨rfl,h4⟩:=h3 hpk
    refine AL hc hQ hz (by rw[h1,b9];exact⟨rfl,h4⟩) (ih (k+1) (by omega) fun j hj=> ?_)
    by_cases q:j=k
    ·rw[q];exact hpk
    ·exact hp j (by omega)
 have hz':kz (.sq (.loop c)::ks)=true:=by simpa only[kz,ACode.zOk]using hz
 exact IU hc hQ (S 0) hz' kn (key n 0 (by omega) (fun j h=>by omega))
def lc (n:Nat)(p:Nat→Bool):Bool:=(List.range n).any p
theorem PU {n k:Nat}{p:Nat→Bool}(hk:k<n)(h:p k=true):lc n p=true:=by
 unfold lc;rw[List.any_eq_true];exact⟨k,by simpa using hk,h⟩
theorem zD {n:Nat}{p:Nat→Bool}(h:∀k,k<n→p k=false):lc n p=false:=by
 unfold lc;rw[List.any_eq_false];intro k hk;simp[h k (by simpa using hk)]
theorem wL {n:Nat}{p:Nat→Bool}(h:lc n p=false){k:Nat}(hk:k<n):p k=false:=by
 unfold lc at h;rw[List.any_eq_false]at h;exact Bool.eq_false_iff.2 (h k (by simpa using hk))
theorem aL (hc:qS call)(hQ:Cl Q){c:ACode}{t:List V}{h:List AObj}(m:List Mk)(U:Nat→List (Nat×V))(n:Nat)(p:Nat→Bool)(hz:(c.zOk&&kz ks)=true)(kn:Kn ⟨nA (iy m t) (U 0),h⟩ ⟨t,h⟩)
 (st:∀k,k<n→(∀j,j<k→p j=false)→wp call (fun e τ=>if _:p k=true then lc n p=true→wp call Q (.sq uc::ks) (some (e,τ))else e= .normal∧Kn ⟨nA (iy m t) (U (k+1)),h⟩ τ) [] (aG call aV c ⟨nA (iy m t) (U k),h⟩))
 (en:(∀k,k<n→p k=false)→lc n p=false→wp call Q (.sq uc::ks) (aG call aV c ⟨nA (iy m t) (U n),h⟩)):wp call Q ks (aG call aV (.loop c) ⟨t,h⟩):=by
 refine PD hc hQ (fun k=>⟨nA (iy m t) (U k),h⟩) n p hz kn (fun k hk hp=> ?_) fun hp=>en hp (zD hp)
 obtain⟨e,τ,h1,h2⟩:=NQ (st k hk hp)
 rw[h1,b9]
 split at h2
 ·rename_i q;exact⟨fun _=>h2 (PU hk q),fun q'=>by rw[q]at q';cases q'⟩
 ·rename_i q;exact⟨fun q'=>absurd q' q,fun _=>h2⟩
end
end Gi
