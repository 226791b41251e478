/- Of this proof. -/
import Derived.Test.YtbeaonmepfkmmaaGreatGsnd
set_option linter.unusedSimpArgs false
set_option linter.unusedVariables false
namespace Gi
open Go
section
variable {f g:List Nat}{h h':List AObj}{σ τ υ:St}{call:Nat→List V→Option V}
theorem N7 (k:HRel f h h'){l l' x:L}(r:dN f l l')(e:bv h l=some x):bv h' l'=some x∧l.ren f=some l':=by
 rcases r with rfl|r
 ·cases e
 refine⟨?_,r⟩
 cases l with
 |arr o=>
  obtain⟨o',h1,rfl⟩:=ft r
  obtain⟨ob,ob',h2,h3,h4⟩:=k.get h1
  simp only[bv,h2]at e
  simp only[bv,h3]
  cases ob with
  |arr z es=>rw[aG h4 (by simp) (by simp)];exact e
  |froz z es=>rw[aG h4 (by simp) (by simp)];exact e
  |darr z es=>rw[aG h4 (by simp) (by simp)];exact e
  |_=>cases e
 |pv p=>simp only[L.ren]at r;cases r;exact e
 |nil=>simp only[L.ren]at r;cases r;exact e
 |_=>cases e
theorem uU (k:HRel f h h'):∀{ls ls' xs:List L},aP f ls ls'→aK h ls=some xs→aK h' ls'=some xs∧ep f ls ls'
 |[],[],_,_,e=>⟨e,trivial⟩
 |l::ls,l'::ls',xs,r,e=>by
  simp only[aK]at e⊢
  split at e
  ·rename_i x ys h1 h2
   cases e
   obtain⟨a1,a2⟩:=N7 k r.1 h1
   obtain⟨b1,b2⟩:=uU k r.2 h2
   rw[a1,b1]
   exact⟨rfl,a2,b2⟩
  ·cases e
 |[],_::_,_,e,_=>e.elim
 |_::_,[],_,e,_=>e.elim
theorem Pw (k:HRel f h h'){v v':V}{x:Bool×List L}(r:bu f v v')(e:comp h v=some x):comp h' v'=some x∧ep f v.cells v'.cells:=by
 cases v with
 |one l=>
  rcases r with rfl|⟨l',rfl,r⟩
  ·cases e
  simp only[comp]at e⊢
  split at e
  ·rename_i xs h1
   obtain⟨a1,a2⟩:=uU k (show aP f [l] [l']from⟨.inr r,trivial⟩) h1
   rw[a1]
   exact⟨e,a2⟩
  ·cases e
 |agg ls=>
  obtain⟨ls',rfl,r⟩:=r
  simp only[comp]at e⊢
  split at e
  ·rename_i xs h1
   obtain⟨a1,a2⟩:=uU k r h1
   rw[a1]
   exact⟨e,a2⟩
  ·cases e
 |tup xs=>cases e
theorem EJ (k:HRel f h h'):∀{vs vs':List V}{xs:List (Bool×List L)},aX f vs vs'→bE h vs=some xs→bE h' vs'=some xs∧ep f (vs.flatMap V.cells) (vs'.flatMap V.cells)
 |[],[],_,_,e=>⟨e,trivial⟩
 |v::vs,v'::vs',xs,r,e=>by
  simp only[bE]at e⊢
  split at e
  ·rename_i x ys h1 h2
   cases e
   obtain⟨a1,a2⟩:=Pw k r.1 h1
   obtain⟨b1,b2⟩:=EJ k r.2 h2
   rw[a1,b1]
   exact⟨rfl,by simpa only[List.flatMap_cons]using a2.append b2⟩
  ·cases e
 |[],_::_,_,e,_=>e.elim
 |_::_,[],_,e,_=>e.elim
theorem HO (k:HRel f h h'):∀{ls ls':List L},ep f ls ls'→(∀o',o'∈al ls'→∃o,o∈al ls∧f[o]? =some o')∧((al ls).Nodup→(al ls').Nodup)
 |[],[],_=>⟨fun o' h=>by simp[al]at h,fun h=>h⟩
 |l::ls,l'::ls',r=>by
  obtain⟨i1,i2⟩:=HO k r.2
  have r1:=r.1
  have other:(∀o,l≠ .arr o)→(∀o,l'≠ .arr o)→al (l::ls)=al ls∧al (l'::ls')=al ls':=fun a b=>by
   constructor
   ·cases l with
    |arr o=>exact absurd rfl (a o)
    |_=>rfl
   ·cases l' with
    |arr o=>exact absurd rfl (b o)
    |_=>rfl
  cases l with
  |arr o=>
   obtain⟨o',h1,rfl⟩:=ft r1
   have ea:al (.arr o::ls)=o::al ls:=rfl
   have eb:al (.arr o'::ls')=o'::al ls':=rfl
   rw[ea,eb]
   refine⟨fun p hp=> ?_,fun nd=> ?_⟩
   ·rcases List.mem_cons.1 hp with rfl|hp
    ·exact⟨o,List.mem_cons_self,h1⟩
    ·obtain⟨q,h2,h3⟩:=i1 p hp
     exact⟨q,List.mem_cons_of_mem _ h2,h3⟩
   ·obtain⟨n1,n2⟩:=List.nodup_cons.1 nd
    refine List.nodup_cons.2 ⟨fun hp=> ?_,i2 n2⟩
    obtain⟨q,h2,h3⟩:=i1 o' hp
    rw[k.inj h3 h1]at h2
    exact n1 h2
  |ptr o i j=>
   obtain⟨o',_,rfl⟩:=fE r1
   obtain⟨ea,eb⟩:=other (by simp) (by simp)
   rw[ea,eb];exact⟨i1,i2⟩
  |mp o=>
   obtain⟨o',_,rfl⟩:=oR r1
   obtain⟨ea,eb⟩:=other (by simp) (by simp)
   rw[ea,eb];exact⟨i1,i2⟩
  |sub o c=>
   obtain⟨o',_,rfl⟩:=nY r1
   obtain⟨ea,eb⟩:=other (by simp) (by simp)
   rw[ea,eb];exact⟨i1,i2⟩
  |_=>
   simp only[L.ren]at r1
   cases r1
   obtain⟨ea,eb⟩:=other (by simp) (by simp)
   rw[ea,eb];exact⟨i1,i2⟩
 |[],_::_,e=>e.elim
 |_::_,[],e=>e.elim
theorem ut (s:Cln f σ τ):∀{rs:List ARes}{vs:List V},aw σ rs=some vs→∃vs',aw τ rs=some vs'∧aX f vs vs'
 |[],vs,e=>by simp only[aw]at e⊢;cases e;exact⟨_,rfl,trivial⟩
 |r::rs,vs,e=>by
  simp only[aw]at e⊢
  split at e
  ·rename_i x xs h1 h2
   cases e
   obtain⟨xs',h3,h4⟩:=ut s h2
   have:∃x',cq τ r=some x'∧bu f x x':=by
    cases r with
    |tmp t=>simp only[cq]at h1⊢;cases h1;exact⟨_,rfl,s.tmps.getD t⟩
    |cell t n=>exact Mf (call:=fun _ _=>none) (op:= .load true n (.tmp t)) s (fun _ _ _ h=>by cases h) rfl h1
   obtain⟨x',h5,h6⟩:=this
   rw[h5,h3]
   exact⟨_,rfl,h6,h4⟩
  ·cases e
theorem N1 (k:Kn σ τ){rs:List ARes}{r:V}(e:aR σ rs=some r):aR τ rs=some r:=by
 obtain⟨f,s⟩:=k
 unfold aR at e⊢
 cases hr:aw σ rs with
 |none=>simp[hr]at e
 |some vs=>
  obtain⟨vs',h1,h2⟩:=ut s hr
  rw[h1]
  simp only[hr]at e⊢
  split at e
  ·rename_i nd
   cases hcs:bE σ.h vs with
   |none=>simp[hcs]at e
   |some xs=>
    obtain⟨a1,a2⟩:=EJ s.heap h2 hcs
    rw[if_pos ((HO s.heap a2).2 nd),a1]
    rw[hcs]at e
    exact e
  ·cases e
def rY (g f:List Nat):List Nat:=f.map fun o=>g.getD o 0
theorem E7 (k:HRel f h h')(hg:g.length=h'.length){l l' l'':L}(e1:l.ren f=some l')(e2:l'.ren g=some l''):l.ren (rY g f)=some l'':=by
 have key:∀{o o' o'':Nat},f[o]? =some o'→g[o']? =some o''→(rY g f)[o]? =some o'':=fun{o o' o''}a b=>by
  simp only[rY,List.getElem?_map,a,Option.map_some,List.getD,b,Option.getD_some]
 cases l with
 |ptr o i j=>
  obtain⟨o',a,rfl⟩:=fE e1
  obtain⟨o'',b,rfl⟩:=fE e2
  simp only[L.ren,key a b]
 |arr o=>
  obtain⟨o',a,rfl⟩:=ft e1
  obtain⟨o'',b,rfl⟩:=ft e2
  simp only[L.ren,key a b]
 |mp o=>
  obtain⟨o',a,rfl⟩:=oR e1
  obtain⟨o'',b,rfl⟩:=oR e2
  simp only[L.ren,key a b]
 |sub o c=>
  obtain⟨o',a,rfl⟩:=nY e1
  obtain⟨o'',b,rfl⟩:=nY e2
  simp only[L.ren,key a b]
 |_=>
  simp only[L.ren]at e1
  cases e1
  exact e2
theorem Jn {l:L}(e:l.ren f=some .junk):l= .junk:=by
 cases l with
 |ptr o i j=>obtain⟨o',a,h⟩:=fE e;cases h
 |arr o=>obtain⟨o',a,h⟩:=ft e;cases h
 |mp o=>obtain⟨o',a,h⟩:=oR e;cases h
 |sub o c=>obtain⟨o',a,h⟩:=nY e;cases h
 |junk=>rfl
 |_=>simp only[L.ren]at e;cases e
theorem dN.trans (k:HRel f h h')(hg:g.length=h'.length){l l' l'':L}(e1:dN f l l')(e2:dN g l' l''):dN (rY g f) l l'':=by
 rcases e1 with e1|e1
 ·exact .inl e1
 rcases e2 with rfl|e2
 ·exact .inl (Jn e1)
 ·exact .inr (E7 k hg e1 e2)
theorem aP.trans (k:HRel f h h')(hg:g.length=h'.length):∀{a b c:List L},aP f a b→aP g b c→aP (rY g f) a c
 |[],[],[],_,_=>trivial
 |_::_,_::_,_::_,e1,e2=>⟨e1.1.trans k hg e2.1,aP.trans k hg e1.2 e2.2⟩
 |[],_::_,_,e,_=>e.elim
 |_::_,[],_,e,_=>e.elim
 |_,[],_::_,_,e=>e.elim
 |_,_::_,[],_,e=>e.elim
theorem co.trans (k:HRel f h h')(hg:g.length=h'.length):∀{a b c:List (Bool×List L)},co f a b→co g b c→co (rY g f) a c
 |[],[],[],_,_=>trivial
 |_::_,_::_,_::_,e1,e2=>⟨e1.1.trans e2.1,e1.2.1.trans k hg e2.2.1,co.trans k hg e1.2.2 e2.2.2⟩
 |[],_::_,_,e,_=>e.elim
 |_::_,[],_,e,_=>e.elim
 |_,[],_::_,_,e=>e.elim
 |_,_::_,[],_,e=>e.elim
theorem bu.trans (k:HRel f h h')(hg:g.length=h'.length){a b c:V}(e1:bu f a b)(e2:bu g b c):bu (rY g f) a c:=by
 cases a with
 |one l=>
  rcases e1 with e1|⟨l',rfl,e1⟩
  ·exact .inl e1
  rcases e2 with rfl|⟨l'',rfl,e2⟩
  ·exact .inl (Jn e1)
  ·exact .inr ⟨l'',rfl,E7 k hg e1 e2⟩
 |agg ls=>
  obtain⟨ls',rfl,e1⟩:=e1
  obtain⟨ls'',rfl,e2⟩:=e2
  exact⟨_,rfl,e1.trans k hg e2⟩
 |tup xs=>
  obtain⟨ls',rfl,e1⟩:=e1
  obtain⟨ls'',rfl,e2⟩:=e2
  exact⟨_,rfl,e1.trans k hg e2⟩
theorem aX.trans (k:HRel f h h')(hg:g.length=h'.length):∀{a b c:List V},aX f a b→aX g b c→aX (rY g f) a c
 |[],[],[],_,_=>trivial
 |_::_,_::_,_::_,e1,e2=>⟨e1.1.trans k hg e2.1,aX.trans k hg e1.2 e2.2⟩
 |[],_::_,_,e,_=>e.elim
 |_::_,[],_,e,_=>e.elim
 |_,[],_::_,_,e=>e.elim
 |_,_::_,[],_,e=>e.elim
theorem Kn.trans (a:Kn σ τ)(b:Kn τ υ):Kn σ υ:=by
 obtain⟨f,a⟩:=a
 obtain⟨g,b⟩:=b
 have hg:=b.heap.len
 have at2:∀{i:Nat}{o'':Nat},(rY g f)[i]? =some o''→∃o',f[i]? =some o'∧g[o']? =some o'':=fun{i o''}e=>by
  simp only[rY,List.getElem?_map,Option.map_eq_some_iff]at e
  obtain⟨o',h1,h2⟩:=e
  refine⟨o',h1,?_⟩
  have:o'<g.length:=by rw[hg];exact a.heap.lt h1
  simp only[List.getD,List.getElem?_eq_getElem this,Option.getD_some]at h2
  rw[List.getElem?_eq_getElem this,h2]
 refine⟨rY g f,⟨?_,by simp[rY,a.heap.len],fun i o ob e1 e2=> ?_⟩,a.tmps.trans a.heap hg b.tmps⟩
 ·refine List.pairwise_iff_getElem.2 fun i j hi hj hij e=> ?_
  obtain⟨o1,h1,h2⟩:=at2 (List.getElem?_eq_getElem hi)
  obtain⟨o2,h3,h4⟩:=at2 (List.getElem?_eq_getElem hj)
  rw[e]at h2
  have:=b.heap.inj h2 h4
  subst this
  exact absurd (a.heap.inj h1 h3) (by omega)
 ·obtain⟨o',h1,h2⟩:=at2 e1
  obtain⟨ob',h3,h4⟩:=a.heap.obs i o' ob h1 e2
  obtain⟨ob'',h5,h6⟩:=b.heap.obs o' o ob' h2 h3
  refine⟨ob'',h5,?_⟩
  cases ob with
  |box cs=>
   obtain⟨cs',rfl,h4⟩:=h4
   obtain⟨cs'',rfl,h6⟩:=h6
   exact⟨_,rfl,h4.trans a.heap hg h6⟩
  |dead=>trivial
  |arr z es=>rw[aG h4 (by simp) (by simp)]at h6;exact h6
  |froz z es=>rw[aG h4 (by simp) (by simp)]at h6;exact h6
  |darr z es=>rw[aG h4 (by simp) (by simp)]at h6;exact h6
  |zarr z es=>rw[aG h4 (by simp) (by simp)]at h6;exact h6
  |fbox ps=>rw[aG h4 (by simp) (by simp)]at h6;exact h6
  |imap kvs=>rw[aG h4 (by simp) (by simp)]at h6;exact h6
  |tbox n=>rw[aG h4 (by simp) (by simp)]at h6;exact h6
  |res=>rw[aG h4 (by simp) (by simp)]at h6;exact h6
theorem Kn.of (f:List Nat){t t':List V}{h h':List AObj}(nd:f.Nodup)(ho:bG f h' f h)(ht:aX f t t'):Kn ⟨t,h⟩ ⟨t',h'⟩:=⟨f,Cln.of f nd ho ht⟩
theorem Kn.r (f:List Nat){t t':List V}{h h':List AObj}(ho:bG f h' f h:=by simp[aX,bu,aP,dN,co,bG,cJ,L.ren])(ht:aX f t t':=by simp[aX,bu,aP,dN,co,bG,cJ,L.ren])(nd:f.Nodup:=by decide):Kn ⟨t,h⟩ ⟨t',h'⟩:=Kn.of f nd ho ht
end
inductive Fr where
 |sq (c:ACode)
 |bk (id:Nat)
def kz :List Fr→Bool
 |[]=>true
 | .sq c::ks=>c.zOk&&kz ks
 | .bk _::ks=>kz ks
section
variable (call:Nat→List V→Option V)
def wp (Q:Ex→St→Prop):List Fr→Option (Ex×St)→Prop
 |[],some (e,σ)=>Q e σ
 | .sq c::ks,some (.normal,σ)=>wp Q ks (au call aC c σ)
 | .sq _::ks,some (e,σ)=>wp Q ks (some (e,σ))
 | .bk id::ks,some (.exit i,σ)=>if i=id then wp Q ks (some (.normal,σ))else wp Q ks (some (.exit i,σ))
 | .bk _::ks,some (e,σ)=>wp Q ks (some (e,σ))
 |_,none=>False
end
section
variable {call:Nat→List V→Option V}{Q:Ex→St→Prop}{ks:List Fr}{σ τ:St}
theorem ce {e:Ex}:wp call Q [] (some (e,σ))=Q e σ:=by simp only[wp]
theorem b9 {c:ACode}:wp call Q (.sq c::ks) (some (.normal,σ))=wp call Q ks (au call aC c σ):=by simp only[wp]
theorem ct {c:ACode}:wp call Q (.sq c::ks) (some (.ret,σ))=wp call Q ks (some (.ret,σ)):=by simp only[wp]
theorem cf {c:ACode}{i:Nat}:wp call Q (.sq c::ks) (some (.exit i,σ))=wp call Q ks (some (.exit i,σ)):=by simp only[wp]
theorem cF {id:Nat}:wp call Q (.bk id::ks) (some (.normal,σ))=wp call Q ks (some (.normal,σ)):=by simp only[wp]
theorem cG {id:Nat}:wp call Q (.bk id::ks) (some (.ret,σ))=wp call Q ks (some (.ret,σ)):=by simp only[wp]
theorem cE {id i:Nat}:wp call Q (.bk id::ks) (some (.exit i,σ))=if i=id then wp call Q ks (some (.normal,σ))else wp call Q ks (some (.exit i,σ)):=by simp only[wp]
theorem lZ :wp call Q ks none=False:=by
 cases ks with
 |nil=>simp only[wp]
 |cons k ks=>cases k<;>simp only[wp]
theorem wp_seq {a b:ACode}:wp call Q ks (au call aC (.seq a b) σ)=wp call Q (.sq b::ks) (au call aC a σ):=by
 simp only[au]
 cases au call aC a σ with
 |none=>simp only[lZ]
 |some x=>
  obtain⟨e,σ'⟩:=x
  cases e<;>simp only[b9,ct,cf]
theorem wp_block {id:Nat}{c:ACode}:wp call Q ks (au call aC (.block id c) σ)=wp call Q (.bk id::ks) (au call aC c σ):=by
 simp only[au]
 cases au call aC c σ with
 |none=>simp only[lZ]
 |some x=>
  obtain⟨e,σ'⟩:=x
  cases e with
  |exit i=>
   simp only[cE]
   split<;>rfl
  |_=>simp only[cF,cG]
theorem Fo {ops:List AOper}:wp call Q ks (au call aC (.region ops) σ)=wp call Q ks (match ai call ops σ with
 |some σ'=>some (.normal,σ')
 |none=>none):=by simp only[au];rfl
theorem wp_cond {c:Opd}{a b:ACode}:wp call Q ks (au call aC (.cond c a b) σ)=wp call Q ks (match isBool (c.ev σ)with
 |some t=>if t then au call aC a σ else au call aC b σ
 |none=>none):=by simp only[au];rfl
theorem wp_skip :wp call Q ks (au call aC .skip σ)=wp call Q ks (some (.normal,σ)):=by simp only[au]
theorem wp_exit {id:Nat}:wp call Q ks (au call aC (.exit id) σ)=wp call Q ks (some (.exit id,σ)):=by simp only[au]
theorem wp_ret :wp call Q ks (au call aC .ret σ)=wp call Q ks (some (.ret,σ)):=by simp only[au]
def Cl (Q:Ex→St→Prop):Prop:=∀e σ τ,Kn σ τ→Q e σ→Q e τ
theorem Q0 (hc:pf call)(hQ:Cl Q):∀{ks:List Fr},kz ks=true→∀{e:Ex}{σ τ:St},Kn σ τ→wp call Q ks (some (e,σ))→wp call Q ks (some (e,τ)):=by
 intro ks
 induction ks with
 |nil=>intro _ e σ τ k h;simp only[ce]at h⊢;exact hQ e σ τ k h
 |cons fr ks ih=>
  intro hz e σ τ k h
  cases fr with
  |sq c=>
   simp only[kz,Bool.and_eq_true]at hz
   cases e with
   |normal=>
    simp only[b9]at h⊢
    cases hx:au call aC c σ with
    |none=>rw[hx,lZ]at h;exact h.elim
    |some x=>
     obtain⟨e,σ'⟩:=x
     obtain⟨τ',h1,k1⟩:=L8 hc hz.1 k hx
     rw[hx]at h
     rw[h1]
     exact ih hz.2 k1 h
   |exit i=>simp only[cf]at h⊢;exact ih hz.2 k h
   |ret=>simp only[ct]at h⊢;exact ih hz.2 k h
  |bk id=>
   simp only[kz]at hz
   cases e with
   |normal=>simp only[cF]at h⊢;exact ih hz k h
   |ret=>simp only[cG]at h⊢;exact ih hz k h
   |exit i=>
    simp only[cE]at h⊢
    split at h
    ·rename_i hi;rw[if_pos hi];exact ih hz k h
    ·rename_i hi;rw[if_neg hi];exact ih hz k h
theorem Hx (hc:pf call)(hQ:Cl Q){c:ACode}(σ0:St)(hz:kz (.sq c::ks)=true)(k:Kn σ0 σ)(h:wp call Q ks (au call aC c σ0)):wp call Q ks (au call aC c σ):=by
 have:=Q0 (e:= .normal) hc hQ hz k (by rw[b9];exact h)
 rwa[b9]at this
variable (call)in
def SL (c:ACode)(σ:St)(e:Ex)(σe:St):Prop:=∃τ,aC (au call aC c) σ=some (e,τ)∧Kn σe τ
variable (call)in
def Pk (c:ACode)(σ σ':St):Prop:=∃τ,au call aC c σ=some (.normal,τ)∧Kn σ' τ
theorem RQ (hc:pf call){c:ACode}(hz:c.zOk=true){e:Ex}{σ':St}(k:Kn σ τ)(h:aC (au call aC c) σ=some (e,σ')):∃τ',aC (au call aC c) τ=some (e,τ')∧Kn σ' τ':=by
 have:=L8 (c:= .loop c) hc hz k (by simp only[au];exact h)
 simpa only[au]using this
theorem SL.step (hc:pf call){c:ACode}(hz:c.zOk=true){σ' σe:St}{e:Ex}(s:Pk call c σ σ')(E:SL call c σ' e σe):SL call c σ e σe:=by
 obtain⟨τ,h1,k1⟩:=s
 obtain⟨τ2,h2,k2⟩:=E
 obtain⟨τ3,h3,k3⟩:=RQ hc hz k1 h2
 exact⟨τ3,by rw[fG h1];exact h3,k2.trans k3⟩
theorem LP {e:Ex}{σe:St}{x:Option (Ex×St)}(h:wp call (fun e' τ=>e'=e∧Kn σe τ) [] x):∃τ,x=some (e,τ)∧Kn σe τ:=by
 cases x with
 |none=>rw[lZ]at h;exact h.elim
 |some x=>
  obtain⟨e',τ⟩:=x
  rw[ce]at h
  obtain⟨rfl,h⟩:=h
  exact⟨τ,rfl,h⟩
theorem Pk.of {c:ACode}{σ':St}(h:wp call (fun e' τ=>e'= .normal∧Kn σ' τ) [] (au call aC c σ)):Pk call c σ σ':=LP h
theorem Cl.kn {e:Ex}{σe:St}:Cl (fun e' τ=>e'=e∧Kn σe τ):=fun _ _ _ k h=>⟨h.1,h.2.trans k⟩
end
section
variable {Φ:Nat→Option AFn}{ext:Nat→List V→Option V}
def Tr (rs:List ARes)(r:V)(e:Ex)(σ:St):Prop:=(e= .normal∨e= .ret)∧aR σ rs=some r
theorem Cl.fin {fn:List ARes}{r:V}:Cl (Tr fn r):=fun _ _ _ k h=>⟨h.1,N1 k h.2⟩
theorem bJ {fn:List ARes}{r:V}{σ:St}:Tr fn r .ret σ=(aR σ fn=some r):=by simp[Tr]
theorem aL {fn:List ARes}{r:V}{σ:St}:Tr fn r .normal σ=(aR σ fn=some r):=by simp[Tr]
theorem ae {k:Nat}{fn:AFn}{xz:List V}{r:V}(hk:Φ k=some fn)(h:wp (ah Φ ext) (Tr fn.results r) [] (au (ah Φ ext) aC fn.body (start fn xz))):ah Φ ext k xz=some r:=by
 refine eB hk ?_
 unfold fB
 cases hx:au (ah Φ ext) aC fn.body (start fn xz)with
 |none=>rw[hx,lZ]at h;exact h.elim
 |some x=>
  obtain⟨e,σ⟩:=x
  rw[hx,ce]at h
  obtain⟨h1|h1,h2⟩:=h<;>subst h1<;>exact h2
theorem pP {σ:St}{rs:List ARes}{r:V}(e:aR σ rs=some r):r.clean=true:=by
 unfold aR at e
 split at e
 ·cases e
 ·rename_i vs h1
  split at e
  ·cases hcs:bE σ.h vs with
   |none=>simp[hcs]at e
   |some xs=>
    have hc:=(qW vs xs [] hcs).1
    rw[hcs]at e
    split at e
    ·rename_i ls h2
     cases h2;cases e
     simpa[V.clean]using hc
    ·rename_i l h2
     cases h2;cases e
     simpa[V.clean]using hc
    ·rename_i ys h2 h3 h4
     cases h4
     split at e
     ·cases e
     ·cases e
      simpa[V.clean]using hc
    ·cases e
  ·cases e
theorem wG :∀{h:List AObj}{os:List (Bool×List L)},gu h=some os→(os.all fun x=>x.2.all L.clean)=true
 |[],os,e=>by simp only[gu]at e;cases e;rfl
 |ob::h,os,e=>by
  cases ob with
  |zarr z es=>
   simp only[gu]at e
   split at e
   ·rename_i xs h1
    cases e
    simp[wG h1,L.clean]
   ·cases e
  |_=>simp[gu]at e
theorem Cf {m:Nat}{fn:AFn}{σ:St}{r:V}(e:Ce m fn σ=some r):r.clean=true:=by
 unfold Ce at e
 split at e
 ·rename_i l os h1 h2
  split at e
  ·rename_i hl
   cases e
   have hc:=pP h1
   simp only[V.clean,List.all_cons,List.all_nil,Bool.and_true,Bool.and_eq_true]at hc⊢
   exact⟨hc,wG h2⟩
  ·cases e
 ·cases e
theorem LC (he:pf ext):pf (ah Φ ext):=by
 intro k xz r h
 obtain⟨n,hn⟩:=iL.1 h
 cases n with
 |zero=>simp[run]at hn
 |succ n=>
  simp only[run]at hn
  split at hn
  ·split at hn
   ·split at hn
    ·split at hn
     ·unfold sy at hn
      split at hn
      ·exact Cf hn
      ·exact Cf hn
      ·cases hn
     ·cases hn
    ·cases hn
   ·exact he k xz r hn
  ·unfold done at hn
   split at hn
   ·exact pP hn
   ·exact pP hn
   ·cases hn
end
inductive Mk where
 |t
 |f
def gM :List Mk→List V→List V
 | .t::m,v::vs=>v::gM m vs
 | .f::m,_::vs=> .one .junk::gM m vs
 |[],vs=>vs
 |_,[]=>[]
theorem bA {m:List Mk}{v:V}{vs:List V}:gM (.t::m) (v::vs)=v::gM m vs:=rfl
theorem bw {m:List Mk}{v:V}{vs:List V}:gM (.f::m) (v::vs)= .one .junk::gM m vs:=rfl
theorem bz {vs:List V}:gM [] vs=vs:=rfl
def me (t:List V):List (Nat×V)→List V
 |[]=>t
 |(i,v)::r=>me (t.set i v) r
theorem b8 {t:List V}:me t []=t:=rfl
theorem sV {t:List V}{i:Nat}{v:V}{r:List (Nat×V)}:me t ((i,v)::r)=me (t.set i v) r:=rfl
def r9 :ACode:= .cond .nil .skip .skip
theorem Lo {call:Nat→List V→Option V}{σ:St}:au call aC r9 σ=none:=rfl
section
variable {call:Nat→List V→Option V}{Q:Ex→St→Prop}{ks:List Fr}{σ τ:St}
theorem Q1 {x:Option (Ex×St)}(h:wp call Q (.sq r9::ks) x):∃e τ,x=some (e,τ)∧e≠ .normal∧wp call Q ks (some (e,τ)):=by
 cases x with
 |none=>rw[lZ]at h;exact h.elim
 |some x=>
  obtain⟨e,τ⟩:=x
  cases e with
  |normal=>rw[b9,Lo,lZ]at h;exact h.elim
  |exit i=>rw[cf]at h;exact⟨_,_,rfl,by simp,h⟩
  |ret=>rw[ct]at h;exact⟨_,_,rfl,by simp,h⟩
theorem qB {c:ACode}(h:wp call Q (.sq r9::ks) (au call aC c σ)):wp call Q ks (au call aC (.loop c) σ):=by
 obtain⟨e,τ,h1,h2,h3⟩:=Q1 h
 simp only[au]
 rw[it h1 h2]
 exact h3
theorem yD (hc:pf call)(hQ:Cl Q){c:ACode}{σ':St}(hz:(c.zOk&&kz ks)=true)(s:wp call (fun e τ=>e= .normal∧Kn σ' τ) [] (au call aC c σ))(h:wp call Q ks (au call aC (.loop c) σ')):wp call Q ks (au call aC (.loop c) σ):=by
 obtain⟨τ,h1,k1⟩:=LP s
 have hz':kz (.sq (.loop c)::ks)=true:=by simpa only[kz,ACode.zOk]using hz
 have:=Hx hc hQ σ' hz' k1 h
 simp only[au]at this⊢
 rw[fG h1]
 exact this
theorem Sg (hc:pf call)(hQ:Cl Q){c:ACode}(S:Nat→St)(n:Nat)(p:Nat→Bool)(hz:(c.zOk&&kz ks)=true)(kn:Kn (S 0) σ)
 (st:∀k,k<n→p k=false→wp call (fun e τ=>e= .normal∧Kn (S (k+1)) τ) [] (au call aC c (S k)))
 (le:∀k,k<n→p k=true→(∀j,j<k→p j=false)→wp call Q (.sq r9::ks) (au call aC c (S k)))
 (en:(∀k,k<n→p k=false)→wp call Q (.sq r9::ks) (au call aC c (S n))):wp call Q ks (au call aC (.loop c) σ):=by
 have key:∀m k,k+m=n→(∀j,j<k→p j=false)→wp call Q ks (au call aC (.loop c) (S k)):=by
  intro m
  induction m with
  |zero=>
   intro k hk hp
   obtain rfl:k=n:=by omega
   exact qB (en hp)
  |succ m ih=>
   intro k hk hp
   cases hpk:p k with
   |true=>exact qB (le k (by omega) hpk hp)
   |false=>
    refine yD hc hQ hz (st k (by omega) hpk) (ih (k+1) (by omega) fun j hj=> ?_)
    by_cases q:j=k
    ·rw[q];exact hpk
    ·exact hp j (by omega)
 have hz':kz (.sq (.loop c)::ks)=true:=by simpa only[kz,ACode.zOk]using hz
 exact Hx hc hQ (S 0) hz' kn (key n 0 (by omega) (fun j h=>by omega))
theorem kj (hc:pf call)(hQ:Cl Q){c:ACode}{t:List V}{h:List AObj}(n:Nat)(m:List Mk)(U:Nat→List (Nat×V))(H:Nat→List AObj)(hz:(c.zOk&&kz ks)=true)(kn:Kn ⟨me (gM m t) (U 0),H 0⟩ ⟨t,h⟩)
 (st:∀k,k<n→wp call (fun e τ=>e= .normal∧Kn ⟨me (gM m t) (U (k+1)),H (k+1)⟩ τ) [] (au call aC c ⟨me (gM m t) (U k),H k⟩))
 (en:wp call Q (.sq r9::ks) (au call aC c ⟨me (gM m t) (U n),H n⟩)):wp call Q ks (au call aC (.loop c) ⟨t,h⟩):=
 Sg hc hQ (fun k=>⟨me (gM m t) (U k),H k⟩) n (fun _=>false) hz kn (fun k hk _=>st k hk) (fun k hk hp=>by cases hp) (fun _=>en)
end
section
variable {call:Nat→List V→Option V}{Q:Ex→St→Prop}{ks:List Fr}{σ τ:St}
theorem Ln {id:Nat}{σ:St}(h:wp call Q ks (some (.exit id,σ))):wp call Q (.sq r9::ks) (some (.exit id,σ)):=by rw[cf];exact h
theorem iU {c:ACode}:wp call Q ks (au call aC (.loop c) σ)=wp call Q (.sq (.loop c)::ks) (au call aC c σ):=by
 simp only[au]
 rw[sL]
 cases h:au call aC c σ with
 |none=>simp only[lZ]
 |some x=>
  obtain⟨e,σ'⟩:=x
  cases e with
  |normal=>simp only[b9,au]
  |exit i=>simp only[cf]
  |ret=>simp only[ct]
theorem Nc (hc:pf call)(hQ:Cl Q){c:ACode}{t:List V}{h:List AObj}(n:Nat)(m:List Mk)(U:Nat→List (Nat×V))(H:Nat→List AObj)(id:Nat)(hz:(c.zOk&&kz ks)=true)(kn:Kn ⟨me (gM m t) (U 0),H 0⟩ ⟨t,h⟩)
 (st:∀k,k<n→wp call (fun e τ=>e= .normal∧Kn ⟨me (gM m t) (U (k+1)),H (k+1)⟩ τ) [] (au call aC c ⟨me (gM m t) (U k),H k⟩))
 (en:wp call (fun e τ=>e= .exit id∧Kn ⟨me (gM m t) (U n),H n⟩ τ) [] (au call aC c ⟨me (gM m t) (U n),H n⟩))
 (rest:wp call Q ks (some (.exit id,⟨me (gM m t) (U n),H n⟩))):wp call Q ks (au call aC (.loop c) ⟨t,h⟩):=by
 refine kj hc hQ n m U H hz kn st ?_
 obtain⟨τ,h1,k1⟩:=LP en
 rw[h1]
 refine Ln (Q0 hc hQ ?_ k1 rest)
 simp only[Bool.and_eq_true]at hz
 exact hz.2
end
def si :List V→Nat→V
 |[],_=> .tup []
 |v::_,0=>v
 |_::r,n+1=>si r n
def xi :List V→Nat→V→List V
 |[],_,_=>[]
 |_::r,0,x=>x::r
 |v::r,n+1,x=>v::xi r n x
theorem xf :∀(t:List V)(n:Nat),t.getD n (.tup [])=si t n
 |[],_=>by simp[si]
 |v::r,0=>by simp[si]
 |v::r,n+1=>by rw[List.getD_cons_succ,xf r n];rfl
theorem Hu :∀(t:List V)(n:Nat)(x:V),t.set n x=xi t n x
 |[],_,_=>rfl
 |v::r,0,_=>rfl
 |v::r,n+1,x=>by rw[List.set_cons_succ,Hu r n x];rfl
theorem cP {σ:St}{n:Nat}:(Opd.tmp n).ev σ=si σ.t n:=xf _ _
theorem dS {σ:St}{p:PV}:(Opd.pv p).ev σ= .one (.pv p):=rfl
theorem cO {σ:St}:Opd.nil.ev σ= .one .nil:=rfl
theorem dR {σ:St}{k:Nat}:(Opd.fn k).ev σ= .one (.fn k []):=rfl
theorem d5 {t:List V}{d:Nat}{v:V}:put t (some d) v=xi t d v:=Hu _ _ _
theorem dZ {t:List V}{v:V}:put t none v=t:=rfl
theorem bS {σ:St}{n:Nat}:cq σ (.tmp n)=some (si σ.t n):=by simp only[cq,xf]
theorem bq {σ:St}{t n:Nat}:cq σ (.cell t n)=bf σ.h true n (si σ.t t):=by simp only[cq,xf]
theorem cT {t:List V}{i:Nat}{v:V}{r:List (Nat×V)}:me t ((i,v)::r)=me (xi t i v) r:=by rw[sV,Hu]
section
variable {a b c d e f g h v:V}{r:List V}{n:Nat}
theorem pR :si (v::r) 0=v:=rfl
theorem p5 {x:V}:xi (v::r) 0 x=x::r:=rfl
theorem pS :si (a::v::r) 1=v:=rfl
theorem p6 {x:V}:xi (a::v::r) 1 x=a::x::r:=rfl
theorem pT :si (a::b::v::r) 2=v:=rfl
theorem p7 {x:V}:xi (a::b::v::r) 2 x=a::b::x::r:=rfl
theorem pU :si (a::b::c::v::r) 3=v:=rfl
theorem p8 {x:V}:xi (a::b::c::v::r) 3 x=a::b::c::x::r:=rfl
theorem pV :si (a::b::c::d::v::r) 4=v:=rfl
theorem p9 {x:V}:xi (a::b::c::d::v::r) 4 x=a::b::c::d::x::r:=rfl
theorem pW :si (a::b::c::d::e::v::r) 5=v:=rfl
theorem qa {x:V}:xi (a::b::c::d::e::v::r) 5 x=a::b::c::d::e::x::r:=rfl
theorem pX :si (a::b::c::d::e::f::v::r) 6=v:=rfl
theorem qb {x:V}:xi (a::b::c::d::e::f::v::r) 6 x=a::b::c::d::e::f::x::r:=rfl
theorem pY :si (a::b::c::d::e::f::g::v::r) 7=v:=rfl
theorem qc {x:V}:xi (a::b::c::d::e::f::g::v::r) 7 x=a::b::c::d::e::f::g::x::r:=rfl
theorem pZ :si (a::b::c::d::e::f::g::h::r) (n+8)=si r n:=rfl
theorem qd {x:V}:xi (a::b::c::d::e::f::g::h::r) (n+8) x=a::b::c::d::e::f::g::h::xi r n x:=rfl
end
section
variable {call:Nat→List V→Option V}{Q:Ex→St→Prop}{ks:List Fr}{σ τ:St}
variable (call Q ks)in
def wo (ops:List AOper)(σ:St):Prop:=wp call Q ks (match ai call ops σ with
 |some σ'=>some (.normal,σ')
 |none=>none)
variable (call Q ks)in
def pa (r:List AOper)(d:Option Nat)(σ:St):AOp→Prop
 | .pick c a b=>match isBool (c.ev σ)with
  |some t=>if _:t=true then wo call Q ks r ⟨put σ.t d (a.ev σ),σ.h⟩else wo call Q ks r ⟨put σ.t d (b.ev σ),σ.h⟩
  |none=>False
 |op=>match a9 call σ op with
  |some v=>wo call Q ks r ⟨put σ.t d v,σ.h⟩
  |none=>match b6 call σ op with
   |some x=>wo call Q ks r ⟨put σ.t d x.1,x.2⟩
   |none=>False
theorem aV {ops:List AOper}:wp call Q ks (au call aC (.region ops) σ)=wo call Q ks ops σ:=Fo
theorem cV :wo call Q ks [] σ=wp call Q ks (some (.normal,σ)):=rfl
theorem Ud {o:AOper}{r:List AOper}:wo call Q ks (o::r) σ=match aE call o σ with
 |some σ'=>wo call Q ks r σ'
 |none=>False:=by
 unfold wo
 simp only[ai]
 cases aE call o σ with
 |some x=>rfl
 |none=>simp only[lZ]
theorem Q2 {r:List AOper}{d:Option Nat}{op:AOp}:pa call Q ks r d σ op=match(match a9 call σ op with
 |some v=>some (⟨put σ.t d v,σ.h⟩:St)
 |none=>match b6 call σ op with
  |some (v,h)=>some ⟨put σ.t d v,h⟩
  |none=>none)with
 |some σ'=>wo call Q ks r σ'
 |none=>False:=by
 have key:∀(f:Option V)(e:Option (V×List AObj)),(match f with
  |some v=>wo call Q ks r ⟨put σ.t d v,σ.h⟩
  |none=>match e with
   |some x=>wo call Q ks r ⟨put σ.t d x.1,x.2⟩
   |none=>False)=match(match f with
  |some v=>some (⟨put σ.t d v,σ.h⟩:St)
  |none=>match e with
   |some (v,h)=>some ⟨put σ.t d v,h⟩
   |none=>none)with
  |some σ'=>wo call Q ks r σ'
  |none=>False:=fun f e=>by
  cases f with
  |some v=>rfl
  |none=>cases e<;>rfl
 unfold pa
 split
 ·simp only[a9,b6]
  cases isBool (Opd.ev σ _)with
  |none=>rfl
  |some t=>cases t<;>simp
 ·exact key _ _
theorem bT {r:List AOper}{d:Option Nat}{op:AOp}:wo call Q ks (⟨d,op,none⟩::r) σ=pa call Q ks r d σ op:=by
 rw[Ud,Q2];rfl
theorem bt {r:List AOper}{d:Option Nat}{op:AOp}{g:Nat}{w:Bool}:wo call Q ks (⟨d,op,some (g,w)⟩::r) σ=match si σ.t g with
 | .one (.pv (.bool b))=>if _:b=w then pa call Q ks r d σ op else wo call Q ks r ⟨put σ.t d (.tup []),σ.h⟩
 | .tup []=>wo call Q ks r ⟨put σ.t d (.tup []),σ.h⟩
 |_=>False:=by
 rw[Ud,←xf]
 unfold aE
 simp only[aO]
 cases σ.t.getD g (.tup [])with
 |one l=>
  cases l with
  |pv p=>
   cases p with
   |bool b=>
    have e:=Q2 (call:=call) (Q:=Q) (ks:=ks) (σ:=σ) (r:=r) (d:=d) (op:=op)
    cases b<;>cases w<;>simp only[e]<;>simp<;>rfl
   |_=>rfl
  |_=>rfl
 |agg ls=>rfl
 |tup xs=>cases xs<;>rfl
theorem bU {c:Opd}{a b:ACode}:wp call Q ks (au call aC (.cond c a b) σ)=match isBool (c.ev σ)with
 |some t=>if _:t=true then wp call Q ks (au call aC a σ)else wp call Q ks (au call aC b σ)
 |none=>False:=by
 rw[wp_cond]
 cases isBool (c.ev σ)with
 |none=>simp only[lZ]
 |some t=>cases t<;>simp
theorem Nf {P:Ex→St→Prop}{x:Option (Ex×St)}(h:wp call P [] x):∃e τ,x=some (e,τ)∧P e τ:=by
 cases x with
 |none=>rw[lZ]at h;exact h.elim
 |some x=>exact⟨_,_,rfl,h⟩
theorem Pa (hc:pf call)(hQ:Cl Q){c:ACode}(S:Nat→St)(n:Nat)(p:Nat→Bool)(hz:(c.zOk&&kz ks)=true)(kn:Kn (S 0) σ)
 (st:∀k,k<n→(∀j,j<k→p j=false)→wp call (fun e τ=>(p k=true→wp call Q (.sq r9::ks) (some (e,τ)))∧(p k=false→e= .normal∧Kn (S (k+1)) τ)) [] (au call aC c (S k)))
 (en:(∀k,k<n→p k=false)→wp call Q (.sq r9::ks) (au call aC c (S n))):wp call Q ks (au call aC (.loop c) σ):=by
 have key:∀m k,k+m=n→(∀j,j<k→p j=false)→wp call Q ks (au call aC (.loop c) (S k)):=by
  intro m
  induction m with
  |zero=>
   intro k hk hp
   obtain rfl:k=n:=by omega
   exact qB (en hp)
  |succ m ih=>
   intro k hk hp
   obtain⟨e,τ,h1,h2,h3⟩:=Nf (st k (by omega) hp)
   cases hpk:p k with
   |true=>exact qB (by rw[h1];exact h2 hpk)
   |false=>
    obtain⟨rfl,h4⟩:=h3 hpk
    refine yD hc hQ hz (by rw[h1,ce];exact⟨rfl,h4⟩) (ih (k+1) (by omega) fun j hj=> ?_)
    by_cases q:j=k
    ·rw[q];exact hpk
    ·exact hp j (by omega)
 have hz':kz (.sq (.loop c)::ks)=true:=by simpa only[kz,ACode.zOk]using hz
 exact Hx hc hQ (S 0) hz' kn (key n 0 (by omega) (fun j h=>by omega))
def mj (n:Nat)(p:Nat→Bool):Bool:=(List.range n).any p
theorem Pq {n k:Nat}{p:Nat→Bool}(hk:k<n)(h:p k=true):mj n p=true:=by
 unfold mj;rw[List.any_eq_true];exact⟨k,by simpa using hk,h⟩
theorem A8 {n:Nat}{p:Nat→Bool}(h:∀k,k<n→p k=false):mj n p=false:=by
 unfold mj;rw[List.any_eq_false];intro k hk;simp[h k (by simpa using hk)]
theorem sn {n:Nat}{p:Nat→Bool}(h:mj n p=false){k:Nat}(hk:k<n):p k=false:=by
 unfold mj at h;rw[List.any_eq_false]at h;exact Bool.eq_false_iff.2 (h k (by simpa using hk))
theorem bD (hc:pf call)(hQ:Cl Q){c:ACode}{t:List V}{h:List AObj}(m:List Mk)(U:Nat→List (Nat×V))(n:Nat)(p:Nat→Bool)(hz:(c.zOk&&kz ks)=true)(kn:Kn ⟨me (gM m t) (U 0),h⟩ ⟨t,h⟩)
 (st:∀k,k<n→(∀j,j<k→p j=false)→wp call (fun e τ=>if _:p k=true then mj n p=true→wp call Q (.sq r9::ks) (some (e,τ))else e= .normal∧Kn ⟨me (gM m t) (U (k+1)),h⟩ τ) [] (au call aC c ⟨me (gM m t) (U k),h⟩))
 (en:(∀k,k<n→p k=false)→mj n p=false→wp call Q (.sq r9::ks) (au call aC c ⟨me (gM m t) (U n),h⟩)):wp call Q ks (au call aC (.loop c) ⟨t,h⟩):=by
 refine Pa hc hQ (fun k=>⟨me (gM m t) (U k),h⟩) n p hz kn (fun k hk hp=> ?_) fun hp=>en hp (A8 hp)
 obtain⟨e,τ,h1,h2⟩:=Nf (st k hk hp)
 rw[h1,ce]
 split at h2
 ·rename_i q;exact⟨fun _=>h2 (Pq hk q),fun q'=>by rw[q]at q';cases q'⟩
 ·rename_i q;exact⟨fun q'=>absurd q' q,fun _=>h2⟩
end
end Gi
