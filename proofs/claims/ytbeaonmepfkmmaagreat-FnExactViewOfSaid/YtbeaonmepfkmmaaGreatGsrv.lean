/- Of this proof. -/
import Derived.Test.YtbeaonmepfkmmaaGreatGsnv
set_option linter.unusedSimpArgs false
set_option linter.unusedVariables false
namespace Gi
open Go
section
variable {f g:List Nat}{h h':List AObj}{σ τ υ:St}{call:Nat→List V→Option V}
theorem Ps (k:HRel f h h'){l l' x:L}(r:dL f l l')(e:bA h l=some x):bA h' l'=some x∧l.ren f=some l':=by
 rcases r with rfl|r
 ·cases e
 refine⟨?_,r⟩
 cases l with
 |arr o=>
  obtain⟨o',h1,rfl⟩:=ft r
  obtain⟨ob,ob',h2,h3,h4⟩:=k.get h1
  simp only[bA,h2]at e
  simp only[bA,h3]
  cases ob with
  |arr z es=>rw[aJ h4 (by simp) (by simp)];exact e
  |froz z es=>rw[aJ h4 (by simp) (by simp)];exact e
  |darr z es=>rw[aJ h4 (by simp) (by simp)];exact e
  |_=>cases e
 |pv p=>simp only[L.ren]at r;cases r;exact e
 |nil=>simp only[L.ren]at r;cases r;exact e
 |_=>cases e
theorem wg (k:HRel f h h'):∀{ls ls' xs:List L},aP f ls ls'→aM h ls=some xs→aM h' ls'=some xs∧ew f ls ls'
 |[],[],_,_,e=>⟨e,trivial⟩
 |l::ls,l'::ls',xs,r,e=>by
  simp only[aM]at e⊢
  split at e
  ·rename_i x ys h1 h2
   cases e
   obtain⟨a1,a2⟩:=Ps k r.1 h1
   obtain⟨b1,b2⟩:=wg k r.2 h2
   rw[a1,b1]
   exact⟨rfl,a2,b2⟩
  ·cases e
 |[],_::_,_,e,_=>e.elim
 |_::_,[],_,e,_=>e.elim
theorem QP (k:HRel f h h'){v v':V}{x:Bool×List L}(r:bB f v v')(e:comp h v=some x):comp h' v'=some x∧ew f v.cells v'.cells:=by
 cases v with
 |one l=>
  rcases r with rfl|⟨l',rfl,r⟩
  ·cases e
  simp only[comp]at e⊢
  split at e
  ·rename_i xs h1
   obtain⟨a1,a2⟩:=wg k (show aP f [l] [l']from⟨.inr r,trivial⟩) h1
   rw[a1]
   exact⟨e,a2⟩
  ·cases e
 |agg ls=>
  obtain⟨ls',rfl,r⟩:=r
  simp only[comp]at e⊢
  split at e
  ·rename_i xs h1
   obtain⟨a1,a2⟩:=wg k r h1
   rw[a1]
   exact⟨e,a2⟩
  ·cases e
 |tup xs=>cases e
theorem Gu (k:HRel f h h'):∀{vs vs':List V}{xs:List (Bool×List L)},aZ f vs vs'→bJ h vs=some xs→bJ h' vs'=some xs∧ew f (vs.flatMap V.cells) (vs'.flatMap V.cells)
 |[],[],_,_,e=>⟨e,trivial⟩
 |v::vs,v'::vs',xs,r,e=>by
  simp only[bJ]at e⊢
  split at e
  ·rename_i x ys h1 h2
   cases e
   obtain⟨a1,a2⟩:=QP k r.1 h1
   obtain⟨b1,b2⟩:=Gu k r.2 h2
   rw[a1,b1]
   exact⟨rfl,by simpa only[List.flatMap_cons]using a2.append b2⟩
  ·cases e
 |[],_::_,_,e,_=>e.elim
 |_::_,[],_,e,_=>e.elim
theorem Jl (k:HRel f h h'):∀{ls ls':List L},ew f ls ls'→(∀o',o'∈ar ls'→∃o,o∈ar ls∧f[o]? =some o')∧((ar ls).Nodup→(ar ls').Nodup)
 |[],[],_=>⟨fun o' h=>by simp[ar]at h,fun h=>h⟩
 |l::ls,l'::ls',r=>by
  obtain⟨i1,i2⟩:=Jl k r.2
  have r1:=r.1
  have other:(∀o,l≠ .arr o)→(∀o,l'≠ .arr o)→ar (l::ls)=ar ls∧ar (l'::ls')=ar ls':=fun a b=>by
   constructor
   ·cases l with
    |arr o=>exact absurd rfl (a o)
    |_=>rfl
   ·cases l' with
    |arr o=>exact absurd rfl (b o)
    |_=>rfl
  cases l with
  |arr o=>
   obtain⟨o',h1,rfl⟩:=ft r1
   have ea:ar (.arr o::ls)=o::ar ls:=rfl
   have eb:ar (.arr o'::ls')=o'::ar ls':=rfl
   rw[ea,eb]
   refine⟨fun p hp=> ?_,fun nd=> ?_⟩
   ·rcases Z6.1 hp with rfl|hp
    ·exact⟨o,List.mem_cons_self,h1⟩
    ·obtain⟨q,h2,h3⟩:=i1 p hp
     exact⟨q,List.mem_cons_of_mem _ h2,h3⟩
   ·obtain⟨n1,n2⟩:=List.nodup_cons.1 nd
    refine List.nodup_cons.2 ⟨fun hp=> ?_,i2 n2⟩
    obtain⟨q,h2,h3⟩:=i1 o' hp
    rw[k.inj h3 h1]at h2
    exact n1 h2
  |ptr o i j=>
   obtain⟨o',_,rfl⟩:=fI r1
   obtain⟨ea,eb⟩:=other (by simp) (by simp)
   rw[ea,eb];exact⟨i1,i2⟩
  |mp o=>
   obtain⟨o',_,rfl⟩:=p8 r1
   obtain⟨ea,eb⟩:=other (by simp) (by simp)
   rw[ea,eb];exact⟨i1,i2⟩
  |sub o c=>
   obtain⟨o',_,rfl⟩:=oS r1
   obtain⟨ea,eb⟩:=other (by simp) (by simp)
   rw[ea,eb];exact⟨i1,i2⟩
  |_=>
   simp only[L.ren]at r1
   cases r1
   obtain⟨ea,eb⟩:=other (by simp) (by simp)
   rw[ea,eb];exact⟨i1,i2⟩
 |[],_::_,e=>e.elim
 |_::_,[],e=>e.elim
theorem vI (s:Cln f σ τ):∀{rs:List ARes}{vs:List V},aA σ rs=some vs→∃vs',aA τ rs=some vs'∧aZ f vs vs'
 |[],vs,e=>by simp only[aA]at e⊢;cases e;exact⟨_,rfl,trivial⟩
 |r::rs,vs,e=>by
  simp only[aA]at e⊢
  split at e
  ·rename_i x xs h1 h2
   cases e
   obtain⟨xs',h3,h4⟩:=vI s h2
   have:∃x',cN τ r=some x'∧bB f x x':=by
    cases r with
    |tmp t=>simp only[cN]at h1⊢;cases h1;exact⟨_,rfl,s.tmps.getD t⟩
    |cell t n=>exact NH (call:=fun _ _=>none) (op:= .load true n (.tmp t)) s (fun _ _ _ h=>by cases h) rfl h1
   obtain⟨x',h5,h6⟩:=this
   rw[h5,h3]
   exact⟨_,rfl,h6,h4⟩
  ·cases e
theorem Pm (k:Kn σ τ){rs:List ARes}{r:V}(e:aS σ rs=some r):aS τ rs=some r:=by
 obtain⟨f,s⟩:=k
 unfold aS at e⊢
 cases hr:aA σ rs with
 |none=>simp[hr]at e
 |some vs=>
  obtain⟨vs',h1,h2⟩:=vI s hr
  rw[h1]
  simp only[hr]at e⊢
  split at e
  ·rename_i nd
   cases hcs:bJ σ.h vs with
   |none=>simp[hcs]at e
   |some xs=>
    obtain⟨a1,a2⟩:=Gu s.heap h2 hcs
    rw[if_pos ((Jl s.heap a2).2 nd),a1]
    rw[hcs]at e
    exact e
  ·cases e
def te (g f:List Nat):List Nat:=f.map fun o=>g.getD o 0
theorem GN (k:HRel f h h')(hg:g.length=h'.length){l l' l'':L}(e1:l.ren f=some l')(e2:l'.ren g=some l''):l.ren (te g f)=some l'':=by
 have key:∀{o o' o'':Nat},f[o]? =some o'→g[o']? =some o''→(te g f)[o]? =some o'':=fun{o o' o''}a b=>by
  simp only[te,Zm,a,Option.map_some,List.getD,b,Option.getD_some]
 cases l with
 |ptr o i j=>
  obtain⟨o',a,rfl⟩:=fI e1
  obtain⟨o'',b,rfl⟩:=fI e2
  simp only[L.ren,key a b]
 |arr o=>
  obtain⟨o',a,rfl⟩:=ft e1
  obtain⟨o'',b,rfl⟩:=ft e2
  simp only[L.ren,key a b]
 |mp o=>
  obtain⟨o',a,rfl⟩:=p8 e1
  obtain⟨o'',b,rfl⟩:=p8 e2
  simp only[L.ren,key a b]
 |sub o c=>
  obtain⟨o',a,rfl⟩:=oS e1
  obtain⟨o'',b,rfl⟩:=oS e2
  simp only[L.ren,key a b]
 |_=>
  simp only[L.ren]at e1
  cases e1
  exact e2
theorem KP {l:L}(e:l.ren f=some .junk):l= .junk:=by
 cases l with
 |ptr o i j=>obtain⟨o',a,h⟩:=fI e;cases h
 |arr o=>obtain⟨o',a,h⟩:=ft e;cases h
 |mp o=>obtain⟨o',a,h⟩:=p8 e;cases h
 |sub o c=>obtain⟨o',a,h⟩:=oS e;cases h
 |junk=>rfl
 |_=>simp only[L.ren]at e;cases e
theorem dL.trans (k:HRel f h h')(hg:g.length=h'.length){l l' l'':L}(e1:dL f l l')(e2:dL g l' l''):dL (te g f) l l'':=by
 rcases e1 with e1|e1
 ·exact .inl e1
 rcases e2 with rfl|e2
 ·exact .inl (KP e1)
 ·exact .inr (GN k hg e1 e2)
theorem aP.trans (k:HRel f h h')(hg:g.length=h'.length):∀{a b c:List L},aP f a b→aP g b c→aP (te g f) a c
 |[],[],[],_,_=>trivial
 |_::_,_::_,_::_,e1,e2=>⟨e1.1.trans k hg e2.1,aP.trans k hg e1.2 e2.2⟩
 |[],_::_,_,e,_=>e.elim
 |_::_,[],_,e,_=>e.elim
 |_,[],_::_,_,e=>e.elim
 |_,_::_,[],_,e=>e.elim
theorem cf.trans (k:HRel f h h')(hg:g.length=h'.length):∀{a b c:List (Bool×List L)},cf f a b→cf g b c→cf (te g f) a c
 |[],[],[],_,_=>trivial
 |_::_,_::_,_::_,e1,e2=>⟨e1.1.trans e2.1,e1.2.1.trans k hg e2.2.1,cf.trans k hg e1.2.2 e2.2.2⟩
 |[],_::_,_,e,_=>e.elim
 |_::_,[],_,e,_=>e.elim
 |_,[],_::_,_,e=>e.elim
 |_,_::_,[],_,e=>e.elim
theorem bB.trans (k:HRel f h h')(hg:g.length=h'.length){a b c:V}(e1:bB f a b)(e2:bB g b c):bB (te g f) a c:=by
 cases a with
 |one l=>
  rcases e1 with e1|⟨l',rfl,e1⟩
  ·exact .inl e1
  rcases e2 with rfl|⟨l'',rfl,e2⟩
  ·exact .inl (KP e1)
  ·exact .inr ⟨l'',rfl,GN k hg e1 e2⟩
 |agg ls=>
  obtain⟨ls',rfl,e1⟩:=e1
  obtain⟨ls'',rfl,e2⟩:=e2
  exact⟨_,rfl,e1.trans k hg e2⟩
 |tup xs=>
  obtain⟨ls',rfl,e1⟩:=e1
  obtain⟨ls'',rfl,e2⟩:=e2
  exact⟨_,rfl,e1.trans k hg e2⟩
theorem aZ.trans (k:HRel f h h')(hg:g.length=h'.length):∀{a b c:List V},aZ f a b→aZ g b c→aZ (te g f) a c
 |[],[],[],_,_=>trivial
 |_::_,_::_,_::_,e1,e2=>⟨e1.1.trans k hg e2.1,aZ.trans k hg e1.2 e2.2⟩
 |[],_::_,_,e,_=>e.elim
 |_::_,[],_,e,_=>e.elim
 |_,[],_::_,_,e=>e.elim
 |_,_::_,[],_,e=>e.elim
theorem Kn.trans (a:Kn σ τ)(b:Kn τ υ):Kn σ υ:=by
 obtain⟨f,a⟩:=a
 obtain⟨g,b⟩:=b
 have hg:=b.heap.len
 have at2:∀{i:Nat}{o'':Nat},(te g f)[i]? =some o''→∃o',f[i]? =some o'∧g[o']? =some o'':=fun{i o''}e=>by
  simp only[te,Zm,Zh]at e
  obtain⟨o',h1,h2⟩:=e
  refine⟨o',h1,?_⟩
  have:o'<g.length:=by rw[hg];exact a.heap.lt h1
  simp only[List.getD,Zl this,Option.getD_some]at h2
  rw[Zl this,h2]
 refine⟨te g f,⟨?_,by simp[te,a.heap.len],fun i o ob e1 e2=> ?_⟩,a.tmps.trans a.heap hg b.tmps⟩
 ·refine List.pairwise_iff_getElem.2 fun i j hi hj hij e=> ?_
  obtain⟨o1,h1,h2⟩:=at2 (Zl hi)
  obtain⟨o2,h3,h4⟩:=at2 (Zl hj)
  rw[e]at h2
  have:=b.heap.inj h2 h4
  subst this
  exact absurd (a.heap.inj h1 h3) (by omega)
 ·obtain⟨o',h1,h2⟩:=at2 e1
  obtain⟨ob',h3,h4⟩:=a.heap.obs i o' ob h1 e2
  obtain⟨ob'',h5,h6⟩:=b.heap.obs o' o ob' h2 h3
  refine⟨ob'',h5,?_⟩
  cases ob with
  |box cs=>
   obtain⟨cs',rfl,h4⟩:=h4
   obtain⟨cs'',rfl,h6⟩:=h6
   exact⟨_,rfl,h4.trans a.heap hg h6⟩
  |dead=>trivial
  |arr z es=>rw[aJ h4 (by simp) (by simp)]at h6;exact h6
  |froz z es=>rw[aJ h4 (by simp) (by simp)]at h6;exact h6
  |darr z es=>rw[aJ h4 (by simp) (by simp)]at h6;exact h6
  |zarr z es=>rw[aJ h4 (by simp) (by simp)]at h6;exact h6
  |fbox ps=>rw[aJ h4 (by simp) (by simp)]at h6;exact h6
  |imap kvs=>rw[aJ h4 (by simp) (by simp)]at h6;exact h6
  |tbox n=>rw[aJ h4 (by simp) (by simp)]at h6;exact h6
  |res=>rw[aJ h4 (by simp) (by simp)]at h6;exact h6
theorem Kn.of (f:List Nat){t t':List V}{h h':List AObj}(nd:f.Nodup)(ho:bE f h' f h)(ht:aZ f t t'):Kn ⟨t,h⟩ ⟨t',h'⟩:=⟨f,Cln.of f nd ho ht⟩
theorem Kn.r (f:List Nat){t t':List V}{h h':List AObj}(ho:bE f h' f h:=by simp[aZ,bB,aP,dL,cf,bE,cy,L.ren])(ht:aZ f t t':=by simp[aZ,bB,aP,dL,cf,bE,cy,L.ren])(nd:f.Nodup:=by decide):Kn ⟨t,h⟩ ⟨t',h'⟩:=Kn.of f nd ho ht
end
inductive Fr where
 |sq (c:ACode)
 |bk (id:Nat)
def kz :List Fr→Bool
 |[]=>true
 | .sq c::ks=>c.zOk&&kz ks
 | .bk _::ks=>kz ks
section
variable (call:Nat→List V→Option V)
def wp (Q:Ex→St→Prop):List Fr→Option (Ex×St)→Prop
 |[],some (e,σ)=>Q e σ
 | .sq c::ks,some (.normal,σ)=>wp Q ks (aB call aG c σ)
 | .sq _::ks,some (e,σ)=>wp Q ks (some (e,σ))
 | .bk id::ks,some (.exit i,σ)=>if i=id then wp Q ks (some (.normal,σ))else wp Q ks (some (.exit i,σ))
 | .bk _::ks,some (e,σ)=>wp Q ks (some (e,σ))
 |_,none=>False
end
section
variable {call:Nat→List V→Option V}{Q:Ex→St→Prop}{ks:List Fr}{σ τ:St}
theorem ca {e:Ex}:wp call Q [] (some (e,σ))=Q e σ:=by simp only[wp]
theorem b7 {c:ACode}:wp call Q (.sq c::ks) (some (.normal,σ))=wp call Q ks (aB call aG c σ):=by simp only[wp]
theorem ce {c:ACode}:wp call Q (.sq c::ks) (some (.ret,σ))=wp call Q ks (some (.ret,σ)):=by simp only[wp]
theorem cd {c:ACode}{i:Nat}:wp call Q (.sq c::ks) (some (.exit i,σ))=wp call Q ks (some (.exit i,σ)):=by simp only[wp]
theorem cr {id:Nat}:wp call Q (.bk id::ks) (some (.normal,σ))=wp call Q ks (some (.normal,σ)):=by simp only[wp]
theorem ct {id:Nat}:wp call Q (.bk id::ks) (some (.ret,σ))=wp call Q ks (some (.ret,σ)):=by simp only[wp]
theorem cq {id i:Nat}:wp call Q (.bk id::ks) (some (.exit i,σ))=if i=id then wp call Q ks (some (.normal,σ))else wp call Q ks (some (.exit i,σ)):=by simp only[wp]
theorem mQ :wp call Q ks none=False:=by
 cases ks with
 |nil=>simp only[wp]
 |cons k ks=>cases k<;>simp only[wp]
theorem wp_seq {a b:ACode}:wp call Q ks (aB call aG (.seq a b) σ)=wp call Q (.sq b::ks) (aB call aG a σ):=by
 simp only[aB]
 cases aB call aG a σ with
 |none=>simp only[mQ]
 |some x=>
  obtain⟨e,σ'⟩:=x
  cases e<;>simp only[b7,ce,cd]
theorem wp_block {id:Nat}{c:ACode}:wp call Q ks (aB call aG (.block id c) σ)=wp call Q (.bk id::ks) (aB call aG c σ):=by
 simp only[aB]
 cases aB call aG c σ with
 |none=>simp only[mQ]
 |some x=>
  obtain⟨e,σ'⟩:=x
  cases e with
  |exit i=>
   simp only[cq]
   split<;>rfl
  |_=>simp only[cr,ct]
theorem G2 {ops:List AOper}:wp call Q ks (aB call aG (.region ops) σ)=wp call Q ks (match am call ops σ with
 |some σ'=>some (.normal,σ')
 |none=>none):=by simp only[aB];rfl
theorem wp_cond {c:Opd}{a b:ACode}:wp call Q ks (aB call aG (.cond c a b) σ)=wp call Q ks (match isBool (c.ev σ)with
 |some t=>if t then aB call aG a σ else aB call aG b σ
 |none=>none):=by simp only[aB];rfl
theorem wp_skip :wp call Q ks (aB call aG .skip σ)=wp call Q ks (some (.normal,σ)):=by simp only[aB]
theorem wp_exit {id:Nat}:wp call Q ks (aB call aG (.exit id) σ)=wp call Q ks (some (.exit id,σ)):=by simp only[aB]
theorem wp_ret :wp call Q ks (aB call aG .ret σ)=wp call Q ks (some (.ret,σ)):=by simp only[aB]
def Cl (Q:Ex→St→Prop):Prop:=∀e σ τ,Kn σ τ→Q e σ→Q e τ
theorem Sm (hc:qu call)(hQ:Cl Q):∀{ks:List Fr},kz ks=true→∀{e:Ex}{σ τ:St},Kn σ τ→wp call Q ks (some (e,σ))→wp call Q ks (some (e,τ)):=by
 intro ks
 induction ks with
 |nil=>intro _ e σ τ k h;simp only[ca]at h⊢;exact hQ e σ τ k h
 |cons fr ks ih=>
  intro hz e σ τ k h
  cases fr with
  |sq c=>
   simp only[kz,Zg]at hz
   cases e with
   |normal=>
    simp only[b7]at h⊢
    cases hx:aB call aG c σ with
    |none=>rw[hx,mQ]at h;exact h.elim
    |some x=>
     obtain⟨e,σ'⟩:=x
     obtain⟨τ',h1,k1⟩:=NB hc hz.1 k hx
     rw[hx]at h
     rw[h1]
     exact ih hz.2 k1 h
   |exit i=>simp only[cd]at h⊢;exact ih hz.2 k h
   |ret=>simp only[ce]at h⊢;exact ih hz.2 k h
  |bk id=>
   simp only[kz]at hz
   cases e with
   |normal=>simp only[cr]at h⊢;exact ih hz k h
   |ret=>simp only[ct]at h⊢;exact ih hz k h
   |exit i=>
    simp only[cq]at h⊢
    split at h
    ·rename_i hi;rw[if_pos hi];exact ih hz k h
    ·rename_i hi;rw[if_neg hi];exact ih hz k h
theorem I7 (hc:qu call)(hQ:Cl Q){c:ACode}(σ0:St)(hz:kz (.sq c::ks)=true)(k:Kn σ0 σ)(h:wp call Q ks (aB call aG c σ0)):wp call Q ks (aB call aG c σ):=by
 have:=Sm (e:= .normal) hc hQ hz k (by rw[b7];exact h)
 rwa[b7]at this
variable (call)in
def T5 (c:ACode)(σ:St)(e:Ex)(σe:St):Prop:=∃τ,aG (aB call aG c) σ=some (e,τ)∧Kn σe τ
variable (call)in
def QB (c:ACode)(σ σ':St):Prop:=∃τ,aB call aG c σ=some (.normal,τ)∧Kn σ' τ
theorem Tc (hc:qu call){c:ACode}(hz:c.zOk=true){e:Ex}{σ':St}(k:Kn σ τ)(h:aG (aB call aG c) σ=some (e,σ')):∃τ',aG (aB call aG c) τ=some (e,τ')∧Kn σ' τ':=by
 have:=NB (c:= .loop c) hc hz k (by simp only[aB];exact h)
 simpa only[aB]using this
theorem T5.step (hc:qu call){c:ACode}(hz:c.zOk=true){σ' σe:St}{e:Ex}(s:QB call c σ σ')(E:T5 call c σ' e σe):T5 call c σ e σe:=by
 obtain⟨τ,h1,k1⟩:=s
 obtain⟨τ2,h2,k2⟩:=E
 obtain⟨τ3,h3,k3⟩:=Tc hc hz k1 h2
 exact⟨τ3,by rw[fJ h1];exact h3,k2.trans k3⟩
theorem Nk {e:Ex}{σe:St}{x:Option (Ex×St)}(h:wp call (fun e' τ=>e'=e∧Kn σe τ) [] x):∃τ,x=some (e,τ)∧Kn σe τ:=by
 cases x with
 |none=>rw[mQ]at h;exact h.elim
 |some x=>
  obtain⟨e',τ⟩:=x
  rw[ca]at h
  obtain⟨rfl,h⟩:=h
  exact⟨τ,rfl,h⟩
theorem QB.of {c:ACode}{σ':St}(h:wp call (fun e' τ=>e'= .normal∧Kn σ' τ) [] (aB call aG c σ)):QB call c σ σ':=Nk h
theorem Cl.kn {e:Ex}{σe:St}:Cl (fun e' τ=>e'=e∧Kn σe τ):=fun _ _ _ k h=>⟨h.1,h.2.trans k⟩
end
section
variable {Φ:Nat→Option AFn}{ext:Nat→List V→Option V}
def UE (rs:List ARes)(r:V)(e:Ex)(σ:St):Prop:=(e= .normal∨e= .ret)∧aS σ rs=some r
theorem Cl.fin {fn:List ARes}{r:V}:Cl (UE fn r):=fun _ _ _ k h=>⟨h.1,Pm k h.2⟩
theorem bH {fn:List ARes}{r:V}{σ:St}:UE fn r .ret σ=(aS σ fn=some r):=by simp[UE]
theorem aL {fn:List ARes}{r:V}{σ:St}:UE fn r .normal σ=(aS σ fn=some r):=by simp[UE]
theorem aa {k:Nat}{fn:AFn}{xz:List V}{r:V}(hk:Φ k=some fn)(h:wp (ah Φ ext) (UE fn.results r) [] (aB (ah Φ ext) aG fn.body (start fn xz))):ah Φ ext k xz=some r:=by
 refine fy hk ?_
 unfold f8
 cases hx:aB (ah Φ ext) aG fn.body (start fn xz)with
 |none=>rw[hx,mQ]at h;exact h.elim
 |some x=>
  obtain⟨e,σ⟩:=x
  rw[hx,ca]at h
  obtain⟨h1|h1,h2⟩:=h<;>subst h1<;>exact h2
theorem re {σ:St}{rs:List ARes}{r:V}(e:aS σ rs=some r):r.clean=true:=by
 unfold aS at e
 split at e
 ·cases e
 ·rename_i vs h1
  split at e
  ·cases hcs:bJ σ.h vs with
   |none=>simp[hcs]at e
   |some xs=>
    have hc:=(sF vs xs [] hcs).1
    rw[hcs]at e
    split at e
    ·rename_i ls h2
     cases h2;cases e
     simpa[V.clean]using hc
    ·rename_i l h2
     cases h2;cases e
     simpa[V.clean]using hc
    ·rename_i ys h2 h3 h4
     cases h4
     split at e
     ·cases e
     ·cases e
      simpa[V.clean]using hc
    ·cases e
  ·cases e
theorem x5 :∀{h:List AObj}{os:List (Bool×List L)},gJ h=some os→(os.all fun x=>x.2.all L.clean)=true
 |[],os,e=>by simp only[gJ]at e;cases e;rfl
 |ob::h,os,e=>by
  cases ob with
  |zarr z es=>
   simp only[gJ]at e
   split at e
   ·rename_i xs h1
    cases e
    simp[x5 h1,L.clean]
   ·cases e
  |_=>simp[gJ]at e
theorem DL {m:Nat}{fn:AFn}{σ:St}{r:V}(e:FS m fn σ=some r):r.clean=true:=by
 unfold FS at e
 split at e
 ·rename_i l os h1 h2
  split at e
  ·rename_i hl
   cases e
   have hc:=re h1
   simp only[V.clean,Zq,List.all_nil,Bool.and_true,Zg]at hc⊢
   exact⟨hc,x5 h2⟩
  ·cases e
 ·cases e
theorem M6 (he:qu ext):qu (ah Φ ext):=by
 intro k xz r h
 obtain⟨n,hn⟩:=i9.1 h
 cases n with
 |zero=>simp[run]at hn
 |succ n=>
  simp only[run]at hn
  split at hn
  ·split at hn
   ·split at hn
    ·split at hn
     ·unfold vt at hn
      split at hn
      ·exact DL hn
      ·exact DL hn
      ·cases hn
     ·cases hn
    ·cases hn
   ·exact he k xz r hn
  ·unfold done at hn
   split at hn
   ·exact re hn
   ·exact re hn
   ·cases hn
end
inductive Mk where
 |t
 |f
def gW :List Mk→List V→List V
 | .t::m,v::vs=>v::gW m vs
 | .f::m,_::vs=> .one .junk::gW m vs
 |[],vs=>vs
 |_,[]=>[]
theorem bu {m:List Mk}{v:V}{vs:List V}:gW (.t::m) (v::vs)=v::gW m vs:=rfl
theorem br {m:List Mk}{v:V}{vs:List V}:gW (.f::m) (v::vs)= .one .junk::gW m vs:=rfl
theorem bt {vs:List V}:gW [] vs=vs:=rfl
def mV (t:List V):List (Nat×V)→List V
 |[]=>t
 |(i,v)::r=>mV (t.set i v) r
theorem b6 {t:List V}:mV t []=t:=rfl
theorem ub {t:List V}{i:Nat}{v:V}{r:List (Nat×V)}:mV t ((i,v)::r)=mV (t.set i v) r:=rfl
def tn :ACode:= .cond .nil .skip .skip
theorem MQ {call:Nat→List V→Option V}{σ:St}:aB call aG tn σ=none:=rfl
section
variable {call:Nat→List V→Option V}{Q:Ex→St→Prop}{ks:List Fr}{σ τ:St}
theorem Sn {x:Option (Ex×St)}(h:wp call Q (.sq tn::ks) x):∃e τ,x=some (e,τ)∧e≠ .normal∧wp call Q ks (some (e,τ)):=by
 cases x with
 |none=>rw[mQ]at h;exact h.elim
 |some x=>
  obtain⟨e,τ⟩:=x
  cases e with
  |normal=>rw[b7,MQ,mQ]at h;exact h.elim
  |exit i=>rw[cd]at h;exact⟨_,_,rfl,by simp,h⟩
  |ret=>rw[ce]at h;exact⟨_,_,rfl,by simp,h⟩
theorem r8 {c:ACode}(h:wp call Q (.sq tn::ks) (aB call aG c σ)):wp call Q ks (aB call aG (.loop c) σ):=by
 obtain⟨e,τ,h1,h2,h3⟩:=Sn h
 simp only[aB]
 rw[iG h1 h2]
 exact h3
theorem Aa (hc:qu call)(hQ:Cl Q){c:ACode}{σ':St}(hz:(c.zOk&&kz ks)=true)(s:wp call (fun e τ=>e= .normal∧Kn σ' τ) [] (aB call aG c σ))(h:wp call Q ks (aB call aG (.loop c) σ')):wp call Q ks (aB call aG (.loop c) σ):=by
 obtain⟨τ,h1,k1⟩:=Nk s
 have hz':kz (.sq (.loop c)::ks)=true:=by simpa only[kz,ACode.zOk]using hz
 have:=I7 hc hQ σ' hz' k1 h
 simp only[aB]at this⊢
 rw[fJ h1]
 exact this
theorem TE (hc:qu call)(hQ:Cl Q){c:ACode}(S:Nat→St)(n:Nat)(p:Nat→Bool)(hz:(c.zOk&&kz ks)=true)(kn:Kn (S 0) σ)
 (st:∀k,k<n→p k=false→wp call (fun e τ=>e= .normal∧Kn (S (k+1)) τ) [] (aB call aG c (S k)))
 (le:∀k,k<n→p k=true→(∀j,j<k→p j=false)→wp call Q (.sq tn::ks) (aB call aG c (S k)))
 (en:(∀k,k<n→p k=false)→wp call Q (.sq tn::ks) (aB call aG c (S n))):wp call Q ks (aB call aG (.loop c) σ):=by
 have key:∀m k,k+m=n→(∀j,j<k→p j=false)→wp call Q ks (aB call aG (.loop c) (S k)):=by
  intro m
  induction m with
  |zero=>
   intro k hk hp
   obtain rfl:k=n:=by omega
   exact r8 (en hp)
  |succ m ih=>
   intro k hk hp
   cases hpk:p k with
   |true=>exact r8 (le k (by omega) hpk hp)
   |false=>
    refine Aa hc hQ hz (st k (by omega) hpk) (ih (k+1) (by omega) fun j hj=> ?_)
    by_cases q:j=k
    ·rw[q];exact hpk
    ·exact hp j (by omega)
 have hz':kz (.sq (.loop c)::ks)=true:=by simpa only[kz,ACode.zOk]using hz
 exact I7 hc hQ (S 0) hz' kn (key n 0 (by omega) (fun j h=>by omega))
theorem hJ (hc:qu call)(hQ:Cl Q){c:ACode}{t:List V}{h:List AObj}(n:Nat)(m:List Mk)(U:Nat→List (Nat×V))(H:Nat→List AObj)(hz:(c.zOk&&kz ks)=true)(kn:Kn ⟨mV (gW m t) (U 0),H 0⟩ ⟨t,h⟩)
 (st:∀k,k<n→wp call (fun e τ=>e= .normal∧Kn ⟨mV (gW m t) (U (k+1)),H (k+1)⟩ τ) [] (aB call aG c ⟨mV (gW m t) (U k),H k⟩))
 (en:wp call Q (.sq tn::ks) (aB call aG c ⟨mV (gW m t) (U n),H n⟩)):wp call Q ks (aB call aG (.loop c) ⟨t,h⟩):=
 TE hc hQ (fun k=>⟨mV (gW m t) (U k),H k⟩) n (fun _=>false) hz kn (fun k hk _=>st k hk) (fun k hk hp=>by cases hp) (fun _=>en)
end
section
variable {call:Nat→List V→Option V}{Q:Ex→St→Prop}{ks:List Fr}{σ τ:St}
theorem MP {id:Nat}{σ:St}(h:wp call Q ks (some (.exit id,σ))):wp call Q (.sq tn::ks) (some (.exit id,σ)):=by rw[cd];exact h
theorem jj {c:ACode}:wp call Q ks (aB call aG (.loop c) σ)=wp call Q (.sq (.loop c)::ks) (aB call aG c σ):=by
 simp only[aB]
 rw[tX]
 cases h:aB call aG c σ with
 |none=>simp only[mQ]
 |some x=>
  obtain⟨e,σ'⟩:=x
  cases e with
  |normal=>simp only[b7,aB]
  |exit i=>simp only[cd]
  |ret=>simp only[ce]
theorem Ox (hc:qu call)(hQ:Cl Q){c:ACode}{t:List V}{h:List AObj}(n:Nat)(m:List Mk)(U:Nat→List (Nat×V))(H:Nat→List AObj)(id:Nat)(hz:(c.zOk&&kz ks)=true)(kn:Kn ⟨mV (gW m t) (U 0),H 0⟩ ⟨t,h⟩)
 (st:∀k,k<n→wp call (fun e τ=>e= .normal∧Kn ⟨mV (gW m t) (U (k+1)),H (k+1)⟩ τ) [] (aB call aG c ⟨mV (gW m t) (U k),H k⟩))
 (en:wp call (fun e τ=>e= .exit id∧Kn ⟨mV (gW m t) (U n),H n⟩ τ) [] (aB call aG c ⟨mV (gW m t) (U n),H n⟩))
 (rest:wp call Q ks (some (.exit id,⟨mV (gW m t) (U n),H n⟩))):wp call Q ks (aB call aG (.loop c) ⟨t,h⟩):=by
 refine hJ hc hQ n m U H hz kn st ?_
 obtain⟨τ,h1,k1⟩:=Nk en
 rw[h1]
 refine MP (Sm hc hQ ?_ k1 rest)
 simp only[Zg]at hz
 exact hz.2
end
def tz :List V→Nat→V
 |[],_=> .tup []
 |v::_,0=>v
 |_::r,n+1=>tz r n
def yE :List V→Nat→V→List V
 |[],_,_=>[]
 |_::r,0,x=>x::r
 |v::r,n+1,x=>v::yE r n x
theorem yB :∀(t:List V)(n:Nat),t.getD n (.tup [])=tz t n
 |[],_=>by simp[tz]
 |v::r,0=>by simp[tz]
 |v::r,n+1=>by rw[List.getD_cons_succ,yB r n];rfl
theorem I4 :∀(t:List V)(n:Nat)(x:V),t.set n x=yE t n x
 |[],_,_=>rfl
 |v::r,0,_=>rfl
 |v::r,n+1,x=>by rw[List.set_cons_succ,I4 r n x];rfl
theorem cE {σ:St}{n:Nat}:(Opd.tmp n).ev σ=tz σ.t n:=yB _ _
theorem dE {σ:St}{p:PV}:(Opd.pv p).ev σ= .one (.pv p):=rfl
theorem cD {σ:St}:Opd.nil.ev σ= .one .nil:=rfl
theorem dD {σ:St}{k:Nat}:(Opd.fn k).ev σ= .one (.fn k []):=rfl
theorem dJ {t:List V}{d:Nat}{v:V}:put t (some d) v=yE t d v:=I4 _ _ _
theorem dI {t:List V}{v:V}:put t none v=t:=rfl
theorem bO {σ:St}{n:Nat}:cN σ (.tmp n)=some (tz σ.t n):=by simp only[cN,yB]
theorem bg {σ:St}{t n:Nat}:cN σ (.cell t n)=bi σ.h true n (tz σ.t t):=by simp only[cN,yB]
theorem cI {t:List V}{i:Nat}{v:V}{r:List (Nat×V)}:mV t ((i,v)::r)=mV (yE t i v) r:=by rw[ub,I4]
section
variable {a b c d e f g h v:V}{r:List V}{n:Nat}
theorem pa :tz (v::r) 0=v:=rfl
theorem pp {x:V}:yE (v::r) 0 x=x::r:=rfl
theorem pd :tz (a::v::r) 1=v:=rfl
theorem pq {x:V}:yE (a::v::r) 1 x=a::x::r:=rfl
theorem pe :tz (a::b::v::r) 2=v:=rfl
theorem pt {x:V}:yE (a::b::v::r) 2 x=a::b::x::r:=rfl
theorem pf :tz (a::b::c::v::r) 3=v:=rfl
theorem pw {x:V}:yE (a::b::c::v::r) 3 x=a::b::c::x::r:=rfl
theorem pg :tz (a::b::c::d::v::r) 4=v:=rfl
theorem px {x:V}:yE (a::b::c::d::v::r) 4 x=a::b::c::d::x::r:=rfl
theorem ph :tz (a::b::c::d::e::v::r) 5=v:=rfl
theorem py {x:V}:yE (a::b::c::d::e::v::r) 5 x=a::b::c::d::e::x::r:=rfl
theorem pj :tz (a::b::c::d::e::f::v::r) 6=v:=rfl
theorem pz {x:V}:yE (a::b::c::d::e::f::v::r) 6 x=a::b::c::d::e::f::x::r:=rfl
theorem pk :tz (a::b::c::d::e::f::g::v::r) 7=v:=rfl
theorem pA {x:V}:yE (a::b::c::d::e::f::g::v::r) 7 x=a::b::c::d::e::f::g::x::r:=rfl
theorem pm :tz (a::b::c::d::e::f::g::h::r) (n+8)=tz r n:=rfl
theorem pB {x:V}:yE (a::b::c::d::e::f::g::h::r) (n+8) x=a::b::c::d::e::f::g::h::yE r n x:=rfl
end
section
variable {call:Nat→List V→Option V}{Q:Ex→St→Prop}{ks:List Fr}{σ τ:St}
variable (call Q ks)in
def wo (ops:List AOper)(σ:St):Prop:=wp call Q ks (match am call ops σ with
 |some σ'=>some (.normal,σ')
 |none=>none)
variable (call Q ks)in
def nY (r:List AOper)(d:Option Nat)(σ:St):AOp→Prop
 | .pick c a b=>match isBool (c.ev σ)with
  |some t=>if _:t=true then wo call Q ks r ⟨put σ.t d (a.ev σ),σ.h⟩else wo call Q ks r ⟨put σ.t d (b.ev σ),σ.h⟩
  |none=>False
 |op=>match bo call σ op with
  |some v=>wo call Q ks r ⟨put σ.t d v,σ.h⟩
  |none=>match cj call σ op with
   |some x=>wo call Q ks r ⟨put σ.t d x.1,x.2⟩
   |none=>False
theorem aT {ops:List AOper}:wp call Q ks (aB call aG (.region ops) σ)=wo call Q ks ops σ:=G2
theorem cJ :wo call Q ks [] σ=wp call Q ks (some (.normal,σ)):=rfl
theorem Vm {o:AOper}{r:List AOper}:wo call Q ks (o::r) σ=match aK call o σ with
 |some σ'=>wo call Q ks r σ'
 |none=>False:=by
 unfold wo
 simp only[am]
 cases aK call o σ with
 |some x=>rfl
 |none=>simp only[mQ]
theorem So {r:List AOper}{d:Option Nat}{op:AOp}:nY call Q ks r d σ op=match(match bo call σ op with
 |some v=>some (⟨put σ.t d v,σ.h⟩:St)
 |none=>match cj call σ op with
  |some (v,h)=>some ⟨put σ.t d v,h⟩
  |none=>none)with
 |some σ'=>wo call Q ks r σ'
 |none=>False:=by
 have key:∀(f:Option V)(e:Option (V×List AObj)),(match f with
  |some v=>wo call Q ks r ⟨put σ.t d v,σ.h⟩
  |none=>match e with
   |some x=>wo call Q ks r ⟨put σ.t d x.1,x.2⟩
   |none=>False)=match(match f with
  |some v=>some (⟨put σ.t d v,σ.h⟩:St)
  |none=>match e with
   |some (v,h)=>some ⟨put σ.t d v,h⟩
   |none=>none)with
  |some σ'=>wo call Q ks r σ'
  |none=>False:=fun f e=>by
  cases f with
  |some v=>rfl
  |none=>cases e<;>rfl
 unfold nY
 split
 ·simp only[bo,cj]
  cases isBool (Opd.ev σ _)with
  |none=>rfl
  |some t=>cases t<;>simp
 ·exact key _ _
theorem bP {r:List AOper}{d:Option Nat}{op:AOp}:wo call Q ks (⟨d,op,none⟩::r) σ=nY call Q ks r d σ op:=by
 rw[Vm,So];rfl
theorem bh {r:List AOper}{d:Option Nat}{op:AOp}{g:Nat}{w:Bool}:wo call Q ks (⟨d,op,some (g,w)⟩::r) σ=match tz σ.t g with
 | .one (.pv (.bool b))=>if _:b=w then nY call Q ks r d σ op else wo call Q ks r ⟨put σ.t d (.tup []),σ.h⟩
 | .tup []=>wo call Q ks r ⟨put σ.t d (.tup []),σ.h⟩
 |_=>False:=by
 rw[Vm,←yB]
 unfold aK
 simp only[aW]
 cases σ.t.getD g (.tup [])with
 |one l=>
  cases l with
  |pv p=>
   cases p with
   |bool b=>
    have e:=So (call:=call) (Q:=Q) (ks:=ks) (σ:=σ) (r:=r) (d:=d) (op:=op)
    cases b<;>cases w<;>simp only[e]<;>simp<;>rfl
   |_=>rfl
  |_=>rfl
 |agg ls=>rfl
 |tup xs=>cases xs<;>rfl
theorem bQ {c:Opd}{a b:ACode}:wp call Q ks (aB call aG (.cond c a b) σ)=match isBool (c.ev σ)with
 |some t=>if _:t=true then wp call Q ks (aB call aG a σ)else wp call Q ks (aB call aG b σ)
 |none=>False:=by
 rw[wp_cond]
 cases isBool (c.ev σ)with
 |none=>simp only[mQ]
 |some t=>cases t<;>simp
theorem Oy {P:Ex→St→Prop}{x:Option (Ex×St)}(h:wp call P [] x):∃e τ,x=some (e,τ)∧P e τ:=by
 cases x with
 |none=>rw[mQ]at h;exact h.elim
 |some x=>exact⟨_,_,rfl,h⟩
theorem Qr (hc:qu call)(hQ:Cl Q){c:ACode}(S:Nat→St)(n:Nat)(p:Nat→Bool)(hz:(c.zOk&&kz ks)=true)(kn:Kn (S 0) σ)
 (st:∀k,k<n→(∀j,j<k→p j=false)→wp call (fun e τ=>(p k=true→wp call Q (.sq tn::ks) (some (e,τ)))∧(p k=false→e= .normal∧Kn (S (k+1)) τ)) [] (aB call aG c (S k)))
 (en:(∀k,k<n→p k=false)→wp call Q (.sq tn::ks) (aB call aG c (S n))):wp call Q ks (aB call aG (.loop c) σ):=by
 have key:∀m k,k+m=n→(∀j,j<k→p j=false)→wp call Q ks (aB call aG (.loop c) (S k)):=by
  intro m
  induction m with
  |zero=>
   intro k hk hp
   obtain rfl:k=n:=by omega
   exact r8 (en hp)
  |succ m ih=>
   intro k hk hp
   obtain⟨e,τ,h1,h2,h3⟩:=Oy (st k (by omega) hp)
   cases hpk:p k with
   |true=>exact r8 (by rw[h1];exact h2 hpk)
   |false=>
    obtain⟨rfl,h4⟩:=h3 hpk
    refine Aa hc hQ hz (by rw[h1,ca];exact⟨rfl,h4⟩) (ih (k+1) (by omega) fun j hj=> ?_)
    by_cases q:j=k
    ·rw[q];exact hpk
    ·exact hp j (by omega)
 have hz':kz (.sq (.loop c)::ks)=true:=by simpa only[kz,ACode.zOk]using hz
 exact I7 hc hQ (S 0) hz' kn (key n 0 (by omega) (fun j h=>by omega))
def mY (n:Nat)(p:Nat→Bool):Bool:=(List.range n).any p
theorem QI {n k:Nat}{p:Nat→Bool}(hk:k<n)(h:p k=true):mY n p=true:=by
 unfold mY;rw[List.any_eq_true];exact⟨k,by simpa using hk,h⟩
theorem Cw {n:Nat}{p:Nat→Bool}(h:∀k,k<n→p k=false):mY n p=false:=by
 unfold mY;rw[List.any_eq_false];intro k hk;simp[h k (by simpa using hk)]
theorem yH {n:Nat}{p:Nat→Bool}(h:mY n p=false){k:Nat}(hk:k<n):p k=false:=by
 unfold mY at h;rw[List.any_eq_false]at h;exact Bool.eq_false_iff.2 (h k (by simpa using hk))
theorem bm (hc:qu call)(hQ:Cl Q){c:ACode}{t:List V}{h:List AObj}(m:List Mk)(U:Nat→List (Nat×V))(n:Nat)(p:Nat→Bool)(hz:(c.zOk&&kz ks)=true)(kn:Kn ⟨mV (gW m t) (U 0),h⟩ ⟨t,h⟩)
 (st:∀k,k<n→(∀j,j<k→p j=false)→wp call (fun e τ=>if _:p k=true then mY n p=true→wp call Q (.sq tn::ks) (some (e,τ))else e= .normal∧Kn ⟨mV (gW m t) (U (k+1)),h⟩ τ) [] (aB call aG c ⟨mV (gW m t) (U k),h⟩))
 (en:(∀k,k<n→p k=false)→mY n p=false→wp call Q (.sq tn::ks) (aB call aG c ⟨mV (gW m t) (U n),h⟩)):wp call Q ks (aB call aG (.loop c) ⟨t,h⟩):=by
 refine Qr hc hQ (fun k=>⟨mV (gW m t) (U k),h⟩) n p hz kn (fun k hk hp=> ?_) fun hp=>en hp (Cw hp)
 obtain⟨e,τ,h1,h2⟩:=Oy (st k hk hp)
 rw[h1,ca]
 split at h2
 ·rename_i q;exact⟨fun _=>h2 (QI hk q),fun q'=>by rw[q]at q';cases q'⟩
 ·rename_i q;exact⟨fun q'=>absurd q' q,fun _=>h2⟩
end
end Gi
