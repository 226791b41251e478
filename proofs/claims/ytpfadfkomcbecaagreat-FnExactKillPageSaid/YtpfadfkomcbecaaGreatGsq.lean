/- Of this proof. -/
import Derived.Test.YtpfadfkomcbecaaGreatGsn
set_option linter.unusedSimpArgs false
set_option linter.unusedVariables false
namespace Gi
open Go
section
variable {f g:List Nat}{h h':List AObj}{σ τ υ:St}{call:Nat→List V→Option V}
theorem NV (k:HRel f h h'){l l' x:L}(r:dj f l l')(e:bq h l=some x):bq h' l'=some x∧l.ren f=some l':=by
 rcases r with rfl|r
 ·cases e
 refine⟨?_,r⟩
 cases l with
 |arr o=>
  obtain⟨o',h1,rfl⟩:=fk r
  obtain⟨ob,ob',h2,h3,h4⟩:=k.get h1
  simp only[bq,h2]at e
  simp only[bq,h3]
  cases ob with
  |arr z es=>rw[aC h4 (by simp) (by simp)];exact e
  |froz z es=>rw[aC h4 (by simp) (by simp)];exact e
  |darr z es=>rw[aC h4 (by simp) (by simp)];exact e
  |_=>cases e
 |pv p=>simp only[L.ren]at r;cases r;exact e
 |nil=>simp only[L.ren]at r;cases r;exact e
 |_=>cases e
theorem vF (k:HRel f h h'):∀{ls ls' xs:List L},aG f ls ls'→aK h ls=some xs→aK h' ls'=some xs∧ez f ls ls'
 |[],[],_,_,e=>⟨e,trivial⟩
 |l::ls,l'::ls',xs,r,e=>by
  simp only[aK]at e⊢
  split at e
  ·rename_i x ys h1 h2
   cases e
   obtain⟨a1,a2⟩:=NV k r.1 h1
   obtain⟨b1,b2⟩:=vF k r.2 h2
   rw[a1,b1]
   exact⟨rfl,a2,b2⟩
  ·cases e
 |[],_::_,_,e,_=>e.elim
 |_::_,[],_,e,_=>e.elim
theorem Pj (k:HRel f h h'){v v':V}{x:Bool×List L}(r:bd f v v')(e:comp h v=some x):comp h' v'=some x∧ez f v.cells v'.cells:=by
 cases v with
 |one l=>
  rcases r with rfl|⟨l',rfl,r⟩
  ·cases e
  simp only[comp]at e⊢
  split at e
  ·rename_i xs h1
   obtain⟨a1,a2⟩:=vF k (show aG f [l] [l']from⟨.inr r,trivial⟩) h1
   rw[a1]
   exact⟨e,a2⟩
  ·cases e
 |agg ls=>
  obtain⟨ls',rfl,r⟩:=r
  simp only[comp]at e⊢
  split at e
  ·rename_i xs h1
   obtain⟨a1,a2⟩:=vF k r h1
   rw[a1]
   exact⟨e,a2⟩
  ·cases e
 |tup xs=>cases e
theorem Ge (k:HRel f h h'):∀{vs vs':List V}{xs:List (Bool×List L)},aN f vs vs'→bN h vs=some xs→bN h' vs'=some xs∧ez f (vs.flatMap V.cells) (vs'.flatMap V.cells)
 |[],[],_,_,e=>⟨e,trivial⟩
 |v::vs,v'::vs',xs,r,e=>by
  simp only[bN]at e⊢
  split at e
  ·rename_i x ys h1 h2
   cases e
   obtain⟨a1,a2⟩:=Pj k r.1 h1
   obtain⟨b1,b2⟩:=Ge k r.2 h2
   rw[a1,b1]
   exact⟨rfl,by simpa only[List.flatMap_cons]using a2.append b2⟩
  ·cases e
 |[],_::_,_,e,_=>e.elim
 |_::_,[],_,e,_=>e.elim
theorem IJ (k:HRel f h h'):∀{ls ls':List L},ez f ls ls'→(∀o',o'∈ai ls'→∃o,o∈ai ls∧f[o]? =some o')∧((ai ls).Nodup→(ai ls').Nodup)
 |[],[],_=>⟨fun o' h=>by simp[ai]at h,fun h=>h⟩
 |l::ls,l'::ls',r=>by
  obtain⟨i1,i2⟩:=IJ k r.2
  have r1:=r.1
  have other:(∀o,l≠ .arr o)→(∀o,l'≠ .arr o)→ai (l::ls)=ai ls∧ai (l'::ls')=ai ls':=fun a b=>by
   constructor
   ·cases l with
    |arr o=>exact absurd rfl (a o)
    |_=>rfl
   ·cases l' with
    |arr o=>exact absurd rfl (b o)
    |_=>rfl
  cases l with
  |arr o=>
   obtain⟨o',h1,rfl⟩:=fk r1
   have ea:ai (.arr o::ls)=o::ai ls:=rfl
   have eb:ai (.arr o'::ls')=o'::ai ls':=rfl
   rw[ea,eb]
   refine⟨fun p hp=> ?_,fun nd=> ?_⟩
   ·rcases List.mem_cons.1 hp with rfl|hp
    ·exact⟨o,List.mem_cons_self,h1⟩
    ·obtain⟨q,h2,h3⟩:=i1 p hp
     exact⟨q,List.mem_cons_of_mem _ h2,h3⟩
   ·obtain⟨n1,n2⟩:=List.nodup_cons.1 nd
    refine List.nodup_cons.2 ⟨fun hp=> ?_,i2 n2⟩
    obtain⟨q,h2,h3⟩:=i1 o' hp
    rw[k.inj h3 h1]at h2
    exact n1 h2
  |ptr o i j=>
   obtain⟨o',_,rfl⟩:=fW r1
   obtain⟨ea,eb⟩:=other (by simp) (by simp)
   rw[ea,eb];exact⟨i1,i2⟩
  |mp o=>
   obtain⟨o',_,rfl⟩:=pm r1
   obtain⟨ea,eb⟩:=other (by simp) (by simp)
   rw[ea,eb];exact⟨i1,i2⟩
  |sub o c=>
   obtain⟨o',_,rfl⟩:=n5 r1
   obtain⟨ea,eb⟩:=other (by simp) (by simp)
   rw[ea,eb];exact⟨i1,i2⟩
  |_=>
   simp only[L.ren]at r1
   cases r1
   obtain⟨ea,eb⟩:=other (by simp) (by simp)
   rw[ea,eb];exact⟨i1,i2⟩
 |[],_::_,e=>e.elim
 |_::_,[],e=>e.elim
theorem uE (s:Cln f σ τ):∀{rs:List ARes}{vs:List V},au σ rs=some vs→∃vs',au τ rs=some vs'∧aN f vs vs'
 |[],vs,e=>by simp only[au]at e⊢;cases e;exact⟨_,rfl,trivial⟩
 |r::rs,vs,e=>by
  simp only[au]at e⊢
  split at e
  ·rename_i x xs h1 h2
   cases e
   obtain⟨xs',h3,h4⟩:=uE s h2
   have:∃x',bE τ r=some x'∧bd f x x':=by
    cases r with
    |tmp t=>simp only[bE]at h1⊢;cases h1;exact⟨_,rfl,s.tmps.getD t⟩
    |cell t n=>exact Ml (call:=fun _ _=>none) (op:= .load true n (.tmp t)) s (fun _ _ _ h=>by cases h) rfl h1
   obtain⟨x',h5,h6⟩:=this
   rw[h5,h3]
   exact⟨_,rfl,h6,h4⟩
  ·cases e
theorem NP (k:Kn σ τ){rs:List ARes}{r:V}(e:aV σ rs=some r):aV τ rs=some r:=by
 obtain⟨f,s⟩:=k
 unfold aV at e⊢
 cases hr:au σ rs with
 |none=>simp[hr]at e
 |some vs=>
  obtain⟨vs',h1,h2⟩:=uE s hr
  rw[h1]
  simp only[hr]at e⊢
  split at e
  ·rename_i nd
   cases hcs:bN σ.h vs with
   |none=>simp[hcs]at e
   |some xs=>
    obtain⟨a1,a2⟩:=Ge s.heap h2 hcs
    rw[if_pos ((IJ s.heap a2).2 nd),a1]
    rw[hcs]at e
    exact e
  ·cases e
def rW (g f:List Nat):List Nat:=f.map fun o=>g.getD o 0
theorem Gy (k:HRel f h h')(hg:g.length=h'.length){l l' l'':L}(e1:l.ren f=some l')(e2:l'.ren g=some l''):l.ren (rW g f)=some l'':=by
 have key:∀{o o' o'':Nat},f[o]? =some o'→g[o']? =some o''→(rW g f)[o]? =some o'':=fun{o o' o''}a b=>by
  simp only[rW,List.getElem?_map,a,Option.map_some,List.getD,b,Option.getD_some]
 cases l with
 |ptr o i j=>
  obtain⟨o',a,rfl⟩:=fW e1
  obtain⟨o'',b,rfl⟩:=fW e2
  simp only[L.ren,key a b]
 |arr o=>
  obtain⟨o',a,rfl⟩:=fk e1
  obtain⟨o'',b,rfl⟩:=fk e2
  simp only[L.ren,key a b]
 |mp o=>
  obtain⟨o',a,rfl⟩:=pm e1
  obtain⟨o'',b,rfl⟩:=pm e2
  simp only[L.ren,key a b]
 |sub o c=>
  obtain⟨o',a,rfl⟩:=n5 e1
  obtain⟨o'',b,rfl⟩:=n5 e2
  simp only[L.ren,key a b]
 |_=>
  simp only[L.ren]at e1
  cases e1
  exact e2
theorem JQ {l:L}(e:l.ren f=some .junk):l= .junk:=by
 cases l with
 |ptr o i j=>obtain⟨o',a,h⟩:=fW e;cases h
 |arr o=>obtain⟨o',a,h⟩:=fk e;cases h
 |mp o=>obtain⟨o',a,h⟩:=pm e;cases h
 |sub o c=>obtain⟨o',a,h⟩:=n5 e;cases h
 |junk=>rfl
 |_=>simp only[L.ren]at e;cases e
theorem dj.trans (k:HRel f h h')(hg:g.length=h'.length){l l' l'':L}(e1:dj f l l')(e2:dj g l' l''):dj (rW g f) l l'':=by
 rcases e1 with e1|e1
 ·exact .inl e1
 rcases e2 with rfl|e2
 ·exact .inl (JQ e1)
 ·exact .inr (Gy k hg e1 e2)
theorem aG.trans (k:HRel f h h')(hg:g.length=h'.length):∀{a b c:List L},aG f a b→aG g b c→aG (rW g f) a c
 |[],[],[],_,_=>trivial
 |_::_,_::_,_::_,e1,e2=>⟨e1.1.trans k hg e2.1,aG.trans k hg e1.2 e2.2⟩
 |[],_::_,_,e,_=>e.elim
 |_::_,[],_,e,_=>e.elim
 |_,[],_::_,_,e=>e.elim
 |_,_::_,[],_,e=>e.elim
theorem bK.trans (k:HRel f h h')(hg:g.length=h'.length):∀{a b c:List (Bool×List L)},bK f a b→bK g b c→bK (rW g f) a c
 |[],[],[],_,_=>trivial
 |_::_,_::_,_::_,e1,e2=>⟨e1.1.trans e2.1,e1.2.1.trans k hg e2.2.1,bK.trans k hg e1.2.2 e2.2.2⟩
 |[],_::_,_,e,_=>e.elim
 |_::_,[],_,e,_=>e.elim
 |_,[],_::_,_,e=>e.elim
 |_,_::_,[],_,e=>e.elim
theorem bd.trans (k:HRel f h h')(hg:g.length=h'.length){a b c:V}(e1:bd f a b)(e2:bd g b c):bd (rW g f) a c:=by
 cases a with
 |one l=>
  rcases e1 with e1|⟨l',rfl,e1⟩
  ·exact .inl e1
  rcases e2 with rfl|⟨l'',rfl,e2⟩
  ·exact .inl (JQ e1)
  ·exact .inr ⟨l'',rfl,Gy k hg e1 e2⟩
 |agg ls=>
  obtain⟨ls',rfl,e1⟩:=e1
  obtain⟨ls'',rfl,e2⟩:=e2
  exact⟨_,rfl,e1.trans k hg e2⟩
 |tup xs=>
  obtain⟨ls',rfl,e1⟩:=e1
  obtain⟨ls'',rfl,e2⟩:=e2
  exact⟨_,rfl,e1.trans k hg e2⟩
theorem aN.trans (k:HRel f h h')(hg:g.length=h'.length):∀{a b c:List V},aN f a b→aN g b c→aN (rW g f) a c
 |[],[],[],_,_=>trivial
 |_::_,_::_,_::_,e1,e2=>⟨e1.1.trans k hg e2.1,aN.trans k hg e1.2 e2.2⟩
 |[],_::_,_,e,_=>e.elim
 |_::_,[],_,e,_=>e.elim
 |_,[],_::_,_,e=>e.elim
 |_,_::_,[],_,e=>e.elim
theorem Kn.trans (a:Kn σ τ)(b:Kn τ υ):Kn σ υ:=by
 obtain⟨f,a⟩:=a
 obtain⟨g,b⟩:=b
 have hg:=b.heap.len
 have at2:∀{i:Nat}{o'':Nat},(rW g f)[i]? =some o''→∃o',f[i]? =some o'∧g[o']? =some o'':=fun{i o''}e=>by
  simp only[rW,List.getElem?_map,Option.map_eq_some_iff]at e
  obtain⟨o',h1,h2⟩:=e
  refine⟨o',h1,?_⟩
  have:o'<g.length:=by rw[hg];exact a.heap.lt h1
  simp only[List.getD,List.getElem?_eq_getElem this,Option.getD_some]at h2
  rw[List.getElem?_eq_getElem this,h2]
 refine⟨rW g f,⟨?_,by simp[rW,a.heap.len],fun i o ob e1 e2=> ?_⟩,a.tmps.trans a.heap hg b.tmps⟩
 ·refine List.pairwise_iff_getElem.2 fun i j hi hj hij e=> ?_
  obtain⟨o1,h1,h2⟩:=at2 (List.getElem?_eq_getElem hi)
  obtain⟨o2,h3,h4⟩:=at2 (List.getElem?_eq_getElem hj)
  rw[e]at h2
  have:=b.heap.inj h2 h4
  subst this
  exact absurd (a.heap.inj h1 h3) (by omega)
 ·obtain⟨o',h1,h2⟩:=at2 e1
  obtain⟨ob',h3,h4⟩:=a.heap.obs i o' ob h1 e2
  obtain⟨ob'',h5,h6⟩:=b.heap.obs o' o ob' h2 h3
  refine⟨ob'',h5,?_⟩
  cases ob with
  |box cs=>
   obtain⟨cs',rfl,h4⟩:=h4
   obtain⟨cs'',rfl,h6⟩:=h6
   exact⟨_,rfl,h4.trans a.heap hg h6⟩
  |dead=>trivial
  |arr z es=>rw[aC h4 (by simp) (by simp)]at h6;exact h6
  |froz z es=>rw[aC h4 (by simp) (by simp)]at h6;exact h6
  |darr z es=>rw[aC h4 (by simp) (by simp)]at h6;exact h6
  |zarr z es=>rw[aC h4 (by simp) (by simp)]at h6;exact h6
  |fbox ps=>rw[aC h4 (by simp) (by simp)]at h6;exact h6
  |imap kvs=>rw[aC h4 (by simp) (by simp)]at h6;exact h6
  |tbox n=>rw[aC h4 (by simp) (by simp)]at h6;exact h6
  |res=>rw[aC h4 (by simp) (by simp)]at h6;exact h6
theorem Kn.of (f:List Nat){t t':List V}{h h':List AObj}(nd:f.Nodup)(ho:bg f h' f h)(ht:aN f t t'):Kn ⟨t,h⟩ ⟨t',h'⟩:=⟨f,Cln.of f nd ho ht⟩
theorem Kn.r (f:List Nat){t t':List V}{h h':List AObj}(ho:bg f h' f h:=by simp[aN,bd,aG,dj,bK,bg,bQ,L.ren])(ht:aN f t t':=by simp[aN,bd,aG,dj,bK,bg,bQ,L.ren])(nd:f.Nodup:=by decide):Kn ⟨t,h⟩ ⟨t',h'⟩:=Kn.of f nd ho ht
end
inductive Fr where
 |sq (c:ACode)
 |bk (id:Nat)
def kz :List Fr→Bool
 |[]=>true
 | .sq c::ks=>c.zOk&&kz ks
 | .bk _::ks=>kz ks
section
variable (call:Nat→List V→Option V)
def wp (Q:Ex→St→Prop):List Fr→Option (Ex×St)→Prop
 |[],some (e,σ)=>Q e σ
 | .sq c::ks,some (.normal,σ)=>wp Q ks (aj call av c σ)
 | .sq _::ks,some (e,σ)=>wp Q ks (some (e,σ))
 | .bk id::ks,some (.exit i,σ)=>if i=id then wp Q ks (some (.normal,σ))else wp Q ks (some (.exit i,σ))
 | .bk _::ks,some (e,σ)=>wp Q ks (some (e,σ))
 |_,none=>False
end
section
variable {call:Nat→List V→Option V}{Q:Ex→St→Prop}{ks:List Fr}{σ τ:St}
theorem cG {e:Ex}:wp call Q [] (some (e,σ))=Q e σ:=by simp only[wp]
theorem cE {c:ACode}:wp call Q (.sq c::ks) (some (.normal,σ))=wp call Q ks (aj call av c σ):=by simp only[wp]
theorem cP {c:ACode}:wp call Q (.sq c::ks) (some (.ret,σ))=wp call Q ks (some (.ret,σ)):=by simp only[wp]
theorem cH {c:ACode}{i:Nat}:wp call Q (.sq c::ks) (some (.exit i,σ))=wp call Q ks (some (.exit i,σ)):=by simp only[wp]
theorem dd {id:Nat}:wp call Q (.bk id::ks) (some (.normal,σ))=wp call Q ks (some (.normal,σ)):=by simp only[wp]
theorem de {id:Nat}:wp call Q (.bk id::ks) (some (.ret,σ))=wp call Q ks (some (.ret,σ)):=by simp only[wp]
theorem db {id i:Nat}:wp call Q (.bk id::ks) (some (.exit i,σ))=if i=id then wp call Q ks (some (.normal,σ))else wp call Q ks (some (.exit i,σ)):=by simp only[wp]
theorem mB :wp call Q ks none=False:=by
 cases ks with
 |nil=>simp only[wp]
 |cons k ks=>cases k<;>simp only[wp]
theorem wp_seq {a b:ACode}:wp call Q ks (aj call av (.seq a b) σ)=wp call Q (.sq b::ks) (aj call av a σ):=by
 simp only[aj]
 cases aj call av a σ with
 |none=>simp only[mB]
 |some x=>
  obtain⟨e,σ'⟩:=x
  cases e<;>simp only[cE,cP,cH]
theorem wp_block {id:Nat}{c:ACode}:wp call Q ks (aj call av (.block id c) σ)=wp call Q (.bk id::ks) (aj call av c σ):=by
 simp only[aj]
 cases aj call av c σ with
 |none=>simp only[mB]
 |some x=>
  obtain⟨e,σ'⟩:=x
  cases e with
  |exit i=>
   simp only[db]
   split<;>rfl
  |_=>simp only[dd,de]
theorem ov {ops:List AOper}:wp call Q ks (aj call av (.region ops) σ)=wp call Q ks (match ah call ops σ with
 |some σ'=>some (.normal,σ')
 |none=>none):=by simp only[aj];rfl
theorem wp_cond {c:Opd}{a b:ACode}:wp call Q ks (aj call av (.cond c a b) σ)=wp call Q ks (match isBool (c.ev σ)with
 |some t=>if t then aj call av a σ else aj call av b σ
 |none=>none):=by simp only[aj];rfl
theorem wp_skip :wp call Q ks (aj call av .skip σ)=wp call Q ks (some (.normal,σ)):=by simp only[aj]
theorem wp_exit {id:Nat}:wp call Q ks (aj call av (.exit id) σ)=wp call Q ks (some (.exit id,σ)):=by simp only[aj]
theorem wp_ret :wp call Q ks (aj call av .ret σ)=wp call Q ks (some (.ret,σ)):=by simp only[aj]
def Cl (Q:Ex→St→Prop):Prop:=∀e σ τ,Kn σ τ→Q e σ→Q e τ
theorem KC (hc:lq call)(hQ:Cl Q):∀{ks:List Fr},kz ks=true→∀{e:Ex}{σ τ:St},Kn σ τ→wp call Q ks (some (e,σ))→wp call Q ks (some (e,τ)):=by
 intro ks
 induction ks with
 |nil=>intro _ e σ τ k h;simp only[cG]at h⊢;exact hQ e σ τ k h
 |cons fr ks ih=>
  intro hz e σ τ k h
  cases fr with
  |sq c=>
   simp only[kz,Bool.and_eq_true]at hz
   cases e with
   |normal=>
    simp only[cE]at h⊢
    cases hx:aj call av c σ with
    |none=>rw[hx,mB]at h;exact h.elim
    |some x=>
     obtain⟨e,σ'⟩:=x
     obtain⟨τ',h1,k1⟩:=Mh hc hz.1 k hx
     rw[hx]at h
     rw[h1]
     exact ih hz.2 k1 h
   |exit i=>simp only[cH]at h⊢;exact ih hz.2 k h
   |ret=>simp only[cP]at h⊢;exact ih hz.2 k h
  |bk id=>
   simp only[kz]at hz
   cases e with
   |normal=>simp only[dd]at h⊢;exact ih hz k h
   |ret=>simp only[de]at h⊢;exact ih hz k h
   |exit i=>
    simp only[db]at h⊢
    split at h
    ·rename_i hi;rw[if_pos hi];exact ih hz k h
    ·rename_i hi;rw[if_neg hi];exact ih hz k h
theorem Iu (hc:lq call)(hQ:Cl Q){c:ACode}(σ0:St)(hz:kz (.sq c::ks)=true)(k:Kn σ0 σ)(h:wp call Q ks (aj call av c σ0)):wp call Q ks (aj call av c σ):=by
 have:=KC (e:= .normal) hc hQ hz k (by rw[cE];exact h)
 rwa[cE]at this
variable (call)in
def pX (c:ACode)(σ:St)(e:Ex)(σe:St):Prop:=∃τ,av (aj call av c) σ=some (e,τ)∧Kn σe τ
variable (call)in
def F8 (c:ACode)(σ σ':St):Prop:=∃τ,aj call av c σ=some (.normal,τ)∧Kn σ' τ
theorem Mz (hc:lq call){c:ACode}(hz:c.zOk=true){e:Ex}{σ':St}(k:Kn σ τ)(h:av (aj call av c) σ=some (e,σ')):∃τ',av (aj call av c) τ=some (e,τ')∧Kn σ' τ':=by
 have:=Mh (c:= .loop c) hc hz k (by simp only[aj];exact h)
 simpa only[aj]using this
theorem S6 (hc:lq call)(hQ:Cl Q){c:ACode}{σ0 σe:St}{e:Ex}(hz:(c.zOk&&kz ks)=true)(E:pX call c σ0 e σe)(k:Kn σ0 σ)(h:wp call Q ks (some (e,σe))):wp call Q ks (aj call av (.loop c) σ):=by
 simp only[Bool.and_eq_true]at hz
 obtain⟨τ,h1,k1⟩:=E
 obtain⟨τ',h2,k2⟩:=Mz hc hz.1 k h1
 simp only[aj,h2]
 exact KC hc hQ hz.2 (k1.trans k2) h
theorem pX.step (hc:lq call){c:ACode}(hz:c.zOk=true){σ' σe:St}{e:Ex}(s:F8 call c σ σ')(E:pX call c σ' e σe):pX call c σ e σe:=by
 obtain⟨τ,h1,k1⟩:=s
 obtain⟨τ2,h2,k2⟩:=E
 obtain⟨τ3,h3,k3⟩:=Mz hc hz k1 h2
 exact⟨τ3,by rw[fH h1];exact h3,k2.trans k3⟩
theorem EP {e:Ex}{σe:St}{x:Option (Ex×St)}(h:wp call (fun e' τ=>e'=e∧Kn σe τ) [] x):∃τ,x=some (e,τ)∧Kn σe τ:=by
 cases x with
 |none=>rw[mB]at h;exact h.elim
 |some x=>
  obtain⟨e',τ⟩:=x
  rw[cG]at h
  obtain⟨rfl,h⟩:=h
  exact⟨τ,rfl,h⟩
theorem F8.of {c:ACode}{σ':St}(h:wp call (fun e' τ=>e'= .normal∧Kn σ' τ) [] (aj call av c σ)):F8 call c σ σ':=EP h
theorem pX.stop {c:ACode}{e:Ex}{σe:St}(he:e≠ .normal)(h:wp call (fun e' τ=>e'=e∧Kn σe τ) [] (aj call av c σ)):pX call c σ e σe:=by
 obtain⟨τ,h1,k1⟩:=EP h
 exact⟨τ,gC h1 he,k1⟩
theorem Cl.kn {e:Ex}{σe:St}:Cl (fun e' τ=>e'=e∧Kn σe τ):=fun _ _ _ k h=>⟨h.1,h.2.trans k⟩
theorem RH (hc:lq call){c:ACode}(hz:c.zOk=true){S:Nat→St}{n:Nat}{e:Ex}{σe:St}(st:∀k,k<n→F8 call c (S k) (S (k+1)))(E:pX call c (S n) e σe):pX call c (S 0) e σe:=by
 have key:∀m k,k+m=n→pX call c (S k) e σe:=by
  intro m
  induction m with
  |zero=>intro k hk;have:k=n:=by omega
         subst this;exact E
  |succ m ih=>intro k hk;exact(st k (by omega))|>.elim fun τ h=>pX.step hc hz ⟨τ,h⟩ (ih (k+1) (by omega))
 exact key n 0 (by omega)
theorem Nz (hc:lq call){c:ACode}(hz:c.zOk=true){S R:Nat→St}{n:Nat}{e er:Ex}{σe:St}(p:Nat→Bool)(st:∀k,k<n→p k=false→F8 call c (S k) (S (k+1)))(le:∀k,k<n→p k=true→pX call c (S k) er (R k))(E:pX call c (S n) e σe):
 ((∀k,k<n→p k=false)∧pX call c (S 0) e σe)∨∃k,k<n∧p k=true∧(∀j,j<k→p j=false)∧pX call c (S 0) er (R k):=by
 have key:∀m k,k+m=n→((∀j,k≤j→j<n→p j=false)∧pX call c (S k) e σe)∨∃j,k≤j∧j<n∧p j=true∧(∀i,k≤i→i<j→p i=false)∧pX call c (S k) er (R j):=by
  intro m
  induction m with
  |zero=>
   intro k hk
   have:k=n:=by omega
   subst this
   exact .inl ⟨fun j h1 h2=>by omega,E⟩
  |succ m ih=>
   intro k hk
   cases hp:p k with
   |true=>exact .inr ⟨k,Nat.le_refl _,by omega,hp,fun i h1 h2=>by omega,le k (by omega) hp⟩
   |false=>
    have s:=st k (by omega) hp
    rcases ih (k+1) (by omega)with⟨h1,h2⟩|⟨j,h1,h2,h3,h4,h5⟩
    ·refine .inl ⟨fun j h3 h4=> ?_,pX.step hc hz s h2⟩
     by_cases q:j=k
     ·subst q;exact hp
     ·exact h1 j (by omega) h4
    ·refine .inr ⟨j,by omega,h2,h3,fun i h6 h7=> ?_,pX.step hc hz s h5⟩
     by_cases q:i=k
     ·subst q;exact hp
     ·exact h4 i (by omega) h7
 rcases key n 0 (by omega)with⟨h1,h2⟩|⟨j,h1,h2,h3,h4,h5⟩
 ·exact .inl ⟨fun k hk=>h1 k (by omega) hk,h2⟩
 ·exact .inr ⟨j,h2,h3,fun i hi=>h4 i (by omega) hi,h5⟩
theorem Ss (hc:lq call){c:ACode}(hz:c.zOk=true){α:Type}{rows:List α}{p:α→Bool}{S:Nat→St}{R σe:St}{e er:Ex}(st:∀k(hk:k<rows.length),p rows[k]=false→F8 call c (S k) (S (k+1)))(le:∀k(hk:k<rows.length),p rows[k]=true→pX call c (S k) er R)(E:pX call c (S rows.length) e σe):
 pX call c (S 0) (cond (rows.any p) er e) (cond (rows.any p) R σe):=by
 have at':∀k(hk:k<rows.length),(match rows[k]? with|some r=>p r|none=>false)=p rows[k]:=fun k hk=>by simp[hk]
 rcases Nz hc hz (R:=fun _=>R) (fun k=>match rows[k]? with|some r=>p r|none=>false) (fun k hk h=>st k hk (by rw[←at' k hk];exact h)) (fun k hk h=>le k hk (by rw[←at' k hk];exact h)) E with⟨h1,h2⟩|⟨k,h1,h2,_,h3⟩
 ·have:rows.any p=false:=by
   rw[List.any_eq_false]
   intro x hx
   obtain⟨k,hk,rfl⟩:=List.mem_iff_getElem.1 hx
   have:=h1 k hk
   rw[at' k hk]at this
   simp[this]
  rw[this];exact h2
 ·have:rows.any p=true:=by
   rw[List.any_eq_true]
   exact⟨rows[k],List.getElem_mem h1,by rw[←at' k h1];exact h2⟩
  rw[this];exact h3
end
section
variable {Φ:Nat→Option AFn}{ext:Nat→List V→Option V}
def R9 (rs:List ARes)(r:V)(e:Ex)(σ:St):Prop:=(e= .normal∨e= .ret)∧aV σ rs=some r
theorem Cl.fin {fn:List ARes}{r:V}:Cl (R9 fn r):=fun _ _ _ k h=>⟨h.1,NP k h.2⟩
theorem cj {fn:List ARes}{r:V}{σ:St}:R9 fn r .ret σ=(aV σ fn=some r):=by simp[R9]
theorem aU {fn:List ARes}{r:V}{σ:St}:R9 fn r .normal σ=(aV σ fn=some r):=by simp[R9]
theorem ae {k:Nat}{fn:AFn}{xz:List V}{r:V}(hk:Φ k=some fn)(h:wp (ag Φ ext) (R9 fn.results r) [] (aj (ag Φ ext) av fn.body (start fn xz))):ag Φ ext k xz=some r:=by
 refine fQ hk ?_
 unfold ft
 cases hx:aj (ag Φ ext) av fn.body (start fn xz)with
 |none=>rw[hx,mB]at h;exact h.elim
 |some x=>
  obtain⟨e,σ⟩:=x
  rw[hx,cG]at h
  obtain⟨h1|h1,h2⟩:=h<;>subst h1<;>exact h2
theorem qi {σ:St}{rs:List ARes}{r:V}(e:aV σ rs=some r):r.clean=true:=by
 unfold aV at e
 split at e
 ·cases e
 ·rename_i vs h1
  split at e
  ·cases hcs:bN σ.h vs with
   |none=>simp[hcs]at e
   |some xs=>
    have hc:=(qY vs xs [] hcs).1
    rw[hcs]at e
    split at e
    ·rename_i ls h2
     cases h2;cases e
     simpa[V.clean]using hc
    ·rename_i l h2
     cases h2;cases e
     simpa[V.clean]using hc
    ·rename_i ys h2 h3 h4
     cases h4
     split at e
     ·cases e
     ·cases e
      simpa[V.clean]using hc
    ·cases e
  ·cases e
theorem xI :∀{h:List AObj}{os:List (Bool×List L)},gy h=some os→(os.all fun x=>x.2.all L.clean)=true
 |[],os,e=>by simp only[gy]at e;cases e;rfl
 |ob::h,os,e=>by
  cases ob with
  |zarr z es=>
   simp only[gy]at e
   split at e
   ·rename_i xs h1
    cases e
    simp[xI h1,L.clean]
   ·cases e
  |_=>simp[gy]at e
theorem Dv {m:Nat}{fn:AFn}{σ:St}{r:V}(e:FB m fn σ=some r):r.clean=true:=by
 unfold FB at e
 split at e
 ·rename_i l os h1 h2
  split at e
  ·rename_i hl
   cases e
   have hc:=qi h1
   simp only[V.clean,List.all_cons,List.all_nil,Bool.and_true,Bool.and_eq_true]at hc⊢
   exact⟨hc,xI h2⟩
  ·cases e
 ·cases e
theorem LW (he:lq ext):lq (ag Φ ext):=by
 intro k xz r h
 obtain⟨n,hn⟩:=iG.1 h
 cases n with
 |zero=>simp[run]at hn
 |succ n=>
  simp only[run]at hn
  split at hn
  ·split at hn
   ·split at hn
    ·split at hn
     ·unfold uk at hn
      split at hn
      ·exact Dv hn
      ·exact Dv hn
      ·cases hn
     ·cases hn
    ·cases hn
   ·exact he k xz r hn
  ·unfold done at hn
   split at hn
   ·exact qi hn
   ·exact qi hn
   ·cases hn
end
inductive Mk where
 |t
 |f
def cY :List Mk→List V→List V
 | .t::m,v::vs=>v::cY m vs
 | .f::m,_::vs=> .one .junk::cY m vs
 |[],vs=>vs
 |_,[]=>[]
theorem aQ {m:List Mk}{v:V}{vs:List V}:cY (.t::m) (v::vs)=v::cY m vs:=rfl
theorem aO {m:List Mk}{v:V}{vs:List V}:cY (.f::m) (v::vs)= .one .junk::cY m vs:=rfl
theorem aP {vs:List V}:cY [] vs=vs:=rfl
def fw (t:List V):List (Nat×V)→List V
 |[]=>t
 |(i,v)::r=>fw (t.set i v) r
theorem bn {t:List V}:fw t []=t:=rfl
theorem dW {t:List V}{i:Nat}{v:V}{r:List (Nat×V)}:fw t ((i,v)::r)=fw (t.set i v) r:=rfl
def mr :ACode:= .cond .nil .skip .skip
theorem LI {call:Nat→List V→Option V}{σ:St}:aj call av mr σ=none:=rfl
section
variable {call:Nat→List V→Option V}{Q:Ex→St→Prop}{ks:List Fr}{σ τ:St}
theorem Qp {x:Option (Ex×St)}(h:wp call Q (.sq mr::ks) x):∃e τ,x=some (e,τ)∧e≠ .normal∧wp call Q ks (some (e,τ)):=by
 cases x with
 |none=>rw[mB]at h;exact h.elim
 |some x=>
  obtain⟨e,τ⟩:=x
  cases e with
  |normal=>rw[cE,LI,mB]at h;exact h.elim
  |exit i=>rw[cH]at h;exact⟨_,_,rfl,by simp,h⟩
  |ret=>rw[cP]at h;exact⟨_,_,rfl,by simp,h⟩
theorem qH {c:ACode}(h:wp call Q (.sq mr::ks) (aj call av c σ)):wp call Q ks (aj call av (.loop c) σ):=by
 obtain⟨e,τ,h1,h2,h3⟩:=Qp h
 simp only[aj]
 rw[gC h1 h2]
 exact h3
theorem zN (hc:lq call)(hQ:Cl Q){c:ACode}{σ':St}(hz:(c.zOk&&kz ks)=true)(s:wp call (fun e τ=>e= .normal∧Kn σ' τ) [] (aj call av c σ))(h:wp call Q ks (aj call av (.loop c) σ')):wp call Q ks (aj call av (.loop c) σ):=by
 obtain⟨τ,h1,k1⟩:=EP s
 have hz':kz (.sq (.loop c)::ks)=true:=by simpa only[kz,ACode.zOk]using hz
 have:=Iu hc hQ σ' hz' k1 h
 simp only[aj]at this⊢
 rw[fH h1]
 exact this
theorem Iv (hc:lq call)(hQ:Cl Q){c:ACode}(S:Nat→St)(n:Nat)(p:Nat→Bool)(hz:(c.zOk&&kz ks)=true)(kn:Kn (S 0) σ)
 (st:∀k,k<n→p k=false→wp call (fun e τ=>e= .normal∧Kn (S (k+1)) τ) [] (aj call av c (S k)))
 (le:∀k,k<n→p k=true→(∀j,j<k→p j=false)→wp call Q (.sq mr::ks) (aj call av c (S k)))
 (en:(∀k,k<n→p k=false)→wp call Q (.sq mr::ks) (aj call av c (S n))):wp call Q ks (aj call av (.loop c) σ):=by
 have key:∀m k,k+m=n→(∀j,j<k→p j=false)→wp call Q ks (aj call av (.loop c) (S k)):=by
  intro m
  induction m with
  |zero=>
   intro k hk hp
   obtain rfl:k=n:=by omega
   exact qH (en hp)
  |succ m ih=>
   intro k hk hp
   cases hpk:p k with
   |true=>exact qH (le k (by omega) hpk hp)
   |false=>
    refine zN hc hQ hz (st k (by omega) hpk) (ih (k+1) (by omega) fun j hj=> ?_)
    by_cases q:j=k
    ·rw[q];exact hpk
    ·exact hp j (by omega)
 have hz':kz (.sq (.loop c)::ks)=true:=by simpa only[kz,ACode.zOk]using hz
 exact Iu hc hQ (S 0) hz' kn (key n 0 (by omega) (fun j h=>by omega))
theorem KD (hc:lq call)(hQ:Cl Q){c:ACode}{t:List V}{h:List AObj}(m:List Mk)(U:Nat→List (Nat×V))(n:Nat)(p:Nat→Bool)(hz:(c.zOk&&kz ks)=true)(kn:Kn ⟨fw (cY m t) (U 0),h⟩ ⟨t,h⟩)
 (st:∀k,k<n→p k=false→wp call (fun e τ=>e= .normal∧Kn ⟨fw (cY m t) (U (k+1)),h⟩ τ) [] (aj call av c ⟨fw (cY m t) (U k),h⟩))
 (le:∀k,k<n→p k=true→(∀j,j<k→p j=false)→wp call Q (.sq mr::ks) (aj call av c ⟨fw (cY m t) (U k),h⟩))
 (en:(∀k,k<n→p k=false)→wp call Q (.sq mr::ks) (aj call av c ⟨fw (cY m t) (U n),h⟩)):wp call Q ks (aj call av (.loop c) ⟨t,h⟩):=
 Iv hc hQ (fun k=>⟨fw (cY m t) (U k),h⟩) n p hz kn st le en
theorem S0 (hc:lq call)(hQ:Cl Q){c:ACode}{t:List V}{h:List AObj}(m:List Mk)(U:Nat→List (Nat×V))(H:Nat→List AObj)(n:Nat)(p:Nat→Bool)(hz:(c.zOk&&kz ks)=true)(kn:Kn ⟨fw (cY m t) (U 0),H 0⟩ ⟨t,h⟩)
 (st:∀k,k<n→p k=false→wp call (fun e τ=>e= .normal∧Kn ⟨fw (cY m t) (U (k+1)),H (k+1)⟩ τ) [] (aj call av c ⟨fw (cY m t) (U k),H k⟩))
 (le:∀k,k<n→p k=true→(∀j,j<k→p j=false)→wp call Q (.sq mr::ks) (aj call av c ⟨fw (cY m t) (U k),H k⟩))
 (en:(∀k,k<n→p k=false)→wp call Q (.sq mr::ks) (aj call av c ⟨fw (cY m t) (U n),H n⟩)):wp call Q ks (aj call av (.loop c) ⟨t,h⟩):=
 Iv hc hQ (fun k=>⟨fw (cY m t) (U k),H k⟩) n p hz kn st le en
theorem Tv (hc:lq call)(hQ:Cl Q){c:ACode}{t:List V}{h:List AObj}{α:Type}(rows:List α)(p:α→Bool)(m:List Mk)(U:Nat→List (Nat×V))(hz:(c.zOk&&kz ks)=true)(kn:Kn ⟨fw (cY m t) (U 0),h⟩ ⟨t,h⟩)
 (st:∀k(hk:k<rows.length),p rows[k]=false→wp call (fun e τ=>e= .normal∧Kn ⟨fw (cY m t) (U (k+1)),h⟩ τ) [] (aj call av c ⟨fw (cY m t) (U k),h⟩))
 (le:∀k(hk:k<rows.length),p rows[k]=true→rows.any p=true→wp call Q (.sq mr::ks) (aj call av c ⟨fw (cY m t) (U k),h⟩))
 (en:rows.any p=false→wp call Q (.sq mr::ks) (aj call av c ⟨fw (cY m t) (U rows.length),h⟩)):wp call Q ks (aj call av (.loop c) ⟨t,h⟩):=by
 have at':∀k(hk:k<rows.length),(match rows[k]? with|some r=>p r|none=>false)=p rows[k]:=fun k hk=>by simp[hk]
 refine KD hc hQ m U rows.length (fun k=>match rows[k]? with|some r=>p r|none=>false) hz kn (fun k hk hp=>st k hk (by rw[←at' k hk];exact hp)) (fun k hk hp _=> ?_) (fun hp=>en ?_)
 ·have hp':p rows[k]=true:=by rw[←at' k hk];exact hp
  exact le k hk hp' (List.any_eq_true.2 ⟨rows[k],List.getElem_mem hk,hp'⟩)
 ·rw[List.any_eq_false]
  intro x hx
  obtain⟨k,hk,rfl⟩:=List.mem_iff_getElem.1 hx
  have:=hp k hk
  rw[at' k hk]at this
  simp[this]
theorem cy (hc:lq call)(hQ:Cl Q){c:ACode}{t:List V}{h:List AObj}(n:Nat)(m:List Mk)(U:Nat→List (Nat×V))(H:Nat→List AObj)(hz:(c.zOk&&kz ks)=true)(kn:Kn ⟨fw (cY m t) (U 0),H 0⟩ ⟨t,h⟩)
 (st:∀k,k<n→wp call (fun e τ=>e= .normal∧Kn ⟨fw (cY m t) (U (k+1)),H (k+1)⟩ τ) [] (aj call av c ⟨fw (cY m t) (U k),H k⟩))
 (en:wp call Q (.sq mr::ks) (aj call av c ⟨fw (cY m t) (U n),H n⟩)):wp call Q ks (aj call av (.loop c) ⟨t,h⟩):=
 Iv hc hQ (fun k=>⟨fw (cY m t) (U k),H k⟩) n (fun _=>false) hz kn (fun k hk _=>st k hk) (fun k hk hp=>by cases hp) (fun _=>en)
end
section
variable {call:Nat→List V→Option V}{Q:Ex→St→Prop}{ks:List Fr}{σ τ:St}
theorem Er {id:Nat}{σ:St}(h:wp call Q ks (some (.exit id,σ))):wp call Q (.sq mr::ks) (some (.exit id,σ)):=by rw[cH];exact h
theorem yd {c:ACode}:wp call Q ks (aj call av (.loop c) σ)=wp call Q (.sq (.loop c)::ks) (aj call av c σ):=by
 simp only[aj]
 rw[sM]
 cases h:aj call av c σ with
 |none=>simp only[mB]
 |some x=>
  obtain⟨e,σ'⟩:=x
  cases e with
  |normal=>simp only[cE,aj]
  |exit i=>simp only[cH]
  |ret=>simp only[cP]
theorem M2 (hc:lq call)(hQ:Cl Q){c:ACode}{t:List V}{h:List AObj}(n:Nat)(m:List Mk)(U:Nat→List (Nat×V))(H:Nat→List AObj)(id:Nat)(hz:(c.zOk&&kz ks)=true)(kn:Kn ⟨fw (cY m t) (U 0),H 0⟩ ⟨t,h⟩)
 (st:∀k,k<n→wp call (fun e τ=>e= .normal∧Kn ⟨fw (cY m t) (U (k+1)),H (k+1)⟩ τ) [] (aj call av c ⟨fw (cY m t) (U k),H k⟩))
 (en:wp call (fun e τ=>e= .exit id∧Kn ⟨fw (cY m t) (U n),H n⟩ τ) [] (aj call av c ⟨fw (cY m t) (U n),H n⟩))
 (rest:wp call Q ks (some (.exit id,⟨fw (cY m t) (U n),H n⟩))):wp call Q ks (aj call av (.loop c) ⟨t,h⟩):=by
 refine cy hc hQ n m U H hz kn st ?_
 obtain⟨τ,h1,k1⟩:=EP en
 rw[h1]
 refine Er (KC hc hQ ?_ k1 rest)
 simp only[Bool.and_eq_true]at hz
 exact hz.2
theorem SZ (hc:lq call)(hQ:Cl Q){c:ACode}{t:List V}{h:List AObj}(m:List Mk)(U:Nat→List (Nat×V))(n:Nat)(p:Nat→Bool)(id:Nat)(hz:(c.zOk&&kz ks)=true)(kn:Kn ⟨fw (cY m t) (U 0),h⟩ ⟨t,h⟩)
 (st:∀k,k<n→p k=false→wp call (fun e τ=>e= .normal∧Kn ⟨fw (cY m t) (U (k+1)),h⟩ τ) [] (aj call av c ⟨fw (cY m t) (U k),h⟩))
 (le:∀k,k<n→p k=true→(∀j,j<k→p j=false)→wp call Q (.sq mr::ks) (aj call av c ⟨fw (cY m t) (U k),h⟩))
 (en:wp call (fun e τ=>e= .exit id∧Kn ⟨fw (cY m t) (U n),h⟩ τ) [] (aj call av c ⟨fw (cY m t) (U n),h⟩))
 (rest:(∀k,k<n→p k=false)→wp call Q ks (some (.exit id,⟨fw (cY m t) (U n),h⟩))):wp call Q ks (aj call av (.loop c) ⟨t,h⟩):=by
 refine KD hc hQ m U n p hz kn st le (fun hp=> ?_)
 obtain⟨τ,h1,k1⟩:=EP en
 rw[h1]
 refine Er (KC hc hQ ?_ k1 (rest hp))
 simp only[Bool.and_eq_true]at hz
 exact hz.2
end
end Gi
