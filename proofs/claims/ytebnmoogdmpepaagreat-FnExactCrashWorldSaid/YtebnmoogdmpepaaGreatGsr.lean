/- Of this proof. -/
import Derived.Test.YtebnmoogdmpepaaGreatGsn
set_option linter.unusedSimpArgs false
set_option linter.unusedVariables false
namespace Gi
open Go
section
variable {f g:List Nat}{h h':List AObj}{σ τ υ:St}{call:Nat→List V→Option V}
theorem PL (k:HRel f h h'){l l' x:L}(r:dz f l l')(e:bH h l=some x):bH h' l'=some x∧l.ren f=some l':=by
 rcases r with rfl|r
 ·cases e
 refine⟨?_,r⟩
 cases l with
 |arr o=>
  obtain⟨o',h1,rfl⟩:=fQ r
  obtain⟨ob,ob',h2,h3,h4⟩:=k.get h1
  simp only[bH,h2]at e
  simp only[bH,h3]
  cases ob with
  |arr z es=>rw[aI h4 (by simp) (by simp)];exact e
  |froz z es=>rw[aI h4 (by simp) (by simp)];exact e
  |darr z es=>rw[aI h4 (by simp) (by simp)];exact e
  |_=>cases e
 |pv p=>simp only[L.ren]at r;cases r;exact e
 |nil=>simp only[L.ren]at r;cases r;exact e
 |_=>cases e
theorem xc (k:HRel f h h'):∀{ls ls' xs:List L},aF f ls ls'→aJ h ls=some xs→aJ h' ls'=some xs∧eW f ls ls'
 |[],[],_,_,e=>⟨e,trivial⟩
 |l::ls,l'::ls',xs,r,e=>by
  simp only[aJ]at e⊢
  split at e
  ·rename_i x ys h1 h2
   cases e
   obtain⟨a1,a2⟩:=PL k r.1 h1
   obtain⟨b1,b2⟩:=xc k r.2 h2
   rw[a1,b1]
   exact⟨rfl,a2,b2⟩
  ·cases e
 |[],_::_,_,e,_=>e.elim
 |_::_,[],_,e,_=>e.elim
theorem Q2 (k:HRel f h h'){v v':V}{x:Bool×List L}(r:bm f v v')(e:comp h v=some x):comp h' v'=some x∧eW f v.cells v'.cells:=by
 cases v with
 |one l=>
  rcases r with rfl|⟨l',rfl,r⟩
  ·cases e
  simp only[comp]at e⊢
  split at e
  ·rename_i xs h1
   obtain⟨a1,a2⟩:=xc k (show aF f [l] [l']from⟨.inr r,trivial⟩) h1
   rw[a1]
   exact⟨e,a2⟩
  ·cases e
 |agg ls=>
  obtain⟨ls',rfl,r⟩:=r
  simp only[comp]at e⊢
  split at e
  ·rename_i xs h1
   obtain⟨a1,a2⟩:=xc k r h1
   rw[a1]
   exact⟨e,a2⟩
  ·cases e
 |tup xs=>cases e
theorem HE (k:HRel f h h'):∀{vs vs':List V}{xs:List (Bool×List L)},aW f vs vs'→bM h vs=some xs→bM h' vs'=some xs∧eW f (vs.flatMap V.cells) (vs'.flatMap V.cells)
 |[],[],_,_,e=>⟨e,trivial⟩
 |v::vs,v'::vs',xs,r,e=>by
  simp only[bM]at e⊢
  split at e
  ·rename_i x ys h1 h2
   cases e
   obtain⟨a1,a2⟩:=Q2 k r.1 h1
   obtain⟨b1,b2⟩:=HE k r.2 h2
   rw[a1,b1]
   exact⟨rfl,by simpa only[Yl]using a2.append b2⟩
  ·cases e
 |[],_::_,_,e,_=>e.elim
 |_::_,[],_,e,_=>e.elim
theorem J8 (k:HRel f h h'):∀{ls ls':List L},eW f ls ls'→(∀o',o'∈al ls'→∃o,o∈al ls∧f[o]? =some o')∧((al ls).Nodup→(al ls').Nodup)
 |[],[],_=>⟨fun o' h=>by simp[al]at h,fun h=>h⟩
 |l::ls,l'::ls',r=>by
  obtain⟨i1,i2⟩:=J8 k r.2
  have r1:=r.1
  have other:(∀o,l≠ .arr o)→(∀o,l'≠ .arr o)→al (l::ls)=al ls∧al (l'::ls')=al ls':=fun a b=>by
   constructor
   ·cases l with
    |arr o=>exact absurd rfl (a o)
    |_=>rfl
   ·cases l' with
    |arr o=>exact absurd rfl (b o)
    |_=>rfl
  cases l with
  |arr o=>
   obtain⟨o',h1,rfl⟩:=fQ r1
   have ea:al (.arr o::ls)=o::al ls:=rfl
   have eb:al (.arr o'::ls')=o'::al ls':=rfl
   rw[ea,eb]
   refine⟨fun p hp=> ?_,fun nd=> ?_⟩
   ·rcases Yh.1 hp with rfl|hp
    ·exact⟨o,List.mem_cons_self,h1⟩
    ·obtain⟨q,h2,h3⟩:=i1 p hp
     exact⟨q,Y5 _ h2,h3⟩
   ·obtain⟨n1,n2⟩:=Yx.1 nd
    refine Yx.2 ⟨fun hp=> ?_,i2 n2⟩
    obtain⟨q,h2,h3⟩:=i1 o' hp
    rw[k.inj h3 h1]at h2
    exact n1 h2
  |ptr o i j=>
   obtain⟨o',_,rfl⟩:=gv r1
   obtain⟨ea,eb⟩:=other (by simp) (by simp)
   rw[ea,eb];exact⟨i1,i2⟩
  |sub o c=>
   obtain⟨o',_,rfl⟩:=pg r1
   obtain⟨ea,eb⟩:=other (by simp) (by simp)
   rw[ea,eb];exact⟨i1,i2⟩
  |win o l q=>cases r1
  |_=>
   simp only[L.ren]at r1
   cases r1
   obtain⟨ea,eb⟩:=other (by simp) (by simp)
   rw[ea,eb];exact⟨i1,i2⟩
 |[],_::_,e=>e.elim
 |_::_,[],e=>e.elim
theorem wn (s:Cln f σ τ):∀{rs:List ARes}{vs:List V},ar σ rs=some vs→∃vs',ar τ rs=some vs'∧aW f vs vs'
 |[],vs,e=>by simp only[ar]at e⊢;cases e;exact⟨_,rfl,trivial⟩
 |r::rs,vs,e=>by
  simp only[ar]at e⊢
  split at e
  ·rename_i x xs h1 h2
   cases e
   obtain⟨xs',h3,h4⟩:=wn s h2
   have:∃x',bQ τ r=some x'∧bm f x x':=by
    cases r with
    |tmp t=>simp only[bQ]at h1⊢;cases h1;exact⟨_,rfl,s.tmps.getD t⟩
    |cell t n=>exact N5 (call:=fun _ _=>none) (op:= .load true n (.tmp t)) s (fun _ _ _ h=>by cases h) rfl h1
   obtain⟨x',h5,h6⟩:=this
   rw[h5,h3]
   exact⟨_,rfl,h6,h4⟩
  ·cases e
theorem PD (k:Kn σ τ){rs:List ARes}{r:V}(e:aY σ rs=some r):aY τ rs=some r:=by
 obtain⟨f,s⟩:=k
 unfold aY at e⊢
 cases hr:ar σ rs with
 |none=>simp[hr]at e
 |some vs=>
  obtain⟨vs',h1,h2⟩:=wn s hr
  rw[h1]
  simp only[hr]at e⊢
  split at e
  ·rename_i nd
   cases hcs:bM σ.h vs with
   |none=>simp[hcs]at e
   |some xs=>
    obtain⟨a1,a2⟩:=HE s.heap h2 hcs
    rw[if_pos ((J8 s.heap a2).2 nd),a1]
    rw[hcs]at e
    exact e
  ·cases e
def tq (g f:List Nat):List Nat:=f.map fun o=>g.getD o 0
theorem H2 (k:HRel f h h')(hg:g.length=h'.length){l l' l'':L}(e1:l.ren f=some l')(e2:l'.ren g=some l''):l.ren (tq g f)=some l'':=by
 have key:∀{o o' o'':Nat},f[o]? =some o'→g[o']? =some o''→(tq g f)[o]? =some o'':=fun{o o' o''}a b=>by
  simp only[tq,Zp,a,Option.map_some,List.getD,b,Y2]
 cases l with
 |ptr o i j=>
  obtain⟨o',a,rfl⟩:=gv e1
  obtain⟨o'',b,rfl⟩:=gv e2
  simp only[L.ren,key a b]
 |arr o=>
  obtain⟨o',a,rfl⟩:=fQ e1
  obtain⟨o'',b,rfl⟩:=fQ e2
  simp only[L.ren,key a b]
 |sub o c=>
  obtain⟨o',a,rfl⟩:=pg e1
  obtain⟨o'',b,rfl⟩:=pg e2
  simp only[L.ren,key a b]
 |win o l q=>cases e1
 |_=>
  simp only[L.ren]at e1
  cases e1
  exact e2
theorem Lp {l:L}(e:l.ren f=some .junk):l= .junk:=by
 cases l with
 |ptr o i j=>obtain⟨o',a,h⟩:=gv e;cases h
 |arr o=>obtain⟨o',a,h⟩:=fQ e;cases h
 |sub o c=>obtain⟨o',a,h⟩:=pg e;cases h
 |win o l q=>cases e
 |junk=>rfl
 |_=>simp only[L.ren]at e;cases e
theorem dz.trans (k:HRel f h h')(hg:g.length=h'.length){l l' l'':L}(e1:dz f l l')(e2:dz g l' l''):dz (tq g f) l l'':=by
 rcases e1 with e1|e1
 ·exact .inl e1
 rcases e2 with rfl|e2
 ·exact .inl (Lp e1)
 ·exact .inr (H2 k hg e1 e2)
theorem aF.trans (k:HRel f h h')(hg:g.length=h'.length):∀{a b c:List L},aF f a b→aF g b c→aF (tq g f) a c
 |[],[],[],_,_=>trivial
 |_::_,_::_,_::_,e1,e2=>⟨e1.1.trans k hg e2.1,aF.trans k hg e1.2 e2.2⟩
 |[],_::_,_,e,_=>e.elim
 |_::_,[],_,e,_=>e.elim
 |_,[],_::_,_,e=>e.elim
 |_,_::_,[],_,e=>e.elim
theorem bL.trans (k:HRel f h h')(hg:g.length=h'.length):∀{a b c:List (Bool×List L)},bL f a b→bL g b c→bL (tq g f) a c
 |[],[],[],_,_=>trivial
 |_::_,_::_,_::_,e1,e2=>⟨e1.1.trans e2.1,e1.2.1.trans k hg e2.2.1,bL.trans k hg e1.2.2 e2.2.2⟩
 |[],_::_,_,e,_=>e.elim
 |_::_,[],_,e,_=>e.elim
 |_,[],_::_,_,e=>e.elim
 |_,_::_,[],_,e=>e.elim
theorem bm.trans (k:HRel f h h')(hg:g.length=h'.length){a b c:V}(e1:bm f a b)(e2:bm g b c):bm (tq g f) a c:=by
 cases a with
 |one l=>
  rcases e1 with e1|⟨l',rfl,e1⟩
  ·exact .inl e1
  rcases e2 with rfl|⟨l'',rfl,e2⟩
  ·exact .inl (Lp e1)
  ·exact .inr ⟨l'',rfl,H2 k hg e1 e2⟩
 |agg ls=>
  obtain⟨ls',rfl,e1⟩:=e1
  obtain⟨ls'',rfl,e2⟩:=e2
  exact⟨_,rfl,e1.trans k hg e2⟩
 |tup xs=>
  obtain⟨ls',rfl,e1⟩:=e1
  obtain⟨ls'',rfl,e2⟩:=e2
  exact⟨_,rfl,e1.trans k hg e2⟩
theorem aW.trans (k:HRel f h h')(hg:g.length=h'.length):∀{a b c:List V},aW f a b→aW g b c→aW (tq g f) a c
 |[],[],[],_,_=>trivial
 |_::_,_::_,_::_,e1,e2=>⟨e1.1.trans k hg e2.1,aW.trans k hg e1.2 e2.2⟩
 |[],_::_,_,e,_=>e.elim
 |_::_,[],_,e,_=>e.elim
 |_,[],_::_,_,e=>e.elim
 |_,_::_,[],_,e=>e.elim
theorem Kn.trans (a:Kn σ τ)(b:Kn τ υ):Kn σ υ:=by
 obtain⟨f,a⟩:=a
 obtain⟨g,b⟩:=b
 have hg:=b.heap.len
 have at2:∀{i:Nat}{o'':Nat},(tq g f)[i]? =some o''→∃o',f[i]? =some o'∧g[o']? =some o'':=fun{i o''}e=>by
  simp only[tq,Zp,Zj]at e
  obtain⟨o',h1,h2⟩:=e
  refine⟨o',h1,?_⟩
  have:o'<g.length:=by rw[hg];exact a.heap.lt h1
  simp only[List.getD,Zr this,Y2]at h2
  rw[Zr this,h2]
 refine⟨tq g f,⟨?_,by simp[tq,a.heap.len],fun i o ob e1 e2=> ?_⟩,a.tmps.trans a.heap hg b.tmps⟩
 ·refine List.pairwise_iff_getElem.2 fun i j hi hj hij e=> ?_
  obtain⟨o1,h1,h2⟩:=at2 (Zr hi)
  obtain⟨o2,h3,h4⟩:=at2 (Zr hj)
  rw[e]at h2
  have:=b.heap.inj h2 h4
  subst this
  exact absurd (a.heap.inj h1 h3) (by omega)
 ·obtain⟨o',h1,h2⟩:=at2 e1
  obtain⟨ob',h3,h4⟩:=a.heap.obs i o' ob h1 e2
  obtain⟨ob'',h5,h6⟩:=b.heap.obs o' o ob' h2 h3
  refine⟨ob'',h5,?_⟩
  cases ob with
  |box cs=>
   obtain⟨cs',rfl,h4⟩:=h4
   obtain⟨cs'',rfl,h6⟩:=h6
   exact⟨_,rfl,h4.trans a.heap hg h6⟩
  |dead=>trivial
  |arr z es=>rw[aI h4 (by simp) (by simp)]at h6;exact h6
  |froz z es=>rw[aI h4 (by simp) (by simp)]at h6;exact h6
  |darr z es=>rw[aI h4 (by simp) (by simp)]at h6;exact h6
  |zarr z es=>rw[aI h4 (by simp) (by simp)]at h6;exact h6
  |fbox ps=>rw[aI h4 (by simp) (by simp)]at h6;exact h6
  |tbox n=>rw[aI h4 (by simp) (by simp)]at h6;exact h6
  |res=>rw[aI h4 (by simp) (by simp)]at h6;exact h6
theorem Kn.of (f:List Nat){t t':List V}{h h':List AObj}(nd:f.Nodup)(ho:bf f h' f h)(ht:aW f t t'):Kn ⟨t,h⟩ ⟨t',h'⟩:=⟨f,Cln.of f nd ho ht⟩
theorem Kn.r (f:List Nat){t t':List V}{h h':List AObj}(ho:bf f h' f h:=by simp[aW,bm,aF,dz,bL,bf,bS,L.ren])(ht:aW f t t':=by simp[aW,bm,aF,dz,bL,bf,bS,L.ren])(nd:f.Nodup:=by decide):Kn ⟨t,h⟩ ⟨t',h'⟩:=Kn.of f nd ho ht
end
inductive Fr where
 |sq (c:ACode)
 |bk (id:Nat)
def kz :List Fr→Bool
 |[]=>true
 | .sq c::ks=>c.zOk&&kz ks
 | .bk _::ks=>kz ks
section
variable (call:Nat→List V→Option V)
def wp (Q:Ex→St→Prop):List Fr→Option (Ex×St)→Prop
 |[],some (e,σ)=>Q e σ
 | .sq c::ks,some (.normal,σ)=>wp Q ks (aq call aB c σ)
 | .sq _::ks,some (e,σ)=>wp Q ks (some (e,σ))
 | .bk id::ks,some (.exit i,σ)=>if i=id then wp Q ks (some (.normal,σ))else wp Q ks (some (.exit i,σ))
 | .bk _::ks,some (e,σ)=>wp Q ks (some (e,σ))
 |_,none=>False
end
section
variable {call:Nat→List V→Option V}{Q:Ex→St→Prop}{ks:List Fr}{σ τ:St}
theorem cA {e:Ex}:wp call Q [] (some (e,σ))=Q e σ:=by simp only[wp]
theorem cy {c:ACode}:wp call Q (.sq c::ks) (some (.normal,σ))=wp call Q ks (aq call aB c σ):=by simp only[wp]
theorem cP {c:ACode}:wp call Q (.sq c::ks) (some (.ret,σ))=wp call Q ks (some (.ret,σ)):=by simp only[wp]
theorem cB {c:ACode}{i:Nat}:wp call Q (.sq c::ks) (some (.exit i,σ))=wp call Q ks (some (.exit i,σ)):=by simp only[wp]
theorem cW {id:Nat}:wp call Q (.bk id::ks) (some (.normal,σ))=wp call Q ks (some (.normal,σ)):=by simp only[wp]
theorem cX {id:Nat}:wp call Q (.bk id::ks) (some (.ret,σ))=wp call Q ks (some (.ret,σ)):=by simp only[wp]
theorem cV {id i:Nat}:wp call Q (.bk id::ks) (some (.exit i,σ))=if i=id then wp call Q ks (some (.normal,σ))else wp call Q ks (some (.exit i,σ)):=by simp only[wp]
theorem mZ :wp call Q ks none=False:=by
 cases ks with
 |nil=>simp only[wp]
 |cons k ks=>cases k<;>simp only[wp]
theorem wp_seq {a b:ACode}:wp call Q ks (aq call aB (.seq a b) σ)=wp call Q (.sq b::ks) (aq call aB a σ):=by
 simp only[aq]
 cases aq call aB a σ with
 |none=>simp only[mZ]
 |some x=>
  obtain⟨e,σ'⟩:=x
  cases e<;>simp only[cy,cP,cB]
theorem wp_block {id:Nat}{c:ACode}:wp call Q ks (aq call aB (.block id c) σ)=wp call Q (.bk id::ks) (aq call aB c σ):=by
 simp only[aq]
 cases aq call aB c σ with
 |none=>simp only[mZ]
 |some x=>
  obtain⟨e,σ'⟩:=x
  cases e with
  |exit i=>
   simp only[cV]
   split<;>rfl
  |_=>simp only[cW,cX]
theorem py {ops:List AOper}:wp call Q ks (aq call aB (.region ops) σ)=wp call Q ks (match ai call ops σ with
 |some σ'=>some (.normal,σ')
 |none=>none):=by simp only[aq];rfl
theorem wp_cond {c:Opd}{a b:ACode}:wp call Q ks (aq call aB (.cond c a b) σ)=wp call Q ks (match isBool (c.ev σ)with
 |some t=>if t then aq call aB a σ else aq call aB b σ
 |none=>none):=by simp only[aq];rfl
theorem wp_skip :wp call Q ks (aq call aB .skip σ)=wp call Q ks (some (.normal,σ)):=by simp only[aq]
theorem wp_exit {id:Nat}:wp call Q ks (aq call aB (.exit id) σ)=wp call Q ks (some (.exit id,σ)):=by simp only[aq]
theorem wp_ret :wp call Q ks (aq call aB .ret σ)=wp call Q ks (some (.ret,σ)):=by simp only[aq]
def Cl (Q:Ex→St→Prop):Prop:=∀e σ τ,Kn σ τ→Q e σ→Q e τ
theorem Sl (hc:qv call)(hQ:Cl Q):∀{ks:List Fr},kz ks=true→∀{e:Ex}{σ τ:St},Kn σ τ→wp call Q ks (some (e,σ))→wp call Q ks (some (e,τ)):=by
 intro ks
 induction ks with
 |nil=>intro _ e σ τ k h;simp only[cA]at h⊢;exact hQ e σ τ k h
 |cons fr ks ih=>
  intro hz e σ τ k h
  cases fr with
  |sq c=>
   simp only[kz,Zm]at hz
   cases e with
   |normal=>
    simp only[cy]at h⊢
    cases hx:aq call aB c σ with
    |none=>rw[hx,mZ]at h;exact h.elim
    |some x=>
     obtain⟨e,σ'⟩:=x
     obtain⟨τ',h1,k1⟩:=NZ hc hz.1 k hx
     rw[hx]at h
     rw[h1]
     exact ih hz.2 k1 h
   |exit i=>simp only[cB]at h⊢;exact ih hz.2 k h
   |ret=>simp only[cP]at h⊢;exact ih hz.2 k h
  |bk id=>
   simp only[kz]at hz
   cases e with
   |normal=>simp only[cW]at h⊢;exact ih hz k h
   |ret=>simp only[cX]at h⊢;exact ih hz k h
   |exit i=>
    simp only[cV]at h⊢
    split at h
    ·rename_i hi;rw[if_pos hi];exact ih hz k h
    ·rename_i hi;rw[if_neg hi];exact ih hz k h
theorem JU (hc:qv call)(hQ:Cl Q){c:ACode}(σ0:St)(hz:kz (.sq c::ks)=true)(k:Kn σ0 σ)(h:wp call Q ks (aq call aB c σ0)):wp call Q ks (aq call aB c σ):=by
 have:=Sl (e:= .normal) hc hQ hz k (by rw[cy];exact h)
 rwa[cy]at this
variable (call)in
def TP (c:ACode)(σ:St)(e:Ex)(σe:St):Prop:=∃τ,aB (aq call aB c) σ=some (e,τ)∧Kn σe τ
variable (call)in
def QL (c:ACode)(σ σ':St):Prop:=∃τ,aq call aB c σ=some (.normal,τ)∧Kn σ' τ
theorem S7 (hc:qv call){c:ACode}(hz:c.zOk=true){e:Ex}{σ':St}(k:Kn σ τ)(h:aB (aq call aB c) σ=some (e,σ')):∃τ',aB (aq call aB c) τ=some (e,τ')∧Kn σ' τ':=by
 have:=NZ (c:= .loop c) hc hz k (by simp only[aq];exact h)
 simpa only[aq]using this
theorem TP.step (hc:qv call){c:ACode}(hz:c.zOk=true){σ' σe:St}{e:Ex}(s:QL call c σ σ')(E:TP call c σ' e σe):TP call c σ e σe:=by
 obtain⟨τ,h1,k1⟩:=s
 obtain⟨τ2,h2,k2⟩:=E
 obtain⟨τ3,h3,k3⟩:=S7 hc hz k1 h2
 exact⟨τ3,by rw[f7 h1];exact h3,k2.trans k3⟩
theorem NK {e:Ex}{σe:St}{x:Option (Ex×St)}(h:wp call (fun e' τ=>e'=e∧Kn σe τ) [] x):∃τ,x=some (e,τ)∧Kn σe τ:=by
 cases x with
 |none=>rw[mZ]at h;exact h.elim
 |some x=>
  obtain⟨e',τ⟩:=x
  rw[cA]at h
  obtain⟨rfl,h⟩:=h
  exact⟨τ,rfl,h⟩
theorem QL.of {c:ACode}{σ':St}(h:wp call (fun e' τ=>e'= .normal∧Kn σ' τ) [] (aq call aB c σ)):QL call c σ σ':=NK h
theorem Cl.kn {e:Ex}{σe:St}:Cl (fun e' τ=>e'=e∧Kn σe τ):=fun _ _ _ k h=>⟨h.1,h.2.trans k⟩
end
section
variable {Φ:Nat→Option AFn}{ext:Nat→List V→Option V}
def Um (rs:List ARes)(r:V)(e:Ex)(σ:St):Prop:=(e= .normal∨e= .ret)∧aY σ rs=some r
theorem Cl.fin {fn:List ARes}{r:V}:Cl (Um fn r):=fun _ _ _ k h=>⟨h.1,PD k h.2⟩
theorem bX {fn:List ARes}{r:V}{σ:St}:Um fn r .ret σ=(aY σ fn=some r):=by simp[Um]
theorem aM {fn:List ARes}{r:V}{σ:St}:Um fn r .normal σ=(aY σ fn=some r):=by simp[Um]
theorem ae {k:Nat}{fn:AFn}{xz:List V}{r:V}(hk:Φ k=some fn)(h:wp (ah Φ ext) (Um fn.results r) [] (aq (ah Φ ext) aB fn.body (start fn xz))):ah Φ ext k xz=some r:=by
 refine fC hk ?_
 unfold fL
 cases hx:aq (ah Φ ext) aB fn.body (start fn xz)with
 |none=>rw[hx,mZ]at h;exact h.elim
 |some x=>
  obtain⟨e,σ⟩:=x
  rw[hx,cA]at h
  obtain⟨h1|h1,h2⟩:=h<;>subst h1<;>exact h2
theorem rn {σ:St}{rs:List ARes}{r:V}(e:aY σ rs=some r):r.clean=true:=by
 unfold aY at e
 split at e
 ·cases e
 ·rename_i vs h1
  split at e
  ·cases hcs:bM σ.h vs with
   |none=>simp[hcs]at e
   |some xs=>
    have hc:=(sH vs xs [] hcs).1
    rw[hcs]at e
    split at e
    ·rename_i ls h2
     cases h2;cases e
     simpa[V.clean]using hc
    ·rename_i l h2
     cases h2;cases e
     simpa[V.clean]using hc
    ·rename_i ys h2 h3 h4
     cases h4
     split at e
     ·cases e
     ·cases e
      simpa[V.clean]using hc
    ·cases e
  ·cases e
theorem zk :∀{h:List AObj}{os:List (Bool×List L)},gM h=some os→(os.all fun x=>x.2.all L.clean)=true
 |[],os,e=>by simp only[gM]at e;cases e;rfl
 |ob::h,os,e=>by
  cases ob with
  |zarr z es=>
   simp only[gM]at e
   split at e
   ·rename_i xs h1
    cases e
    simp[zk h1,L.clean]
   ·cases e
  |_=>simp[gM]at e
theorem EU {m:Nat}{fn:AFn}{σ:St}{r:V}(e:ET m fn σ=some r):r.clean=true:=by
 unfold ET at e
 split at e
 ·rename_i l os h1 h2
  split at e
  ·rename_i hl
   cases e
   have hc:=rn h1
   simp only[V.clean,Zq,List.all_nil,Xi,Zm]at hc⊢
   exact⟨hc,zk h2⟩
  ·cases e
 ·cases e
theorem Ny (he:qv ext):qv (ah Φ ext):=by
 intro k xz r h
 obtain⟨n,hn⟩:=jf.1 h
 cases n with
 |zero=>simp[run]at hn
 |succ n=>
  simp only[run]at hn
  split at hn
  ·split at hn
   ·split at hn
    ·split at hn
     ·unfold ul at hn
      split at hn
      ·exact EU hn
      ·exact EU hn
      ·cases hn
     ·cases hn
    ·cases hn
   ·exact he k xz r hn
  ·unfold done at hn
   split at hn
   ·exact rn hn
   ·exact rn hn
   ·cases hn
end
inductive Mk where
 |t
 |f
def hX :List Mk→List V→List V
 | .t::m,v::vs=>v::hX m vs
 | .f::m,_::vs=> .one .junk::hX m vs
 |[],vs=>vs
 |_,[]=>[]
theorem aS {m:List Mk}{v:V}{vs:List V}:hX (.t::m) (v::vs)=v::hX m vs:=rfl
theorem aQ {m:List Mk}{v:V}{vs:List V}:hX (.f::m) (v::vs)= .one .junk::hX m vs:=rfl
theorem aR {vs:List V}:hX [] vs=vs:=rfl
def m5 (t:List V):List (Nat×V)→List V
 |[]=>t
 |(i,v)::r=>m5 (t.set i v) r
theorem bp {t:List V}:m5 t []=t:=rfl
theorem eJ {t:List V}{i:Nat}{v:V}{r:List (Nat×V)}:m5 t ((i,v)::r)=m5 (t.set i v) r:=rfl
def tH :ACode:= .cond .nil .skip .skip
theorem Nm {call:Nat→List V→Option V}{σ:St}:aq call aB tH σ=none:=rfl
section
variable {call:Nat→List V→Option V}{Q:Ex→St→Prop}{ks:List Fr}{σ τ:St}
theorem Sm {x:Option (Ex×St)}(h:wp call Q (.sq tH::ks) x):∃e τ,x=some (e,τ)∧e≠ .normal∧wp call Q ks (some (e,τ)):=by
 cases x with
 |none=>rw[mZ]at h;exact h.elim
 |some x=>
  obtain⟨e,τ⟩:=x
  cases e with
  |normal=>rw[cy,Nm,mZ]at h;exact h.elim
  |exit i=>rw[cB]at h;exact⟨_,_,rfl,by simp,h⟩
  |ret=>rw[cP]at h;exact⟨_,_,rfl,by simp,h⟩
theorem sf {c:ACode}(h:wp call Q (.sq tH::ks) (aq call aB c σ)):wp call Q ks (aq call aB (.loop c) σ):=by
 obtain⟨e,τ,h1,h2,h3⟩:=Sm h
 simp only[aq]
 rw[iO h1 h2]
 exact h3
theorem Bh (hc:qv call)(hQ:Cl Q){c:ACode}{σ':St}(hz:(c.zOk&&kz ks)=true)(s:wp call (fun e τ=>e= .normal∧Kn σ' τ) [] (aq call aB c σ))(h:wp call Q ks (aq call aB (.loop c) σ')):wp call Q ks (aq call aB (.loop c) σ):=by
 obtain⟨τ,h1,k1⟩:=NK s
 have hz':kz (.sq (.loop c)::ks)=true:=by simpa only[kz,ACode.zOk]using hz
 have:=JU hc hQ σ' hz' k1 h
 simp only[aq]at this⊢
 rw[f7 h1]
 exact this
theorem Tm (hc:qv call)(hQ:Cl Q){c:ACode}(S:Nat→St)(n:Nat)(p:Nat→Bool)(hz:(c.zOk&&kz ks)=true)(kn:Kn (S 0) σ)
 (st:∀k,k<n→p k=false→wp call (fun e τ=>e= .normal∧Kn (S (k+1)) τ) [] (aq call aB c (S k)))
 (le:∀k,k<n→p k=true→(∀j,j<k→p j=false)→wp call Q (.sq tH::ks) (aq call aB c (S k)))
 (en:(∀k,k<n→p k=false)→wp call Q (.sq tH::ks) (aq call aB c (S n))):wp call Q ks (aq call aB (.loop c) σ):=by
 have key:∀m k,k+m=n→(∀j,j<k→p j=false)→wp call Q ks (aq call aB (.loop c) (S k)):=by
  intro m
  induction m with
  |zero=>
   intro k hk hp
   obtain rfl:k=n:=by omega
   exact sf (en hp)
  |succ m ih=>
   intro k hk hp
   cases hpk:p k with
   |true=>exact sf (le k (by omega) hpk hp)
   |false=>
    refine Bh hc hQ hz (st k (by omega) hpk) (ih (k+1) (by omega) fun j hj=> ?_)
    by_cases q:j=k
    ·rw[q];exact hpk
    ·exact hp j (by omega)
 have hz':kz (.sq (.loop c)::ks)=true:=by simpa only[kz,ACode.zOk]using hz
 exact JU hc hQ (S 0) hz' kn (key n 0 (by omega) (fun j h=>by omega))
theorem cO (hc:qv call)(hQ:Cl Q){c:ACode}{t:List V}{h:List AObj}(n:Nat)(m:List Mk)(U:Nat→List (Nat×V))(H:Nat→List AObj)(hz:(c.zOk&&kz ks)=true)(kn:Kn ⟨m5 (hX m t) (U 0),H 0⟩ ⟨t,h⟩)
 (st:∀k,k<n→wp call (fun e τ=>e= .normal∧Kn ⟨m5 (hX m t) (U (k+1)),H (k+1)⟩ τ) [] (aq call aB c ⟨m5 (hX m t) (U k),H k⟩))
 (en:wp call Q (.sq tH::ks) (aq call aB c ⟨m5 (hX m t) (U n),H n⟩)):wp call Q ks (aq call aB (.loop c) ⟨t,h⟩):=
 Tm hc hQ (fun k=>⟨m5 (hX m t) (U k),H k⟩) n (fun _=>false) hz kn (fun k hk _=>st k hk) (fun k hk hp=>by cases hp) (fun _=>en)
end
section
variable {call:Nat→List V→Option V}{Q:Ex→St→Prop}{ks:List Fr}{σ τ:St}
theorem Nl {id:Nat}{σ:St}(h:wp call Q ks (some (.exit id,σ))):wp call Q (.sq tH::ks) (some (.exit id,σ)):=by rw[cB];exact h
theorem sD {c:ACode}:wp call Q ks (aq call aB (.loop c) σ)=wp call Q (.sq (.loop c)::ks) (aq call aB c σ):=by
 simp only[aq]
 rw[uJ]
 cases h:aq call aB c σ with
 |none=>simp only[mZ]
 |some x=>
  obtain⟨e,σ'⟩:=x
  cases e with
  |normal=>simp only[cy,aq]
  |exit i=>simp only[cB]
  |ret=>simp only[cP]
theorem OP (hc:qv call)(hQ:Cl Q){c:ACode}{t:List V}{h:List AObj}(n:Nat)(m:List Mk)(U:Nat→List (Nat×V))(H:Nat→List AObj)(id:Nat)(hz:(c.zOk&&kz ks)=true)(kn:Kn ⟨m5 (hX m t) (U 0),H 0⟩ ⟨t,h⟩)
 (st:∀k,k<n→wp call (fun e τ=>e= .normal∧Kn ⟨m5 (hX m t) (U (k+1)),H (k+1)⟩ τ) [] (aq call aB c ⟨m5 (hX m t) (U k),H k⟩))
 (en:wp call (fun e τ=>e= .exit id∧Kn ⟨m5 (hX m t) (U n),H n⟩ τ) [] (aq call aB c ⟨m5 (hX m t) (U n),H n⟩))
 (rest:wp call Q ks (some (.exit id,⟨m5 (hX m t) (U n),H n⟩))):wp call Q ks (aq call aB (.loop c) ⟨t,h⟩):=by
 refine cO hc hQ n m U H hz kn st ?_
 obtain⟨τ,h1,k1⟩:=NK en
 rw[h1]
 refine Nl (Sl hc hQ ?_ k1 rest)
 simp only[Zm]at hz
 exact hz.2
end
def ue :List V→Nat→V
 |[],_=> .tup []
 |v::_,0=>v
 |_::r,n+1=>ue r n
def zO :List V→Nat→V→List V
 |[],_,_=>[]
 |_::r,0,x=>x::r
 |v::r,n+1,x=>v::zO r n x
theorem zL :∀(t:List V)(n:Nat),t.getD n (.tup [])=ue t n
 |[],_=>by simp[ue]
 |v::r,0=>by simp[ue]
 |v::r,n+1=>by rw[List.getD_cons_succ,zL r n];rfl
theorem JP :∀(t:List V)(n:Nat)(x:V),t.set n x=zO t n x
 |[],_,_=>rfl
 |v::r,0,_=>rfl
 |v::r,n+1,x=>by rw[Ys,JP r n x];rfl
theorem dG {σ:St}{n:Nat}:(Opd.tmp n).ev σ=ue σ.t n:=zL _ _
theorem fp {σ:St}{p:PV}:(Opd.pv p).ev σ= .one (.pv p):=rfl
theorem dF {σ:St}:Opd.nil.ev σ= .one .nil:=rfl
theorem fo {σ:St}{k:Nat}:(Opd.fn k).ev σ= .one (.fn k []):=rfl
theorem fx {t:List V}{d:Nat}{v:V}:put t (some d) v=zO t d v:=JP _ _ _
theorem fw {t:List V}{v:V}:put t none v=t:=rfl
theorem cH {σ:St}{n:Nat}:bQ σ (.tmp n)=some (ue σ.t n):=by simp only[bQ,zL]
theorem bP {σ:St}{t n:Nat}:bQ σ (.cell t n)=bo σ.h true n (ue σ.t t):=by simp only[bQ,zL]
theorem dN {t:List V}{i:Nat}{v:V}{r:List (Nat×V)}:m5 t ((i,v)::r)=m5 (zO t i v) r:=by rw[eJ,JP]
section
variable {a b c d e f g h v:V}{r:List V}{n:Nat}
theorem tJ :ue (v::r) 0=v:=rfl
theorem tT {x:V}:zO (v::r) 0 x=x::r:=rfl
theorem tK :ue (a::v::r) 1=v:=rfl
theorem tU {x:V}:zO (a::v::r) 1 x=a::x::r:=rfl
theorem tL :ue (a::b::v::r) 2=v:=rfl
theorem tV {x:V}:zO (a::b::v::r) 2 x=a::b::x::r:=rfl
theorem tM :ue (a::b::c::v::r) 3=v:=rfl
theorem tW {x:V}:zO (a::b::c::v::r) 3 x=a::b::c::x::r:=rfl
theorem tN :ue (a::b::c::d::v::r) 4=v:=rfl
theorem tX {x:V}:zO (a::b::c::d::v::r) 4 x=a::b::c::d::x::r:=rfl
theorem tO :ue (a::b::c::d::e::v::r) 5=v:=rfl
theorem tY {x:V}:zO (a::b::c::d::e::v::r) 5 x=a::b::c::d::e::x::r:=rfl
theorem tP :ue (a::b::c::d::e::f::v::r) 6=v:=rfl
theorem tZ {x:V}:zO (a::b::c::d::e::f::v::r) 6 x=a::b::c::d::e::f::x::r:=rfl
theorem tQ :ue (a::b::c::d::e::f::g::v::r) 7=v:=rfl
theorem t6 {x:V}:zO (a::b::c::d::e::f::g::v::r) 7 x=a::b::c::d::e::f::g::x::r:=rfl
theorem tR :ue (a::b::c::d::e::f::g::h::r) (n+8)=ue r n:=rfl
theorem t7 {x:V}:zO (a::b::c::d::e::f::g::h::r) (n+8) x=a::b::c::d::e::f::g::h::zO r n x:=rfl
end
section
variable {call:Nat→List V→Option V}{Q:Ex→St→Prop}{ks:List Fr}{σ τ:St}
variable (call Q ks)in
def wo (ops:List AOper)(σ:St):Prop:=wp call Q ks (match ai call ops σ with
 |some σ'=>some (.normal,σ')
 |none=>none)
variable (call Q ks)in
def rB (r:List AOper)(d:Option Nat)(σ:St):AOp→Prop
 | .pick c a b=>match isBool (c.ev σ)with
  |some t=>if _:t=true then wo call Q ks r ⟨put σ.t d (a.ev σ),σ.h⟩else wo call Q ks r ⟨put σ.t d (b.ev σ),σ.h⟩
  |none=>False
 |op=>match bj call σ op with
  |some v=>wo call Q ks r ⟨put σ.t d v,σ.h⟩
  |none=>match cf call σ op with
   |some x=>wo call Q ks r ⟨put σ.t d x.1,x.2⟩
   |none=>False
theorem bt {ops:List AOper}:wp call Q ks (aq call aB (.region ops) σ)=wo call Q ks ops σ:=py
theorem dP :wo call Q ks [] σ=wp call Q ks (some (.normal,σ)):=rfl
theorem UZ {o:AOper}{r:List AOper}:wo call Q ks (o::r) σ=match az call o σ with
 |some σ'=>wo call Q ks r σ'
 |none=>False:=by
 unfold wo
 simp only[ai]
 cases az call o σ with
 |some x=>rfl
 |none=>simp only[mZ]
theorem Sn {r:List AOper}{d:Option Nat}{op:AOp}:rB call Q ks r d σ op=match(match bj call σ op with
 |some v=>some (⟨put σ.t d v,σ.h⟩:St)
 |none=>match cf call σ op with
  |some (v,h)=>some ⟨put σ.t d v,h⟩
  |none=>none)with
 |some σ'=>wo call Q ks r σ'
 |none=>False:=by
 have key:∀(f:Option V)(e:Option (V×List AObj)),(match f with
  |some v=>wo call Q ks r ⟨put σ.t d v,σ.h⟩
  |none=>match e with
   |some x=>wo call Q ks r ⟨put σ.t d x.1,x.2⟩
   |none=>False)=match(match f with
  |some v=>some (⟨put σ.t d v,σ.h⟩:St)
  |none=>match e with
   |some (v,h)=>some ⟨put σ.t d v,h⟩
   |none=>none)with
  |some σ'=>wo call Q ks r σ'
  |none=>False:=fun f e=>by
  cases f with
  |some v=>rfl
  |none=>cases e<;>rfl
 unfold rB
 split
 ·simp only[bj,cf]
  cases isBool (Opd.ev σ _)with
  |none=>rfl
  |some t=>cases t<;>simp
 ·exact key _ _
theorem cI {r:List AOper}{d:Option Nat}{op:AOp}:wo call Q ks (⟨d,op,none⟩::r) σ=rB call Q ks r d σ op:=by
 rw[UZ,Sn];rfl
theorem bR {r:List AOper}{d:Option Nat}{op:AOp}{g:Nat}{w:Bool}:wo call Q ks (⟨d,op,some (g,w)⟩::r) σ=match ue σ.t g with
 | .one (.pv (.bool b))=>if _:b=w then rB call Q ks r d σ op else wo call Q ks r ⟨put σ.t d (.tup []),σ.h⟩
 | .tup []=>wo call Q ks r ⟨put σ.t d (.tup []),σ.h⟩
 |_=>False:=by
 rw[UZ,←zL]
 unfold az
 simp only[aK]
 cases σ.t.getD g (.tup [])with
 |one l=>
  cases l with
  |pv p=>
   cases p with
   |bool b=>
    have e:=Sn (call:=call) (Q:=Q) (ks:=ks) (σ:=σ) (r:=r) (d:=d) (op:=op)
    cases b<;>cases w<;>simp only[e]<;>simp<;>rfl
   |_=>rfl
  |_=>rfl
 |agg ls=>rfl
 |tup xs=>cases xs<;>rfl
theorem cJ {c:Opd}{a b:ACode}:wp call Q ks (aq call aB (.cond c a b) σ)=match isBool (c.ev σ)with
 |some t=>if _:t=true then wp call Q ks (aq call aB a σ)else wp call Q ks (aq call aB b σ)
 |none=>False:=by
 rw[wp_cond]
 cases isBool (c.ev σ)with
 |none=>simp only[mZ]
 |some t=>cases t<;>simp
theorem OQ {P:Ex→St→Prop}{x:Option (Ex×St)}(h:wp call P [] x):∃e τ,x=some (e,τ)∧P e τ:=by
 cases x with
 |none=>rw[mZ]at h;exact h.elim
 |some x=>exact⟨_,_,rfl,h⟩
theorem QB (hc:qv call)(hQ:Cl Q){c:ACode}(S:Nat→St)(n:Nat)(p:Nat→Bool)(hz:(c.zOk&&kz ks)=true)(kn:Kn (S 0) σ)
 (st:∀k,k<n→(∀j,j<k→p j=false)→wp call (fun e τ=>(p k=true→wp call Q (.sq tH::ks) (some (e,τ)))∧(p k=false→e= .normal∧Kn (S (k+1)) τ)) [] (aq call aB c (S k)))
 (en:(∀k,k<n→p k=false)→wp call Q (.sq tH::ks) (aq call aB c (S n))):wp call Q ks (aq call aB (.loop c) σ):=by
 have key:∀m k,k+m=n→(∀j,j<k→p j=false)→wp call Q ks (aq call aB (.loop c) (S k)):=by
  intro m
  induction m with
  |zero=>
   intro k hk hp
   obtain rfl:k=n:=by omega
   exact sf (en hp)
  |succ m ih=>
   intro k hk hp
   obtain⟨e,τ,h1,h2,h3⟩:=OQ (st k (by omega) hp)
   cases hpk:p k with
   |true=>exact sf (by rw[h1];exact h2 hpk)
   |false=>
    obtain⟨rfl,h4⟩:=h3 hpk
    refine Bh hc hQ hz (by rw[h1,cA];exact⟨rfl,h4⟩) (ih (k+1) (by omega) fun j hj=> ?_)
    by_cases q:j=k
    ·rw[q];exact hpk
    ·exact hp j (by omega)
 have hz':kz (.sq (.loop c)::ks)=true:=by simpa only[kz,ACode.zOk]using hz
 exact JU hc hQ (S 0) hz' kn (key n 0 (by omega) (fun j h=>by omega))
def gx (n:Nat)(p:Nat→Bool):Bool:=(List.range n).any p
theorem QR {n k:Nat}{p:Nat→Bool}(hk:k<n)(h:p k=true):gx n p=true:=by
 unfold gx;rw[List.any_eq_true];exact⟨k,by simpa using hk,h⟩
theorem QQ {n:Nat}{p:Nat→Bool}(h:∀k,k<n→p k=false):gx n p=false:=by
 unfold gx;rw[List.any_eq_false];intro k hk;simp[h k (by simpa using hk)]
theorem Mj {n:Nat}{p:Nat→Bool}(h:gx n p=false){k:Nat}(hk:k<n):p k=false:=by
 unfold gx at h;rw[List.any_eq_false]at h;exact Bool.eq_false_iff.2 (h k (by simpa using hk))
theorem aC (hc:qv call)(hQ:Cl Q){c:ACode}{t:List V}{h:List AObj}(m:List Mk)(U:Nat→List (Nat×V))(n:Nat)(p:Nat→Bool)(hz:(c.zOk&&kz ks)=true)(kn:Kn ⟨m5 (hX m t) (U 0),h⟩ ⟨t,h⟩)
 (st:∀k,k<n→(∀j,j<k→p j=false)→wp call (fun e τ=>if _:p k=true then gx n p=true→wp call Q (.sq tH::ks) (some (e,τ))else e= .normal∧Kn ⟨m5 (hX m t) (U (k+1)),h⟩ τ) [] (aq call aB c ⟨m5 (hX m t) (U k),h⟩))
 (en:(∀k,k<n→p k=false)→gx n p=false→wp call Q (.sq tH::ks) (aq call aB c ⟨m5 (hX m t) (U n),h⟩)):wp call Q ks (aq call aB (.loop c) ⟨t,h⟩):=by
 refine QB hc hQ (fun k=>⟨m5 (hX m t) (U k),h⟩) n p hz kn (fun k hk hp=> ?_) fun hp=>en hp (QQ hp)
 obtain⟨e,τ,h1,h2⟩:=OQ (st k hk hp)
 rw[h1,cA]
 split at h2
 ·rename_i q;exact⟨fun _=>h2 (QR hk q),fun q'=>by rw[q]at q';cases q'⟩
 ·rename_i q;exact⟨fun q'=>absurd q' q,fun _=>h2⟩
end
end Gi
