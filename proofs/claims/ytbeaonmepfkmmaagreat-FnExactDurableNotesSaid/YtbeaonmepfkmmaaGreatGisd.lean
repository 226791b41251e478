/- Of this proof. -/
import Derived.Test.YtbeaonmepfkmmaaGreatGiqd
import Derived.DataReads
import Derived.ChangeOld
import Derived.ProofKit
set_option linter.unusedSimpArgs false
set_option linter.unusedVariables false
namespace Gi
open Go Go.RowKit
variable {KI:KF}
def Sn (f g:Nat→List V→Option V):Prop:=∀k xz r,f k xz=some r→g k xz=some r
theorem Me {call:Nat→List V→Option V}{σ:St}{ao:AOp}{v:V}(hf:a9 call σ ao=some v):(∀call',a9 call' σ ao=some v)∨∃k xz r,call k xz=some r∧∀call',call' k xz=some r→a9 call' σ ao=some v:=by
 cases ao with
 |call f args fl fz=>
  right
  simp only[a9]at hf⊢
  split at hf
  ·rename_i h1
   split at hf
   ·rename_i h2
    split at hf
    ·rename_i xz has
     split at hf
     ·rename_i r hr
      refine⟨f,xz,r,hr,fun call' h'=> ?_⟩
      rw[if_pos h1,if_pos h2]
      simp only[has,h']
      exact hf
     ·cases hf
    ·cases hf
   ·cases hf
  ·cases hf
 |callV x args=>
  right
  simp only[a9]at hf⊢
  split at hf
  ·rename_i k caps hx
   split at hf
   ·rename_i xz has
    split at hf
    ·rename_i r hr
     refine⟨_,_,r,hr,fun call' h'=> ?_⟩
     simp only[hx,has,h']
     exact hf
    ·cases hf
   ·cases hf
  ·cases hf
 |callF f args=>
  right
  simp only[a9]at hf⊢
  split at hf
  ·rename_i xz has
   split at hf
   ·rename_i r hr
    refine⟨_,_,r,hr,fun call' h'=> ?_⟩
    simp only[has,h']
    exact hf
   ·cases hf
  ·cases hf
 |_=>exact .inl fun _=>hf
theorem Kj {call:Nat→List V→Option V}{h:List AObj}{f:Nat}{x:V}{n:Int}{y:V×List AObj}(hf:kG call h f x n=some y):∃k xz r,call k xz=some r∧∀call':Nat→List V→Option V,call' k xz=some r→kG call' h f x n=some y:=by
 unfold kG at hf
 split at hf
 ·split at hf
  ·rename_i ho
   split at hf
   ·rename_i hce
    split at hf
    ·rename_i hr
     refine⟨_,_,_,hr,fun call' h'=> ?_⟩
     simp only[kG,ho,hce,h']
     exact hf
    ·cases hf
   ·rename_i hne hce
    split at hf
    ·rename_i hr
     refine⟨_,_,_,hr,fun call' h'=> ?_⟩
     simp only[kG,ho,hce,h']
     exact hf
    ·cases hf
   ·cases hf
  ·cases hf
 ·rename_i hns
  split at hf
  ·rename_i hnd
   split at hf
   ·rename_i a hl
    split at hf
    ·rename_i hr
     refine⟨_,_,_,hr,fun call' h'=> ?_⟩
     unfold kG
     split
     ·rename_i o c;exact absurd rfl (hns o c)
     ·rw[if_pos hnd]
      simp only[hl,h']
      exact hf
    ·cases hf
   ·cases hf
  ·cases hf
theorem L3 {call:Nat→List V→Option V}{σ:St}{ao:AOp}{x:V×List AObj}(hf:b6 call σ ao=some x):(∀call',b6 call' σ ao=some x)∨(∃k xz r,call k xz=some r∧∀call',call' k xz=some r→b6 call' σ ao=some x)∨
 ∃c caps es es',eE call c caps es=some es'∧∀call',eE call' c caps es=some es'→b6 call' σ ao=some x:=by
 cases ao with
 |call f args fl fz=>
  right;left
  cases fl<;>cases fz<;>simp only[b6]at hf⊢ <;>try (cases hf;done)
  split at hf
  ·rename_i xz has
   split at hf
   ·rename_i r hr
    refine⟨_,_,r,hr,fun call' h'=> ?_⟩
    simp only[has,h']
    exact hf
   ·cases hf
  ·cases hf
 |callD f args=>
  right;left
  simp only[b6]at hf⊢
  split at hf
  ·rename_i xz has
   split at hf
   ·rename_i r hr
    refine⟨_,_,r,hr,fun call' h'=> ?_⟩
    simp only[has,h']
    exact hf
   ·cases hf
  ·cases hf
 |callC f args=>
  right;left
  simp only[b6]at hf⊢
  split at hf
  ·rename_i xz has
   split at hf
   ·rename_i r hr
    refine⟨_,_,r,hr,fun call' h'=> ?_⟩
    simp only[has,h']
    exact hf
   ·cases hf
  ·cases hf
 |callZ f args=>
  right;left
  simp only[b6]at hf⊢
  split at hf
  ·rename_i xz has
   split at hf
   ·rename_i r hr
    refine⟨_,_,r,hr,fun call' h'=> ?_⟩
    simp only[has,h']
    exact hf
   ·cases hf
  ·cases hf
 |delF k z x f=>
  simp only[b6]at hf
  split at hf
  ·rename_i c cs hx hg
   left
   intro call'
   simp only[b6,hx,hg]
   exact hf
  ·rename_i o c cs hx hg
   right;right
   split at hf
   ·rename_i z' es hro
    split at hf
    ·rename_i hz
     split at hf
     ·rename_i es' hr
      refine⟨_,_,_,_,hr,fun call' h'=> ?_⟩
      simp only[b6,hx,hg,hro,if_pos hz,h']
      exact hf
     ·cases hf
    ·cases hf
   ·cases hf
  ·cases hf
 |callM f x k=>
  right;left
  simp only[b6]at hf⊢
  split at hf
  ·rename_i n hn
   obtain⟨k,xz,r,h1,h2⟩:=Kj hf
   exact⟨k,xz,r,h1,fun call' h'=>by first|exact h2 call' h'|(simp only[hn];exact h2 call' h')⟩
  ·cases hf
 |_=>exact .inl fun _=>hf
theorem pQ {call call':Nat→List V→Option V}(h:Sn call call'){c:Nat}{caps:List V}:∀{es es':List (List PV)},eE call c caps es=some es'→eE call' c caps es=some es'
 |[],_,e=>e
 |x::xs,_,e=>by
  simp only[eE]at e⊢
  split at e
  ·rename_i b hb
   split at e
   ·rename_i r hr
    simp only[h _ _ _ hb,pQ h hr]
    exact e
   ·cases e
  ·cases e
theorem IF {call call':Nat→List V→Option V}(h:Sn call call'){σ:St}{ao:AOp}{v:V}(hf:a9 call σ ao=some v):a9 call' σ ao=some v:=by
 rcases Me hf with h1|⟨k,xz,r,h1,h2⟩
 ·exact h1 _
 ·exact h2 _ (h _ _ _ h1)
theorem PL {call call':Nat→List V→Option V}(h:Sn call call'){σ:St}{ao:AOp}{x:V×List AObj}(hf:b6 call σ ao=some x):b6 call' σ ao=some x:=by
 rcases L3 hf with h1|⟨k,xz,r,h1,h2⟩|⟨c,caps,es,es',h1,h2⟩
 ·exact h1 _
 ·exact h2 _ (h _ _ _ h1)
 ·exact h2 _ (pQ h h1)
theorem L4 {call call':Nat→List V→Option V}{σ:St}{ao:AOp}{x:V×List AObj}(hf:b6 call σ ao=some x):a9 call' σ ao=none:=by
 cases ao with
 |call f args fl fz=>cases fl<;>cases fz<;>first|rfl|cases hf
 |_=>first|rfl|cases hf
theorem Dc {call call':Nat→List V→Option V}(h:Sn call call'){oo:AOper}{σ σ':St}(hs:aE call oo σ=some σ'):aE call' oo σ=some σ':=by
 unfold aE at*
 split at hs
 ·split at hs
  ·rename_i v hv
   rw[IF h hv]
   exact hs
  ·split at hs
   ·rename_i v h' he
    cases hs
    rw[L4 (call':=call') he,PL h he]
   ·cases hs
 ·exact hs
 ·cases hs
theorem re {call call':Nat→List V→Option V}(h:Sn call call'):∀{oos:List AOper}{σ σ':St},ai call oos σ=some σ'→ai call' oos σ=some σ'
 |[],_,_,hs=>hs
 |o::oos,σ,σ',hs=>by
  unfold ai at*
  split at hs
  ·rename_i σ1 h1
   rw[Dc h h1]
   exact re h hs
  ·cases hs
def TJ (f g:(St→Option (Ex×St))→St→Option (Ex×St)):Prop:=∀F G σ x,(∀σ x,F σ=some x→G σ=some x)→f F σ=some x→g G σ=some x
theorem xD {call call':Nat→List V→Option V}{lp lp':(St→Option (Ex×St))→St→Option (Ex×St)}(h:Sn call call')(hl:TJ lp lp'):∀{c:ACode}{σ:St}{x:Ex×St},au call lp c σ=some x→au call' lp' c σ=some x:=by
 intro c
 induction c with
 |skip=>intro σ x hs;exact hs
 |region ops=>
  intro σ x hs
  simp only[au]at*
  split at hs
  ·rename_i σ1 h1;rw[re h h1];exact hs
  ·cases hs
 |seq a b iha ihb=>
  intro σ x hs
  simp only[au]at*
  split at hs
  ·rename_i σ1 h1;rw[iha h1];exact ihb hs
  ·rename_i hne
   rw[iha hs]
   obtain⟨e,σ2⟩:=x
   cases e with
   |normal=>exact absurd hs (hne σ2)
   |_=>rfl
 |cond c a b iha ihb=>
  intro σ x hs
  simp only[au]at*
  split at hs
  ·rename_i t ht
   cases t with
   |true=>exact iha hs
   |false=>exact ihb hs
  ·cases hs
 |block id c ih=>
  intro σ x hs
  simp only[au]at*
  split at hs
  ·rename_i i σ1 h1;rw[ih h1];exact hs
  ·rename_i hne
   rw[ih hs]
   obtain⟨e,σ2⟩:=x
   cases e with
   |exit i=>exact absurd hs (hne i σ2)
   |_=>rfl
 |loop c ih=>
  intro σ x hs
  simp only[au]at*
  exact hl _ _ σ x (fun σ x=>ih) hs
 |exit id=>intro σ x hs;exact hs
 |ret=>intro σ x hs;exact hs
theorem ol {n m:Nat}(hnm:n≤m):TJ (dU n) (dU m):=by
 induction n generalizing m with
 |zero=>intro F G σ x _ h;simp[dU]at h
 |succ n ih=>
  intro F G σ x hFG h
  obtain⟨m,rfl⟩:∃m',m=m'+1:=⟨m-1,by omega⟩
  simp only[dU]at h⊢
  split at h
  ·rename_i σ1 h1
   rw[hFG _ _ h1]
   exact ih (m:=m) (by omega) F G σ1 x hFG h
  ·rename_i hne
   rw[hFG _ _ h]
   obtain⟨e,σ2⟩:=x
   cases e with
   |normal=>exact absurd h (hne σ2)
   |_=>rfl
theorem u0 {n:Nat}{f:St→Option (Ex×St)}{σ σ':St}(h:f σ=some (.normal,σ')):dU (n+1) f σ=dU n f σ':=by simp only[dU,h]
theorem yC {n:Nat}{f:St→Option (Ex×St)}{σ σ':St}{e:Ex}(h:f σ=some (e,σ'))(he:e≠ .normal):dU (n+1) f σ=some (e,σ'):=by
 simp only[dU,h]
 cases e with
 |normal=>exact absurd rfl he
 |_=>rfl
section
variable {Φ:Nat→Option AFn}{ext:Nat→List V→Option V}
theorem lR :∀{n m:Nat},n≤m→Sn (run Φ ext n) (run Φ ext m)
 |0,_,_=>fun _ _ _ h=>by simp[run]at h
 |n+1,m,hnm=>fun k xz r h=>by
  obtain⟨m,rfl⟩:∃m',m=m'+1:=⟨m-1,by omega⟩
  simp only[run]at h⊢
  split at h
  ·split at h
   ·rename_i hk
    rw[if_pos hk]
    split at h
    ·rename_i fn _
     split at h
     ·rename_i hz
      rw[if_pos hz]
      have key:∀{x:Ex×St},au (run Φ ext n) (dU n) fn.body (hJ fn xz)=some x→au (run Φ ext m) (dU m) fn.body (hJ fn xz)=some x:=xD (lR (by omega)) (ol (by omega))
      cases hx:au (run Φ ext n) (dU n) fn.body (hJ fn xz)with
      |none=>rw[hx]at h;simp[sy]at h
      |some x=>rw[key hx];rw[hx]at h;exact h
     ·cases h
    ·cases h
   ·rename_i hk
    rw[if_neg hk]
    exact h
  ·rename_i fn _
   have key:∀{x:Ex×St},au (run Φ ext n) (dU n) fn.body (start fn xz)=some x→au (run Φ ext m) (dU m) fn.body (start fn xz)=some x:=xD (lR (by omega)) (ol (by omega))
   cases hx:au (run Φ ext n) (dU n) fn.body (start fn xz)with
   |none=>rw[hx]at h;simp[done]at h
   |some x=>rw[key hx];rw[hx]at h;exact h
variable (Φ ext)in
noncomputable def ah (k:Nat)(xz:List V):Option V:=
 open Classical in if h:∃n r,run Φ ext n k xz=some r then some (Classical.choose (Classical.choose_spec h))else none
theorem iL {k:Nat}{xz:List V}{r:V}:ah Φ ext k xz=some r↔∃n,run Φ ext n k xz=some r:=by
 unfold ah
 split
 ·rename_i h
  have hs:=Classical.choose_spec (Classical.choose_spec h)
  constructor
  ·intro e;cases e;exact⟨_,hs⟩
  ·rintro⟨n,hn⟩
   have h1:=lR (Φ:=Φ) (ext:=ext) (Nat.le_max_left (Classical.choose h) n) _ _ _ hs
   have h2:=lR (Φ:=Φ) (ext:=ext) (Nat.le_max_right (Classical.choose h) n) _ _ _ hn
   rw[h1]at h2
   exact h2
 ·rename_i h
  constructor
  ·intro e;cases e
  ·rintro⟨n,hn⟩;exact absurd ⟨n,r,hn⟩ h
noncomputable def aC (f:St→Option (Ex×St))(σ:St):Option (Ex×St):=
 open Classical in if h:∃n r,dU n f σ=some r then some (Classical.choose (Classical.choose_spec h))else none
theorem kX {f:St→Option (Ex×St)}{σ:St}{r:Ex×St}:aC f σ=some r↔∃n,dU n f σ=some r:=by
 unfold aC
 split
 ·rename_i h
  have hs:=Classical.choose_spec (Classical.choose_spec h)
  constructor
  ·intro e;cases e;exact⟨_,hs⟩
  ·rintro⟨n,hn⟩
   have h1:=ol (Nat.le_max_left (Classical.choose h) n) f f σ _ (fun _ _ h=>h) hs
   have h2:=ol (Nat.le_max_right (Classical.choose h) n) f f σ _ (fun _ _ h=>h) hn
   rw[h1]at h2
   exact h2
 ·rename_i h
  constructor
  ·intro e;cases e
  ·rintro⟨n,hn⟩;exact absurd ⟨n,r,hn⟩ h
theorem fG {f:St→Option (Ex×St)}{σ σ':St}(h:f σ=some (.normal,σ')):aC f σ=aC f σ':=by
 apply Option.ext
 intro r
 rw[kX,kX]
 constructor
 ·rintro⟨n,hn⟩
  cases n with
  |zero=>simp[dU]at hn
  |succ n=>simp only[dU,h]at hn;exact⟨n,hn⟩
 ·rintro⟨n,hn⟩
  exact⟨n+1,by simp only[dU,h];exact hn⟩
theorem it {f:St→Option (Ex×St)}{σ σ':St}{e:Ex}(h:f σ=some (e,σ'))(he:e≠ .normal):aC f σ=some (e,σ'):=by
 rw[kX]
 refine⟨1,?_⟩
 simp only[dU,h]
 cases e with
 |normal=>exact absurd rfl he
 |_=>rfl
variable (Φ ext)in
noncomputable def fB (c:ACode)(σ:St):Option (Ex×St):=au (ah Φ ext) aC c σ
theorem OJ (n:Nat):Sn (run Φ ext n) (ah Φ ext):=fun _ _ _ h=>iL.2 ⟨n,h⟩
theorem wA {c:Nat}{caps:List V}:∀{es es':List (List PV)},eE (ah Φ ext) c caps es=some es'→∃n,eE (run Φ ext n) c caps es=some es'
 |[],_,e=>⟨0,e⟩
 |x::xs,_,e=>by
  simp only[eE]at e
  split at e
  ·rename_i b hb
   split at e
   ·rename_i r hr
    obtain⟨n,hn⟩:=iL.1 hb
    obtain⟨m,hm⟩:=wA hr
    exact⟨n+m,by simp only[eE,lR (Nat.le_add_right n m) _ _ _ hn,pQ (lR (Nat.le_add_left m n)) hm];exact e⟩
   ·cases e
  ·cases e
theorem ON {oo:AOper}{σ σ':St}(h:aE (ah Φ ext) oo σ=some σ'):∃n,aE (run Φ ext n) oo σ=some σ':=by
 unfold aE at h⊢
 split at h
 ·split at h
  ·rename_i v hf
   cases h
   have:∃n,a9 (run Φ ext n) σ oo.op=some v:=by
    rcases Me hf with h1|⟨k,xz,r,h1,h2⟩
    ·exact⟨0,h1 _⟩
    ·obtain⟨n,hn⟩:=iL.1 h1
     exact⟨n,h2 _ hn⟩
   obtain⟨n,hn⟩:=this
   exact⟨n,by simp only[hn]⟩
  ·rename_i hf
   split at h
   ·rename_i v hh he
    cases h
    have:∃n,b6 (run Φ ext n) σ oo.op=some (v,hh):=by
     rcases L3 he with h1|⟨k,xz,r,h1,h2⟩|⟨c,caps,es,es',h1,h2⟩
     ·exact⟨0,h1 _⟩
     ·obtain⟨n,hn⟩:=iL.1 h1
      exact⟨n,h2 _ hn⟩
     ·obtain⟨n,hn⟩:=wA h1
      exact⟨n,h2 _ hn⟩
    obtain⟨n,hn⟩:=this
    refine⟨n,?_⟩
    have hf':a9 (run Φ ext n) σ oo.op=none:=by
     cases q:a9 (run Φ ext n) σ oo.op with
     |none=>rfl
     |some v=>rw[IF (OJ n) q]at hf;cases hf
    simp only[hf',hn]
   ·cases h
 ·exact⟨0,h⟩
 ·cases h
theorem zj :∀{oos:List AOper}{σ σ':St},ai (ah Φ ext) oos σ=some σ'→∃n,ai (run Φ ext n) oos σ=some σ'
 |[],_,_,h=>⟨0,h⟩
 |o::oos,σ,σ',h=>by
  unfold ai at h
  split at h
  ·rename_i σ1 h1
   obtain⟨n,hn⟩:=ON h1
   obtain⟨m,hm⟩:=zj h
   refine⟨max n m,?_⟩
   unfold ai
   rw[Dc (lR (Nat.le_max_left n m)) hn]
   exact re (lR (Nat.le_max_right n m)) hm
  ·cases h
theorem EP :∀{c:ACode}{σ:St}{x:Ex×St},au (ah Φ ext) aC c σ=some x→∃n,au (run Φ ext n) (dU n) c σ=some x:=by
 have up:∀{c:ACode}{σ:St}{x:Ex×St}{n m:Nat},n≤m→au (run Φ ext n) (dU n) c σ=some x→au (run Φ ext m) (dU m) c σ=some x:=fun hnm h=>xD (lR hnm) (ol hnm) h
 intro c
 induction c with
 |skip=>intro σ x h;exact⟨0,h⟩
 |region ops=>
  intro σ x h
  simp only[au]at h
  split at h
  ·rename_i σ1 h1
   obtain⟨n,hn⟩:=zj h1
   exact⟨n,by simp only[au,hn];exact h⟩
  ·cases h
 |seq a b iha ihb=>
  intro σ x h
  simp only[au]at h
  split at h
  ·rename_i σ1 h1
   obtain⟨n,hn⟩:=iha h1
   obtain⟨m,hm⟩:=ihb h
   exact⟨max n m,by simp only[au,up (Nat.le_max_left n m) hn];exact up (Nat.le_max_right n m) hm⟩
  ·rename_i hne
   obtain⟨n,hn⟩:=iha h
   refine⟨n,?_⟩
   simp only[au,hn]
   obtain⟨e,σ2⟩:=x
   cases e with
   |normal=>exact absurd h (hne σ2)
   |_=>rfl
 |cond c a b iha ihb=>
  intro σ x h
  simp only[au]at h
  split at h
  ·rename_i t ht
   cases t with
   |true=>obtain⟨n,hn⟩:=iha h;exact⟨n,by simp only[au,ht];exact hn⟩
   |false=>obtain⟨n,hn⟩:=ihb h;exact⟨n,by simp only[au,ht];exact hn⟩
  ·cases h
 |block id c ih=>
  intro σ x h
  simp only[au]at h
  split at h
  ·rename_i i σ1 h1
   obtain⟨n,hn⟩:=ih h1
   exact⟨n,by simp only[au,hn];exact h⟩
  ·rename_i hne
   obtain⟨n,hn⟩:=ih h
   refine⟨n,?_⟩
   simp only[au,hn]
   obtain⟨e,σ2⟩:=x
   cases e with
   |exit i=>exact absurd h (hne i σ2)
   |_=>rfl
 |loop c ih=>
  intro σ x h
  simp only[au]at h
  obtain⟨m,hm⟩:=kX.1 h
  clear h
  induction m generalizing σ with
  |zero=>simp[dU]at hm
  |succ m ihm=>
   simp only[dU]at hm
   split at hm
   ·rename_i σ1 h1
    obtain⟨n,hn⟩:=ih h1
    obtain⟨p,hp⟩:=ihm hm
    refine⟨max n p+1,?_⟩
    simp only[au]at hp⊢
    rw[u0 (up (show n≤max n p+1 by omega) hn)]
    exact ol (show p≤max n p by omega) _ _ _ _ (fun σ x hx=>up (show p≤max n p+1 by omega) hx) hp
   ·rename_i hne
    obtain⟨n,hn⟩:=ih hm
    refine⟨n+1,?_⟩
    obtain⟨e,σ2⟩:=x
    simp only[au]
    refine yC (up (show n≤n+1 by omega) hn) (fun e1=> ?_)
    subst e1
    exact hne σ2 hm
 |exit id=>intro σ x h;exact⟨0,h⟩
 |ret=>intro σ x h;exact⟨0,h⟩
theorem eB {k:Nat}{fn:AFn}{xz:List V}{r:V}(hk:Φ k=some fn)(h:done fn (fB Φ ext fn.body (start fn xz))=some r):ah Φ ext k xz=some r:=by
 cases hx:fB Φ ext fn.body (start fn xz)with
 |none=>rw[hx]at h;simp[done]at h
 |some x=>
  obtain⟨n,hn⟩:=EP hx
  refine iL.2 ⟨n+1,?_⟩
  simp only[run,hk,hn]
  rw[hx]at h
  exact h
theorem Nu {k:Nat}{xz:List V}{r:V}(hk:Φ k=none)(h:ext k xz=some r)(hlt:k<mM:=by decide):ah Φ ext k xz=some r:=
 iL.2 ⟨1,by simp only[run,hk];rw[if_neg (by omega)];exact h⟩
theorem vD {k:Nat}{fn:AFn}{xz:List V}{r:V}(hn:Φ (k+mM)=none)(hk:Φ k=some fn)(hz:fn.body.noZ=true)(h:sy (du [] xz).2.length fn (fB Φ ext fn.body (hJ fn xz))=some r):ah Φ ext (k+mM) xz=some r:=by
 cases hx:fB Φ ext fn.body (hJ fn xz)with
 |none=>rw[hx]at h;simp[sy]at h
 |some x=>
  obtain⟨n,hn'⟩:=EP hx
  refine iL.2 ⟨n+1,?_⟩
  simp only[run,hn]
  rw[if_pos (by omega),show k+mM-mM=k by omega]
  simp only[hk,if_pos hz,hn']
  rw[hx]at h
  exact h
theorem HZ {Γ:Ctx}{P:Program}(im:Impl Γ P kf Φ ext){f k:Nat}{xz:List V}{r:V}(hk:kf f=some k)(h:ah Φ ext k xz=some r):vw Γ P f xz r:=by
 obtain⟨n,hn⟩:=iL.1 h
 exact OK im n f k xz r hk hn
end
end Gi
namespace Gi
open Go Go.RowKit
variable {KI:KF}
inductive PTy where
 |int (k:IntKind)
 |bool
 |str
 |lst (ts:List PTy)
mutual
def n5 :PTy→PV→Prop
 | .int k, .int k' n=>k'=k∧(Lit.int k n).wf=true
 | .bool, .bool _=>True
 | .str, .str s=>s.length≤maxLen
 | .lst ts, .lst rows=>rows.length≤maxLen∧∀r∈rows,bp ts r
 |_,_=>False
def bp :List PTy→List PV→Prop
 |[],[]=>True
 |t::ts,p::ps=>n5 t p∧bp ts ps
 |_,_=>False
end
def v9 (P:Program)(g:TypeId→Option (List PTy)):List Field→List PTy→Option (List PTy)
 |[],acc=>some acc
 |f::fs,acc=>match g f.type with
  |some us=>if f.offset=acc.length∧P.cellsOf f.type=us.length then v9 P g fs (acc++us)else none
  |none=>none
def flatT (P:Program):Nat→TypeId→Option (List PTy)
 |0,_=>none
 |n+1,t=>match P.underlying t with
  |some .bool=>some [.bool]
  |some (.int k)=>some [.int k]
  |some .string=>some [.str]
  |some (.slice e)=>match flatT P n e with
   |some ts=>if ts.isEmpty||P.cellsOf e !=ts.length then none else some [.lst ts]
   |none=>none
  |some (.struct fs)=>match v9 P (flatT P n) fs.toList []with
   |some ts=>if P.cellsOf t=ts.length then some ts else none
   |none=>none
  |_=>none
theorem bp.len :∀{ts:List PTy}{ps:List PV},bp ts ps→ts.length=ps.length
 |[],[],_=>rfl
 |_::_,_::_,h=>by simp only[bp]at h;simp[bp.len h.2]
 |[],_::_,h=>by simp[bp]at h
 |_::_,[],h=>by simp[bp]at h
theorem bp.append :∀{ts us:List PTy}{ps qs:List PV},bp ts ps→bp us qs→bp (ts++us) (ps++qs)
 |[],_,[],_,_,h=>h
 |_::_,_,_::_,_,h,k=>by
  simp only[bp,List.cons_append]at h⊢
  exact⟨h.1,bp.append h.2 k⟩
 |[],_,_::_,_,h,_=>by simp[bp]at h
 |_::_,_,[],_,h,_=>by simp[bp]at h
def Rb (w:World)(ps:List PV)(cs:List Value):Prop:=ps.length=cs.length∧∀(i:Nat)(p:PV)(c:Value),ps[i]? =some p→cs[i]? =some c→ar (fun _=>False) w p c
theorem Rb.append {w:World}{ps qs:List PV}{cs ds:List Value}(h:Rb w ps cs)(k:Rb w qs ds):Rb w (ps++qs) (cs++ds):=by
 refine⟨by simp[h.1,k.1],fun i p c hp hc=> ?_⟩
 by_cases hi:i<ps.length
 ·rw[List.getElem?_append_left hi]at hp
  rw[List.getElem?_append_left (by rw[←h.1];exact hi)]at hc
  exact h.2 i p c hp hc
 ·rw[List.getElem?_append_right (by omega)]at hp
  rw[List.getElem?_append_right (by rw[←h.1];omega),←h.1]at hc
  exact k.2 _ p c hp hc
theorem LO {H:Type}{enc:TypeId×Value→H}{P:Program}{w:World}:∀(fuel n:Nat)(t:TypeId)(cs:List Value)(d:DataW H)(ps:List MemPlace)(ts:List PTy),DataW.trod enc P w 0 (fun _=>true) true fuel t cs=some (d,ps)→flatT P n t=some ts→
 ∃qs:List PV,bp ts qs∧Rb w qs cs:=by
 intro fuel
 induction fuel with
 |zero=>intro n t cs d ps ts h;simp[DataW.trod]at h
 |succ fuel ih=>
  intro n t cs d ps ts h ht
  cases n with
  |zero=>simp[flatT]at ht
  |succ n=>
   have one:∀{p:PV}{c:Value},ar (fun _=>False) w p c→Rb w [p] [c]:=fun{p c}hr=>⟨rfl,fun i p' c' hp hc=>by
    cases i with
    |zero=>simp at hp hc;subst hp;subst hc;exact hr
    |succ i=>simp at hp⟩
   unfold flatT at ht
   split at ht
   ·rename_i hu
    cases ht
    obtain⟨b,rfl,_⟩:=DataW.trod_bool hu h
    exact⟨[.bool b],by simp[bp,n5],one (by simp[ar])⟩
   ·rename_i k hu
    cases ht
    obtain⟨m,rfl,_,hwf⟩:=DataW.trod_int hu h
    exact⟨[.int k m],by simp[bp,n5,hwf],one (by simp[ar])⟩
   ·rename_i hu
    cases ht
    obtain⟨s,rfl,_,hs⟩:=DataW.trod_string hu h
    exact⟨[.str s.data.toList],by simp only[bp,n5,and_true];exact hs,one (by simp[ar])⟩
   ·rename_i e hu
    split at ht
    ·rename_i us hus
     split at ht
     ·cases ht
     ·rename_i hne
      cases ht
      simp only[Bool.or_eq_true,List.isEmpty_iff,bne_iff_ne,ne_eq,not_or,Decidable.not_not]at hne
      obtain⟨hne1,hne2⟩:=hne
      rcases DataW.trod_slice hu h with⟨rfl,_⟩|⟨ad,len,cap,elems,rest,m,em,rfl,_,_,hlc,hcm,hel,hat,_,_⟩
      ·exact⟨[.lst []],by simp[bp,n5],one (by simp only[ar];exact .inl ⟨by trivial,_,_,rfl⟩)⟩
      ·obtain rfl:m=fuel:=by omega
       have hpos:0<us.length:=List.length_pos_iff.2 hne1
       have hspot0:0<len→ad.spot=none:=by
        intro hl
        have hx:=hat 0 hl
        have hxe:elems[0]? =some (elems[0]'(by omega)):=by simp[show 0<elems.length by omega]
        rw[hxe]at hx
        cases hcs:w.cells? 0 (ad.add (0*P.cellsOf e)) (P.cellsOf e)with
        |none=>rw[hcs]at hx;simp at hx
        |some ccs=>
         obtain⟨_,c2,c3⟩:=World.cells?_some hcs
         rw[hne2]at c2 c3
         have h0:=c3 0 hpos
         have hc0:ccs[0]? =some (ccs[0]'(by omega)):=by simp[show 0<ccs.length by omega]
         rw[hc0]at h0
         have hadd0:(ad.add (0*us.length)).add 0=ad:=by simp[Addr.add]
         rw[hadd0]at h0
         exact World.cell?_spot h0
       have hrow:∀i,i<len→∃q:List PV,bp us q∧dy (fun _=>False) w q ad.block (ad.off+i*us.length)∧ad.spot=none∧ad.block<w.heap.size:=by
        intro i hi
        have hx:=hat i hi
        have hxe:elems[i]? =some (elems[i]'(by omega)):=by simp[show i<elems.length by omega]
        rw[hxe]at hx
        cases hcs:w.cells? 0 (ad.add (i*P.cellsOf e)) (P.cellsOf e)with
        |none=>rw[hcs]at hx;simp at hx
        |some ccs=>
         rw[hcs]at hx
         simp only[Option.bind_some]at hx
         obtain⟨q,g1,g2⟩:=ih n e ccs _ _ us hx hus
         obtain⟨_,c2,c3⟩:=World.cells?_some hcs
         rw[hne2]at c2 c3
         have h0:=c3 0 hpos
         have hc0:ccs[0]? =some (ccs[0]'(by omega)):=by simp[show 0<ccs.length by omega]
         rw[hc0]at h0
         have hadd0:(ad.add (i*us.length)).add 0=ad.add (i*us.length):=by simp[Addr.add]
         rw[hadd0]at h0
         have hspot:ad.spot=none:=hspot0 (by omega)
         have hb:ad.block<w.heap.size:=by
          have:=World.block_lt_of_cell? w _ h0
          have e2:(ad.add (i*us.length)).block=ad.block:=by unfold Addr.add;split<;>rfl
          rwa[e2]at this
         refine⟨q,g1,dy.of fun j p hp=> ?_,hspot,hb⟩
         have hj:j<us.length:=by rw[g1.len];exact(List.getElem?_eq_some_iff.1 hp).1
         have hcj:=c3 j hj
         have hcj':ccs[j]? =some (ccs[j]'(by omega)):=by simp[show j<ccs.length by omega]
         rw[hcj']at hcj
         refine⟨_,?_,g2.2 j p _ hp hcj'⟩
         rw[←hcj]
         congr 1
         obtain⟨bb,oo,ss⟩:=ad
         simp only at hspot
         subst hspot
         rw[Addr.add_mid,Addr.add_mid]
       by_cases hl0:len=0
       ·subst hl0
        exact⟨[.lst []],by simp[bp,n5],one (by simp only[ar];exact .inl ⟨by trivial,_,_,rfl⟩)⟩
       ·obtain⟨rows,hrl,hrows⟩:∃rows:List (List PV),rows.length=len∧∀i q,rows[i]? =some q→bp us q∧dy (fun _=>False) w q ad.block (ad.off+i*us.length):=by
         clear hat hel em h
         have:∀k,k≤len→∃rows:List (List PV),rows.length=k∧∀i q,rows[i]? =some q→bp us q∧dy (fun _=>False) w q ad.block (ad.off+i*us.length):=by
          intro k
          induction k with
          |zero=>intro _;exact⟨[],rfl,fun i q hq=>by simp at hq⟩
          |succ k ihk=>
           intro hk
           obtain⟨rows,r1,r2⟩:=ihk (by omega)
           obtain⟨q,q1,q2,_⟩:=hrow k (by omega)
           refine⟨rows++[q],by simp[r1],fun i q' hq'=> ?_⟩
           by_cases hi:i<rows.length
           ·rw[List.getElem?_append_left hi]at hq';exact r2 i q' hq'
           ·rw[List.getElem?_append_right (by omega)]at hq'
            have h1:=(List.getElem?_eq_some_iff.1 hq').1
            simp at h1
            have:i=k:=by omega
            subst this
            rw[r1,Nat.sub_self]at hq'
            simp at hq';subst hq'
            exact⟨q1,q2⟩
         exact this len (Nat.le_refl _)
        obtain⟨_,_,_,hspot,hb⟩:=hrow 0 (by omega)
        refine⟨[.lst rows],?_,one ?_⟩
        ·simp only[bp,n5,and_true]
         refine⟨by omega,fun r hr=> ?_⟩
         obtain⟨i,hi,rfl⟩:=List.getElem_of_mem hr
         exact(hrows i _ (List.getElem?_eq_getElem hi)).1
        ·simp only[ar]
         obtain⟨bb,oo,ss⟩:=ad
         simp only at hspot hb hrows
         subst hspot
         refine .inr ⟨bb,oo,cap,us.length,by rw[hrl],fun h=>h,hb,cK.of fun i q hq=> ?_,by rw[hrl];exact hlc⟩
         obtain⟨g1,g2⟩:=hrows i q hq
         exact⟨g1.len.symm,g2⟩
    ·cases ht
   ·rename_i fs hu
    split at ht
    ·rename_i ts' hts
     split at ht
     ·rename_i hcl
      cases ht
      obtain⟨xs,m,em,_,hl,hxl,hf⟩:=DataW.trod_struct hu h
      obtain rfl:m=fuel:=by omega
      have key:∀(fl:List Field)(acc out:List PTy)(k:Nat),(∀j,fl[j]? =fs[k+j]?)→v9 P (flatT P n) fl acc=some out→(∃qs,bp acc qs∧Rb w qs (cs.take acc.length))→out.length≤cs.length→∃qs,bp out qs∧Rb w qs (cs.take out.length):=by
       intro fl
       induction fl with
       |nil=>intro acc out k _ ho hq _;simp[v9]at ho;subst ho;exact hq
       |cons f fl ihf=>
        intro acc out k hfl ho hq hle
        unfold v9 at ho
        split at ho
        ·rename_i us hus
         split at ho
         ·rename_i hoff
          obtain⟨ho1,ho2⟩:=hoff
          have hfk:fs[k]? =some f:=by simpa using(hfl 0).symm
          have hx:=hf k f hfk
          have hkx:k<xs.length:=by rw[hxl];exact(Array.getElem?_eq_some_iff.1 hfk).1
          have hx2:xs[k]? =some xs[k]:=by simp[hkx]
          rw[hx2]at hx
          obtain⟨qs2,g1,g2⟩:=ih n f.type _ _ _ us hx hus
          obtain⟨qs1,p1,p2⟩:=hq
          refine ihf (acc++us) out (k+1) (fun j=>by have:=hfl (j+1);simpa[Nat.add_assoc,Nat.add_comm 1 j]using this) ho ⟨qs1++qs2,p1.append g1,?_⟩ hle
          have e:cs.take (acc++us).length=cs.take acc.length++(cs.drop f.offset).take (P.cellsOf f.type):=by
           rw[ho1,ho2,List.length_append,List.take_add]
          rw[e]
          exact p2.append g2
         ·cases ho
        ·cases ho
      obtain⟨qs,g1,g2⟩:=key fs.toList [] ts 0 (by simp) hts ⟨[],by simp[bp],by simp[Rb]⟩ (by rw[hl,hcl];exact Nat.le_refl _)
      refine⟨qs,g1,?_⟩
      rw[show ts.length=cs.length by rw[hl,hcl],List.take_length]at g2
      exact g2
     ·cases ht
    ·cases ht
   ·cases ht
def Um (g:Bool)(qs:List PV):V:=if g then .agg (qs.map .pv)else(match qs with|[q]=> .one (.pv q)|_=> .tup [])
theorem xl {H:Type}{enc:TypeId×Value→H}{P:Program}{w:World}{t:TypeId}{v:Value}{d:DataW H}{ps:List MemPlace}{n:Nat}{ts:List PTy}{g:Bool}(h:DataW.Trod enc P w 0 (fun _=>true) true t v d ps)(ht:flatT P n t=some ts)
 (hg:(g=true∧∃cs,v= .agg cs)∨(g=false∧ts.length=1∧∀cs,v≠ .agg cs)):∃qs,bp ts qs∧VR (fun _=>False) w [] [] (Um g qs) v:=by
 obtain⟨fuel,hf⟩:=h
 obtain⟨qs,h1,h2⟩:=LO fuel n t _ d ps ts hf ht
 refine⟨qs,h1,?_⟩
 rcases hg with⟨rfl,cs,rfl⟩|⟨rfl,hl,hv⟩
 ·refine⟨cs,rfl,by simpa[Value.cells]using h2.1,fun i l c hl hc=> ?_⟩
  simp only[List.getElem?_map,Option.map_eq_some_iff]at hl
  obtain⟨q,hq,rfl⟩:=hl
  exact h2.2 i q c hq hc
 ·have hq1:qs.length=1:=by rw[←h1.len];exact hl
  obtain⟨q,rfl⟩:=List.length_eq_one_iff.1 hq1
  have hvc:v.cells= #[v]:=by
   cases v with
   |agg cs=>exact absurd rfl (hv cs)
   |_=>rfl
  rw[hvc]at h2
  exact h2.2 0 q v rfl rfl
theorem Oi {Γ:Ctx}{P:Program}{Φ:Nat→Option AFn}{ext:Nat→List V→Option V}(im:Impl Γ P kf Φ ext){f k:Nat}(hk:kf f=some k){xz:List V}(h:ah Φ ext k xz=some (aD true)){W:World}{args:Array Value}(hG:Γ.G W)
 (ha:ot (fun _=>False) W xz args.toList):Calls P f args W fun e W'=>e= .returned (.bool true)∧Below W.heap.size W W':=by
 obtain⟨_,hs⟩:=HZ im hk h
 refine(hs (fun _=>False) W args hG (fun _ h=>h.elim) ha).mono fun e W'⟨v,he,hb,hr⟩=> ?_
 obtain⟨ρ',_,hv⟩:=hr
 have:v= .bool true:=by simpa[thaw,thawL,VR,LR,ar]using hv
 exact⟨by rw[he,this],hb⟩
end Gi
