/- Of this proof. -/
import Derived.Test.YtpfadfkomcbecaaGreatGiq
import Derived.DataReads
import Derived.ChangeOld
import Derived.ProofKit
set_option linter.unusedSimpArgs false
set_option linter.unusedVariables false
namespace Gi
open Go Go.RowKit
variable {KI:KF}
def Rl (f g:Nat→List V→Option V):Prop:=∀k xz r,f k xz=some r→g k xz=some r
theorem Mj {call:Nat→List V→Option V}{σ:St}{ao:AOp}{v:V}(hf:bf call σ ao=some v):(∀call',bf call' σ ao=some v)∨∃k xz r,call k xz=some r∧∀call',call' k xz=some r→bf call' σ ao=some v:=by
 cases ao with
 |call f args fl fz=>
  right
  simp only[bf]at hf⊢
  split at hf
  ·rename_i h1
   split at hf
   ·rename_i h2
    split at hf
    ·rename_i xz has
     split at hf
     ·rename_i r hr
      refine⟨f,xz,r,hr,fun call' h'=> ?_⟩
      rw[if_pos h1,if_pos h2]
      simp only[has,h']
      exact hf
     ·cases hf
    ·cases hf
   ·cases hf
  ·cases hf
 |callV x args=>
  right
  simp only[bf]at hf⊢
  split at hf
  ·rename_i k caps hx
   split at hf
   ·rename_i xz has
    split at hf
    ·rename_i r hr
     refine⟨_,_,r,hr,fun call' h'=> ?_⟩
     simp only[hx,has,h']
     exact hf
    ·cases hf
   ·cases hf
  ·cases hf
 |callF f args=>
  right
  simp only[bf]at hf⊢
  split at hf
  ·rename_i xz has
   split at hf
   ·rename_i r hr
    refine⟨_,_,r,hr,fun call' h'=> ?_⟩
    simp only[has,h']
    exact hf
   ·cases hf
  ·cases hf
 |_=>exact .inl fun _=>hf
theorem KQ {call:Nat→List V→Option V}{h:List AObj}{f:Nat}{x:V}{n:Int}{y:V×List AObj}(hf:jW call h f x n=some y):∃k xz r,call k xz=some r∧∀call':Nat→List V→Option V,call' k xz=some r→jW call' h f x n=some y:=by
 unfold jW at hf
 split at hf
 ·split at hf
  ·rename_i ho
   split at hf
   ·rename_i hce
    split at hf
    ·rename_i hr
     refine⟨_,_,_,hr,fun call' h'=> ?_⟩
     simp only[jW,ho,hce,h']
     exact hf
    ·cases hf
   ·rename_i hne hce
    split at hf
    ·rename_i hr
     refine⟨_,_,_,hr,fun call' h'=> ?_⟩
     simp only[jW,ho,hce,h']
     exact hf
    ·cases hf
   ·cases hf
  ·cases hf
 ·rename_i hns
  split at hf
  ·rename_i hnd
   split at hf
   ·rename_i a hl
    split at hf
    ·rename_i hr
     refine⟨_,_,_,hr,fun call' h'=> ?_⟩
     unfold jW
     split
     ·rename_i o c;exact absurd rfl (hns o c)
     ·rw[if_pos hnd]
      simp only[hl,h']
      exact hf
    ·cases hf
   ·cases hf
  ·cases hf
theorem Mc {call:Nat→List V→Option V}{σ:St}{ao:AOp}{x:V×List AObj}(hf:bU call σ ao=some x):(∀call',bU call' σ ao=some x)∨(∃k xz r,call k xz=some r∧∀call',call' k xz=some r→bU call' σ ao=some x)∨
 ∃c caps es es',eF call c caps es=some es'∧∀call',eF call' c caps es=some es'→bU call' σ ao=some x:=by
 cases ao with
 |call f args fl fz=>
  right;left
  cases fl<;>cases fz<;>simp only[bU]at hf⊢ <;>try (cases hf;done)
  split at hf
  ·rename_i xz has
   split at hf
   ·rename_i r hr
    refine⟨_,_,r,hr,fun call' h'=> ?_⟩
    simp only[has,h']
    exact hf
   ·cases hf
  ·cases hf
 |callD f args=>
  right;left
  simp only[bU]at hf⊢
  split at hf
  ·rename_i xz has
   split at hf
   ·rename_i r hr
    refine⟨_,_,r,hr,fun call' h'=> ?_⟩
    simp only[has,h']
    exact hf
   ·cases hf
  ·cases hf
 |callC f args=>
  right;left
  simp only[bU]at hf⊢
  split at hf
  ·rename_i xz has
   split at hf
   ·rename_i r hr
    refine⟨_,_,r,hr,fun call' h'=> ?_⟩
    simp only[has,h']
    exact hf
   ·cases hf
  ·cases hf
 |callZ f args=>
  right;left
  simp only[bU]at hf⊢
  split at hf
  ·rename_i xz has
   split at hf
   ·rename_i r hr
    refine⟨_,_,r,hr,fun call' h'=> ?_⟩
    simp only[has,h']
    exact hf
   ·cases hf
  ·cases hf
 |delF k z x f=>
  simp only[bU]at hf
  split at hf
  ·rename_i c cs hx hg
   left
   intro call'
   simp only[bU,hx,hg]
   exact hf
  ·rename_i o c cs hx hg
   right;right
   split at hf
   ·rename_i z' es hro
    split at hf
    ·rename_i hz
     split at hf
     ·rename_i es' hr
      refine⟨_,_,_,_,hr,fun call' h'=> ?_⟩
      simp only[bU,hx,hg,hro,if_pos hz,h']
      exact hf
     ·cases hf
    ·cases hf
   ·cases hf
  ·cases hf
 |callM f x k=>
  right;left
  simp only[bU]at hf⊢
  split at hf
  ·rename_i n hn
   obtain⟨k,xz,r,h1,h2⟩:=KQ hf
   exact⟨k,xz,r,h1,fun call' h'=>by first|exact h2 call' h'|(simp only[hn];exact h2 call' h')⟩
  ·cases hf
 |_=>exact .inl fun _=>hf
theorem qk {call call':Nat→List V→Option V}(h:Rl call call'){c:Nat}{caps:List V}:∀{es es':List (List PV)},eF call c caps es=some es'→eF call' c caps es=some es'
 |[],_,e=>e
 |x::xs,_,e=>by
  simp only[eF]at e⊢
  split at e
  ·rename_i b hb
   split at e
   ·rename_i r hr
    simp only[h _ _ _ hb,qk h hr]
    exact e
   ·cases e
  ·cases e
theorem Jm {call call':Nat→List V→Option V}(h:Rl call call'){σ:St}{ao:AOp}{v:V}(hf:bf call σ ao=some v):bf call' σ ao=some v:=by
 rcases Mj hf with h1|⟨k,xz,r,h1,h2⟩
 ·exact h1 _
 ·exact h2 _ (h _ _ _ h1)
theorem Pp {call call':Nat→List V→Option V}(h:Rl call call'){σ:St}{ao:AOp}{x:V×List AObj}(hf:bU call σ ao=some x):bU call' σ ao=some x:=by
 rcases Mc hf with h1|⟨k,xz,r,h1,h2⟩|⟨c,caps,es,es',h1,h2⟩
 ·exact h1 _
 ·exact h2 _ (h _ _ _ h1)
 ·exact h2 _ (qk h h1)
theorem Me {call call':Nat→List V→Option V}{σ:St}{ao:AOp}{x:V×List AObj}(hf:bU call σ ao=some x):bf call' σ ao=none:=by
 cases ao with
 |call f args fl fz=>cases fl<;>cases fz<;>first|rfl|cases hf
 |_=>first|rfl|cases hf
theorem Eo {call call':Nat→List V→Option V}(h:Rl call call'){oo:AOper}{σ σ':St}(hs:az call oo σ=some σ'):az call' oo σ=some σ':=by
 unfold az at*
 split at hs
 ·split at hs
  ·rename_i v hv
   rw[Jm h hv]
   exact hs
  ·split at hs
   ·rename_i v h' he
    cases hs
    rw[Me (call':=call') he,Pp h he]
   ·cases hs
 ·exact hs
 ·cases hs
theorem rf {call call':Nat→List V→Option V}(h:Rl call call'):∀{oos:List AOper}{σ σ':St},ah call oos σ=some σ'→ah call' oos σ=some σ'
 |[],_,_,hs=>hs
 |o::oos,σ,σ',hs=>by
  unfold ah at*
  split at hs
  ·rename_i σ1 h1
   rw[Eo h h1]
   exact rf h hs
  ·cases hs
def Sn (f g:(St→Option (Ex×St))→St→Option (Ex×St)):Prop:=∀F G σ x,(∀σ x,F σ=some x→G σ=some x)→f F σ=some x→g G σ=some x
theorem yu {call call':Nat→List V→Option V}{lp lp':(St→Option (Ex×St))→St→Option (Ex×St)}(h:Rl call call')(hl:Sn lp lp'):∀{c:ACode}{σ:St}{x:Ex×St},aj call lp c σ=some x→aj call' lp' c σ=some x:=by
 intro c
 induction c with
 |skip=>intro σ x hs;exact hs
 |region ops=>
  intro σ x hs
  simp only[aj]at*
  split at hs
  ·rename_i σ1 h1;rw[rf h h1];exact hs
  ·cases hs
 |seq a b iha ihb=>
  intro σ x hs
  simp only[aj]at*
  split at hs
  ·rename_i σ1 h1;rw[iha h1];exact ihb hs
  ·rename_i hne
   rw[iha hs]
   obtain⟨e,σ2⟩:=x
   cases e with
   |normal=>exact absurd hs (hne σ2)
   |_=>rfl
 |cond c a b iha ihb=>
  intro σ x hs
  simp only[aj]at*
  split at hs
  ·rename_i t ht
   cases t with
   |true=>exact iha hs
   |false=>exact ihb hs
  ·cases hs
 |block id c ih=>
  intro σ x hs
  simp only[aj]at*
  split at hs
  ·rename_i i σ1 h1;rw[ih h1];exact hs
  ·rename_i hne
   rw[ih hs]
   obtain⟨e,σ2⟩:=x
   cases e with
   |exit i=>exact absurd hs (hne i σ2)
   |_=>rfl
 |loop c ih=>
  intro σ x hs
  simp only[aj]at*
  exact hl _ _ σ x (fun σ x=>ih) hs
 |exit id=>intro σ x hs;exact hs
 |ret=>intro σ x hs;exact hs
theorem oq {n m:Nat}(hnm:n≤m):Sn (dR n) (dR m):=by
 induction n generalizing m with
 |zero=>intro F G σ x _ h;simp[dR]at h
 |succ n ih=>
  intro F G σ x hFG h
  obtain⟨m,rfl⟩:∃m',m=m'+1:=⟨m-1,by omega⟩
  simp only[dR]at h⊢
  split at h
  ·rename_i σ1 h1
   rw[hFG _ _ h1]
   exact ih (m:=m) (by omega) F G σ1 x hFG h
  ·rename_i hne
   rw[hFG _ _ h]
   obtain⟨e,σ2⟩:=x
   cases e with
   |normal=>exact absurd h (hne σ2)
   |_=>rfl
theorem vS {n:Nat}{f:St→Option (Ex×St)}{σ σ':St}(h:f σ=some (.normal,σ')):dR (n+1) f σ=dR n f σ':=by simp only[dR,h]
theorem zM {n:Nat}{f:St→Option (Ex×St)}{σ σ':St}{e:Ex}(h:f σ=some (e,σ'))(he:e≠ .normal):dR (n+1) f σ=some (e,σ'):=by
 simp only[dR,h]
 cases e with
 |normal=>exact absurd rfl he
 |_=>rfl
section
variable {Φ:Nat→Option AFn}{ext:Nat→List V→Option V}
theorem mo :∀{n m:Nat},n≤m→Rl (run Φ ext n) (run Φ ext m)
 |0,_,_=>fun _ _ _ h=>by simp[run]at h
 |n+1,m,hnm=>fun k xz r h=>by
  obtain⟨m,rfl⟩:∃m',m=m'+1:=⟨m-1,by omega⟩
  simp only[run]at h⊢
  split at h
  ·split at h
   ·rename_i hk
    rw[if_pos hk]
    split at h
    ·rename_i fn _
     split at h
     ·rename_i hz
      rw[if_pos hz]
      have key:∀{x:Ex×St},aj (run Φ ext n) (dR n) fn.body (io fn xz)=some x→aj (run Φ ext m) (dR m) fn.body (io fn xz)=some x:=yu (mo (by omega)) (oq (by omega))
      cases hx:aj (run Φ ext n) (dR n) fn.body (io fn xz)with
      |none=>rw[hx]at h;simp[uk]at h
      |some x=>rw[key hx];rw[hx]at h;exact h
     ·cases h
    ·cases h
   ·rename_i hk
    rw[if_neg hk]
    exact h
  ·rename_i fn _
   have key:∀{x:Ex×St},aj (run Φ ext n) (dR n) fn.body (start fn xz)=some x→aj (run Φ ext m) (dR m) fn.body (start fn xz)=some x:=yu (mo (by omega)) (oq (by omega))
   cases hx:aj (run Φ ext n) (dR n) fn.body (start fn xz)with
   |none=>rw[hx]at h;simp[done]at h
   |some x=>rw[key hx];rw[hx]at h;exact h
variable (Φ ext)in
noncomputable def ag (k:Nat)(xz:List V):Option V:=
 open Classical in if h:∃n r,run Φ ext n k xz=some r then some (Classical.choose (Classical.choose_spec h))else none
theorem iG {k:Nat}{xz:List V}{r:V}:ag Φ ext k xz=some r↔∃n,run Φ ext n k xz=some r:=by
 unfold ag
 split
 ·rename_i h
  have hs:=Classical.choose_spec (Classical.choose_spec h)
  constructor
  ·intro e;cases e;exact⟨_,hs⟩
  ·rintro⟨n,hn⟩
   have h1:=mo (Φ:=Φ) (ext:=ext) (Nat.le_max_left (Classical.choose h) n) _ _ _ hs
   have h2:=mo (Φ:=Φ) (ext:=ext) (Nat.le_max_right (Classical.choose h) n) _ _ _ hn
   rw[h1]at h2
   exact h2
 ·rename_i h
  constructor
  ·intro e;cases e
  ·rintro⟨n,hn⟩;exact absurd ⟨n,r,hn⟩ h
noncomputable def av (f:St→Option (Ex×St))(σ:St):Option (Ex×St):=
 open Classical in if h:∃n r,dR n f σ=some r then some (Classical.choose (Classical.choose_spec h))else none
theorem k9 {f:St→Option (Ex×St)}{σ:St}{r:Ex×St}:av f σ=some r↔∃n,dR n f σ=some r:=by
 unfold av
 split
 ·rename_i h
  have hs:=Classical.choose_spec (Classical.choose_spec h)
  constructor
  ·intro e;cases e;exact⟨_,hs⟩
  ·rintro⟨n,hn⟩
   have h1:=oq (Nat.le_max_left (Classical.choose h) n) f f σ _ (fun _ _ h=>h) hs
   have h2:=oq (Nat.le_max_right (Classical.choose h) n) f f σ _ (fun _ _ h=>h) hn
   rw[h1]at h2
   exact h2
 ·rename_i h
  constructor
  ·intro e;cases e
  ·rintro⟨n,hn⟩;exact absurd ⟨n,r,hn⟩ h
theorem fH {f:St→Option (Ex×St)}{σ σ':St}(h:f σ=some (.normal,σ')):av f σ=av f σ':=by
 apply Option.ext
 intro r
 rw[k9,k9]
 constructor
 ·rintro⟨n,hn⟩
  cases n with
  |zero=>simp[dR]at hn
  |succ n=>simp only[dR,h]at hn;exact⟨n,hn⟩
 ·rintro⟨n,hn⟩
  exact⟨n+1,by simp only[dR,h];exact hn⟩
theorem gC {f:St→Option (Ex×St)}{σ σ':St}{e:Ex}(h:f σ=some (e,σ'))(he:e≠ .normal):av f σ=some (e,σ'):=by
 rw[k9]
 refine⟨1,?_⟩
 simp only[dR,h]
 cases e with
 |normal=>exact absurd rfl he
 |_=>rfl
variable (Φ ext)in
noncomputable def ft (c:ACode)(σ:St):Option (Ex×St):=aj (ag Φ ext) av c σ
theorem On (n:Nat):Rl (run Φ ext n) (ag Φ ext):=fun _ _ _ h=>iG.2 ⟨n,h⟩
theorem xA {c:Nat}{caps:List V}:∀{es es':List (List PV)},eF (ag Φ ext) c caps es=some es'→∃n,eF (run Φ ext n) c caps es=some es'
 |[],_,e=>⟨0,e⟩
 |x::xs,_,e=>by
  simp only[eF]at e
  split at e
  ·rename_i b hb
   split at e
   ·rename_i r hr
    obtain⟨n,hn⟩:=iG.1 hb
    obtain⟨m,hm⟩:=xA hr
    exact⟨n+m,by simp only[eF,mo (Nat.le_add_right n m) _ _ _ hn,qk (mo (Nat.le_add_left m n)) hm];exact e⟩
   ·cases e
  ·cases e
theorem Ov {oo:AOper}{σ σ':St}(h:az (ag Φ ext) oo σ=some σ'):∃n,az (run Φ ext n) oo σ=some σ':=by
 unfold az at h⊢
 split at h
 ·split at h
  ·rename_i v hf
   cases h
   have:∃n,bf (run Φ ext n) σ oo.op=some v:=by
    rcases Mj hf with h1|⟨k,xz,r,h1,h2⟩
    ·exact⟨0,h1 _⟩
    ·obtain⟨n,hn⟩:=iG.1 h1
     exact⟨n,h2 _ hn⟩
   obtain⟨n,hn⟩:=this
   exact⟨n,by simp only[hn]⟩
  ·rename_i hf
   split at h
   ·rename_i v hh he
    cases h
    have:∃n,bU (run Φ ext n) σ oo.op=some (v,hh):=by
     rcases Mc he with h1|⟨k,xz,r,h1,h2⟩|⟨c,caps,es,es',h1,h2⟩
     ·exact⟨0,h1 _⟩
     ·obtain⟨n,hn⟩:=iG.1 h1
      exact⟨n,h2 _ hn⟩
     ·obtain⟨n,hn⟩:=xA h1
      exact⟨n,h2 _ hn⟩
    obtain⟨n,hn⟩:=this
    refine⟨n,?_⟩
    have hf':bf (run Φ ext n) σ oo.op=none:=by
     cases q:bf (run Φ ext n) σ oo.op with
     |none=>rfl
     |some v=>rw[Jm (On n) q]at hf;cases hf
    simp only[hf',hn]
   ·cases h
 ·exact⟨0,h⟩
 ·cases h
theorem Au :∀{oos:List AOper}{σ σ':St},ah (ag Φ ext) oos σ=some σ'→∃n,ah (run Φ ext n) oos σ=some σ'
 |[],_,_,h=>⟨0,h⟩
 |o::oos,σ,σ',h=>by
  unfold ah at h
  split at h
  ·rename_i σ1 h1
   obtain⟨n,hn⟩:=Ov h1
   obtain⟨m,hm⟩:=Au h
   refine⟨max n m,?_⟩
   unfold ah
   rw[Eo (mo (Nat.le_max_left n m)) hn]
   exact rf (mo (Nat.le_max_right n m)) hm
  ·cases h
theorem Gj :∀{c:ACode}{σ:St}{x:Ex×St},aj (ag Φ ext) av c σ=some x→∃n,aj (run Φ ext n) (dR n) c σ=some x:=by
 have up:∀{c:ACode}{σ:St}{x:Ex×St}{n m:Nat},n≤m→aj (run Φ ext n) (dR n) c σ=some x→aj (run Φ ext m) (dR m) c σ=some x:=fun hnm h=>yu (mo hnm) (oq hnm) h
 intro c
 induction c with
 |skip=>intro σ x h;exact⟨0,h⟩
 |region ops=>
  intro σ x h
  simp only[aj]at h
  split at h
  ·rename_i σ1 h1
   obtain⟨n,hn⟩:=Au h1
   exact⟨n,by simp only[aj,hn];exact h⟩
  ·cases h
 |seq a b iha ihb=>
  intro σ x h
  simp only[aj]at h
  split at h
  ·rename_i σ1 h1
   obtain⟨n,hn⟩:=iha h1
   obtain⟨m,hm⟩:=ihb h
   exact⟨max n m,by simp only[aj,up (Nat.le_max_left n m) hn];exact up (Nat.le_max_right n m) hm⟩
  ·rename_i hne
   obtain⟨n,hn⟩:=iha h
   refine⟨n,?_⟩
   simp only[aj,hn]
   obtain⟨e,σ2⟩:=x
   cases e with
   |normal=>exact absurd h (hne σ2)
   |_=>rfl
 |cond c a b iha ihb=>
  intro σ x h
  simp only[aj]at h
  split at h
  ·rename_i t ht
   cases t with
   |true=>obtain⟨n,hn⟩:=iha h;exact⟨n,by simp only[aj,ht];exact hn⟩
   |false=>obtain⟨n,hn⟩:=ihb h;exact⟨n,by simp only[aj,ht];exact hn⟩
  ·cases h
 |block id c ih=>
  intro σ x h
  simp only[aj]at h
  split at h
  ·rename_i i σ1 h1
   obtain⟨n,hn⟩:=ih h1
   exact⟨n,by simp only[aj,hn];exact h⟩
  ·rename_i hne
   obtain⟨n,hn⟩:=ih h
   refine⟨n,?_⟩
   simp only[aj,hn]
   obtain⟨e,σ2⟩:=x
   cases e with
   |exit i=>exact absurd h (hne i σ2)
   |_=>rfl
 |loop c ih=>
  intro σ x h
  simp only[aj]at h
  obtain⟨m,hm⟩:=k9.1 h
  clear h
  induction m generalizing σ with
  |zero=>simp[dR]at hm
  |succ m ihm=>
   simp only[dR]at hm
   split at hm
   ·rename_i σ1 h1
    obtain⟨n,hn⟩:=ih h1
    obtain⟨p,hp⟩:=ihm hm
    refine⟨max n p+1,?_⟩
    simp only[aj]at hp⊢
    rw[vS (up (show n≤max n p+1 by omega) hn)]
    exact oq (show p≤max n p by omega) _ _ _ _ (fun σ x hx=>up (show p≤max n p+1 by omega) hx) hp
   ·rename_i hne
    obtain⟨n,hn⟩:=ih hm
    refine⟨n+1,?_⟩
    obtain⟨e,σ2⟩:=x
    simp only[aj]
    refine zM (up (show n≤n+1 by omega) hn) (fun e1=> ?_)
    subst e1
    exact hne σ2 hm
 |exit id=>intro σ x h;exact⟨0,h⟩
 |ret=>intro σ x h;exact⟨0,h⟩
theorem fQ {k:Nat}{fn:AFn}{xz:List V}{r:V}(hk:Φ k=some fn)(h:done fn (ft Φ ext fn.body (start fn xz))=some r):ag Φ ext k xz=some r:=by
 cases hx:ft Φ ext fn.body (start fn xz)with
 |none=>rw[hx]at h;simp[done]at h
 |some x=>
  obtain⟨n,hn⟩:=Gj hx
  refine iG.2 ⟨n+1,?_⟩
  simp only[run,hk,hn]
  rw[hx]at h
  exact h
theorem Nn {k:Nat}{xz:List V}{r:V}(hk:Φ k=none)(h:ext k xz=some r)(hlt:k<jN:=by decide):ag Φ ext k xz=some r:=
 iG.2 ⟨1,by simp only[run,hk];rw[if_neg (by omega)];exact h⟩
theorem sp {k:Nat}{fn:AFn}{xz:List V}{r:V}(hn:Φ (k+jN)=none)(hk:Φ k=some fn)(hz:fn.body.noZ=true)(h:uk (dh [] xz).2.length fn (ft Φ ext fn.body (io fn xz))=some r):ag Φ ext (k+jN) xz=some r:=by
 cases hx:ft Φ ext fn.body (io fn xz)with
 |none=>rw[hx]at h;simp[uk]at h
 |some x=>
  obtain⟨n,hn'⟩:=Gj hx
  refine iG.2 ⟨n+1,?_⟩
  simp only[run,hn]
  rw[if_pos (by omega),show k+jN-jN=k by omega]
  simp only[hk,if_pos hz,hn']
  rw[hx]at h
  exact h
theorem IN {Γ:Ctx}{P:Program}(im:Impl Γ P kf Φ ext){f k:Nat}{xz:List V}{r:V}(hk:kf f=some k)(h:ag Φ ext k xz=some r):wn Γ P f xz r:=by
 obtain⟨n,hn⟩:=iG.1 h
 exact Oo im n f k xz r hk hn
end
end Gi
namespace Gi
open Go Go.RowKit
variable {KI:KF}
inductive PTy where
 |int (k:IntKind)
 |bool
 |str
 |lst (ts:List PTy)
mutual
def nv :PTy→PV→Prop
 | .int k, .int k' n=>k'=k∧(Lit.int k n).wf=true
 | .bool, .bool _=>True
 | .str, .str s=>s.length≤maxLen
 | .lst ts, .lst rows=>rows.length≤maxLen∧∀r∈rows,aZ ts r
 |_,_=>False
def aZ :List PTy→List PV→Prop
 |[],[]=>True
 |t::ts,p::ps=>nv t p∧aZ ts ps
 |_,_=>False
end
def wZ (P:Program)(g:TypeId→Option (List PTy)):List Field→List PTy→Option (List PTy)
 |[],acc=>some acc
 |f::fs,acc=>match g f.type with
  |some us=>if f.offset=acc.length∧P.cellsOf f.type=us.length then wZ P g fs (acc++us)else none
  |none=>none
def flatT (P:Program):Nat→TypeId→Option (List PTy)
 |0,_=>none
 |n+1,t=>match P.underlying t with
  |some .bool=>some [.bool]
  |some (.int k)=>some [.int k]
  |some .string=>some [.str]
  |some (.slice e)=>match flatT P n e with
   |some ts=>if ts.isEmpty||P.cellsOf e !=ts.length then none else some [.lst ts]
   |none=>none
  |some (.struct fs)=>match wZ P (flatT P n) fs.toList []with
   |some ts=>if P.cellsOf t=ts.length then some ts else none
   |none=>none
  |_=>none
theorem aZ.len :∀{ts:List PTy}{ps:List PV},aZ ts ps→ts.length=ps.length
 |[],[],_=>rfl
 |_::_,_::_,h=>by simp only[aZ]at h;simp[aZ.len h.2]
 |[],_::_,h=>by simp[aZ]at h
 |_::_,[],h=>by simp[aZ]at h
theorem aZ.append :∀{ts us:List PTy}{ps qs:List PV},aZ ts ps→aZ us qs→aZ (ts++us) (ps++qs)
 |[],_,[],_,_,h=>h
 |_::_,_,_::_,_,h,k=>by
  simp only[aZ,List.cons_append]at h⊢
  exact⟨h.1,aZ.append h.2 k⟩
 |[],_,_::_,_,h,_=>by simp[aZ]at h
 |_::_,_,[],_,h,_=>by simp[aZ]at h
def Qy (w:World)(ps:List PV)(cs:List Value):Prop:=ps.length=cs.length∧∀(i:Nat)(p:PV)(c:Value),ps[i]? =some p→cs[i]? =some c→ak (fun _=>False) w p c
theorem Qy.append {w:World}{ps qs:List PV}{cs ds:List Value}(h:Qy w ps cs)(k:Qy w qs ds):Qy w (ps++qs) (cs++ds):=by
 refine⟨by simp[h.1,k.1],fun i p c hp hc=> ?_⟩
 by_cases hi:i<ps.length
 ·rw[List.getElem?_append_left hi]at hp
  rw[List.getElem?_append_left (by rw[←h.1];exact hi)]at hc
  exact h.2 i p c hp hc
 ·rw[List.getElem?_append_right (by omega)]at hp
  rw[List.getElem?_append_right (by rw[←h.1];omega),←h.1]at hc
  exact k.2 _ p c hp hc
theorem L7 {H:Type}{enc:TypeId×Value→H}{P:Program}{w:World}:∀(fuel n:Nat)(t:TypeId)(cs:List Value)(d:DataW H)(ps:List MemPlace)(ts:List PTy),DataW.trod enc P w 0 (fun _=>true) true fuel t cs=some (d,ps)→flatT P n t=some ts→
 ∃qs:List PV,aZ ts qs∧Qy w qs cs:=by
 intro fuel
 induction fuel with
 |zero=>intro n t cs d ps ts h;simp[DataW.trod]at h
 |succ fuel ih=>
  intro n t cs d ps ts h ht
  cases n with
  |zero=>simp[flatT]at ht
  |succ n=>
   have one:∀{p:PV}{c:Value},ak (fun _=>False) w p c→Qy w [p] [c]:=fun{p c}hr=>⟨rfl,fun i p' c' hp hc=>by
    cases i with
    |zero=>simp at hp hc;subst hp;subst hc;exact hr
    |succ i=>simp at hp⟩
   unfold flatT at ht
   split at ht
   ·rename_i hu
    cases ht
    obtain⟨b,rfl,_⟩:=DataW.trod_bool hu h
    exact⟨[.bool b],by simp[aZ,nv],one (by simp[ak])⟩
   ·rename_i k hu
    cases ht
    obtain⟨m,rfl,_,hwf⟩:=DataW.trod_int hu h
    exact⟨[.int k m],by simp[aZ,nv,hwf],one (by simp[ak])⟩
   ·rename_i hu
    cases ht
    obtain⟨s,rfl,_,hs⟩:=DataW.trod_string hu h
    exact⟨[.str s.data.toList],by simp only[aZ,nv,and_true];exact hs,one (by simp[ak])⟩
   ·rename_i e hu
    split at ht
    ·rename_i us hus
     split at ht
     ·cases ht
     ·rename_i hne
      cases ht
      simp only[Bool.or_eq_true,List.isEmpty_iff,bne_iff_ne,ne_eq,not_or,Decidable.not_not]at hne
      obtain⟨hne1,hne2⟩:=hne
      rcases DataW.trod_slice hu h with⟨rfl,_⟩|⟨ad,len,cap,elems,rest,m,em,rfl,_,_,hlc,hcm,hel,hat,_,_⟩
      ·exact⟨[.lst []],by simp[aZ,nv],one (by simp only[ak];exact .inl ⟨by trivial,_,_,rfl⟩)⟩
      ·obtain rfl:m=fuel:=by omega
       have hpos:0<us.length:=List.length_pos_iff.2 hne1
       have hspot0:0<len→ad.spot=none:=by
        intro hl
        have hx:=hat 0 hl
        have hxe:elems[0]? =some (elems[0]'(by omega)):=by simp[show 0<elems.length by omega]
        rw[hxe]at hx
        cases hcs:w.cells? 0 (ad.add (0*P.cellsOf e)) (P.cellsOf e)with
        |none=>rw[hcs]at hx;simp at hx
        |some ccs=>
         obtain⟨_,c2,c3⟩:=World.cells?_some hcs
         rw[hne2]at c2 c3
         have h0:=c3 0 hpos
         have hc0:ccs[0]? =some (ccs[0]'(by omega)):=by simp[show 0<ccs.length by omega]
         rw[hc0]at h0
         have hadd0:(ad.add (0*us.length)).add 0=ad:=by simp[Addr.add]
         rw[hadd0]at h0
         exact World.cell?_spot h0
       have hrow:∀i,i<len→∃q:List PV,aZ us q∧dv (fun _=>False) w q ad.block (ad.off+i*us.length)∧ad.spot=none∧ad.block<w.heap.size:=by
        intro i hi
        have hx:=hat i hi
        have hxe:elems[i]? =some (elems[i]'(by omega)):=by simp[show i<elems.length by omega]
        rw[hxe]at hx
        cases hcs:w.cells? 0 (ad.add (i*P.cellsOf e)) (P.cellsOf e)with
        |none=>rw[hcs]at hx;simp at hx
        |some ccs=>
         rw[hcs]at hx
         simp only[Option.bind_some]at hx
         obtain⟨q,g1,g2⟩:=ih n e ccs _ _ us hx hus
         obtain⟨_,c2,c3⟩:=World.cells?_some hcs
         rw[hne2]at c2 c3
         have h0:=c3 0 hpos
         have hc0:ccs[0]? =some (ccs[0]'(by omega)):=by simp[show 0<ccs.length by omega]
         rw[hc0]at h0
         have hadd0:(ad.add (i*us.length)).add 0=ad.add (i*us.length):=by simp[Addr.add]
         rw[hadd0]at h0
         have hspot:ad.spot=none:=hspot0 (by omega)
         have hb:ad.block<w.heap.size:=by
          have:=World.block_lt_of_cell? w _ h0
          have e2:(ad.add (i*us.length)).block=ad.block:=by unfold Addr.add;split<;>rfl
          rwa[e2]at this
         refine⟨q,g1,dv.of fun j p hp=> ?_,hspot,hb⟩
         have hj:j<us.length:=by rw[g1.len];exact(List.getElem?_eq_some_iff.1 hp).1
         have hcj:=c3 j hj
         have hcj':ccs[j]? =some (ccs[j]'(by omega)):=by simp[show j<ccs.length by omega]
         rw[hcj']at hcj
         refine⟨_,?_,g2.2 j p _ hp hcj'⟩
         rw[←hcj]
         congr 1
         obtain⟨bb,oo,ss⟩:=ad
         simp only at hspot
         subst hspot
         rw[Addr.add_mid,Addr.add_mid]
       by_cases hl0:len=0
       ·subst hl0
        exact⟨[.lst []],by simp[aZ,nv],one (by simp only[ak];exact .inl ⟨by trivial,_,_,rfl⟩)⟩
       ·obtain⟨rows,hrl,hrows⟩:∃rows:List (List PV),rows.length=len∧∀i q,rows[i]? =some q→aZ us q∧dv (fun _=>False) w q ad.block (ad.off+i*us.length):=by
         clear hat hel em h
         have:∀k,k≤len→∃rows:List (List PV),rows.length=k∧∀i q,rows[i]? =some q→aZ us q∧dv (fun _=>False) w q ad.block (ad.off+i*us.length):=by
          intro k
          induction k with
          |zero=>intro _;exact⟨[],rfl,fun i q hq=>by simp at hq⟩
          |succ k ihk=>
           intro hk
           obtain⟨rows,r1,r2⟩:=ihk (by omega)
           obtain⟨q,q1,q2,_⟩:=hrow k (by omega)
           refine⟨rows++[q],by simp[r1],fun i q' hq'=> ?_⟩
           by_cases hi:i<rows.length
           ·rw[List.getElem?_append_left hi]at hq';exact r2 i q' hq'
           ·rw[List.getElem?_append_right (by omega)]at hq'
            have h1:=(List.getElem?_eq_some_iff.1 hq').1
            simp at h1
            have:i=k:=by omega
            subst this
            rw[r1,Nat.sub_self]at hq'
            simp at hq';subst hq'
            exact⟨q1,q2⟩
         exact this len (Nat.le_refl _)
        obtain⟨_,_,_,hspot,hb⟩:=hrow 0 (by omega)
        refine⟨[.lst rows],?_,one ?_⟩
        ·simp only[aZ,nv,and_true]
         refine⟨by omega,fun r hr=> ?_⟩
         obtain⟨i,hi,rfl⟩:=List.getElem_of_mem hr
         exact(hrows i _ (List.getElem?_eq_getElem hi)).1
        ·simp only[ak]
         obtain⟨bb,oo,ss⟩:=ad
         simp only at hspot hb hrows
         subst hspot
         refine .inr ⟨bb,oo,cap,us.length,by rw[hrl],fun h=>h,hb,cA.of fun i q hq=> ?_,by rw[hrl];exact hlc⟩
         obtain⟨g1,g2⟩:=hrows i q hq
         exact⟨g1.len.symm,g2⟩
    ·cases ht
   ·rename_i fs hu
    split at ht
    ·rename_i ts' hts
     split at ht
     ·rename_i hcl
      cases ht
      obtain⟨xs,m,em,_,hl,hxl,hf⟩:=DataW.trod_struct hu h
      obtain rfl:m=fuel:=by omega
      have key:∀(fl:List Field)(acc out:List PTy)(k:Nat),(∀j,fl[j]? =fs[k+j]?)→wZ P (flatT P n) fl acc=some out→(∃qs,aZ acc qs∧Qy w qs (cs.take acc.length))→out.length≤cs.length→∃qs,aZ out qs∧Qy w qs (cs.take out.length):=by
       intro fl
       induction fl with
       |nil=>intro acc out k _ ho hq _;simp[wZ]at ho;subst ho;exact hq
       |cons f fl ihf=>
        intro acc out k hfl ho hq hle
        unfold wZ at ho
        split at ho
        ·rename_i us hus
         split at ho
         ·rename_i hoff
          obtain⟨ho1,ho2⟩:=hoff
          have hfk:fs[k]? =some f:=by simpa using(hfl 0).symm
          have hx:=hf k f hfk
          have hkx:k<xs.length:=by rw[hxl];exact(Array.getElem?_eq_some_iff.1 hfk).1
          have hx2:xs[k]? =some xs[k]:=by simp[hkx]
          rw[hx2]at hx
          obtain⟨qs2,g1,g2⟩:=ih n f.type _ _ _ us hx hus
          obtain⟨qs1,p1,p2⟩:=hq
          refine ihf (acc++us) out (k+1) (fun j=>by have:=hfl (j+1);simpa[Nat.add_assoc,Nat.add_comm 1 j]using this) ho ⟨qs1++qs2,p1.append g1,?_⟩ hle
          have e:cs.take (acc++us).length=cs.take acc.length++(cs.drop f.offset).take (P.cellsOf f.type):=by
           rw[ho1,ho2,List.length_append,List.take_add]
          rw[e]
          exact p2.append g2
         ·cases ho
        ·cases ho
      obtain⟨qs,g1,g2⟩:=key fs.toList [] ts 0 (by simp) hts ⟨[],by simp[aZ],by simp[Qy]⟩ (by rw[hl,hcl];exact Nat.le_refl _)
      refine⟨qs,g1,?_⟩
      rw[show ts.length=cs.length by rw[hl,hcl],List.take_length]at g2
      exact g2
     ·cases ht
    ·cases ht
   ·cases ht
def S8 (g:Bool)(qs:List PV):V:=if g then .agg (qs.map .pv)else(match qs with|[q]=> .one (.pv q)|_=> .tup [])
theorem F9 {H:Type}{enc:TypeId×Value→H}{P:Program}{w:World}{t:TypeId}{v:Value}{d:DataW H}{ps:List MemPlace}{n:Nat}{ts:List PTy}{g:Bool}(h:DataW.Trod enc P w 0 (fun _=>true) true t v d ps)(ht:flatT P n t=some ts)
 (hg:(g=true∧∃cs,v= .agg cs)∨(g=false∧ts.length=1∧∀cs,v≠ .agg cs)):∃qs,aZ ts qs∧VR (fun _=>False) w [] [] (S8 g qs) v:=by
 obtain⟨fuel,hf⟩:=h
 obtain⟨qs,h1,h2⟩:=L7 fuel n t _ d ps ts hf ht
 refine⟨qs,h1,?_⟩
 rcases hg with⟨rfl,cs,rfl⟩|⟨rfl,hl,hv⟩
 ·refine⟨cs,rfl,by simpa[Value.cells]using h2.1,fun i l c hl hc=> ?_⟩
  simp only[List.getElem?_map,Option.map_eq_some_iff]at hl
  obtain⟨q,hq,rfl⟩:=hl
  exact h2.2 i q c hq hc
 ·have hq1:qs.length=1:=by rw[←h1.len];exact hl
  obtain⟨q,rfl⟩:=List.length_eq_one_iff.1 hq1
  have hvc:v.cells= #[v]:=by
   cases v with
   |agg cs=>exact absurd rfl (hv cs)
   |_=>rfl
  rw[hvc]at h2
  exact h2.2 0 q v rfl rfl
theorem N6 {Γ:Ctx}{P:Program}{Φ:Nat→Option AFn}{ext:Nat→List V→Option V}(im:Impl Γ P kf Φ ext){f k:Nat}(hk:kf f=some k){xz:List V}(h:ag Φ ext k xz=some (ar true)){W:World}{args:Array Value}(hG:Γ.G W)
 (ha:oA (fun _=>False) W xz args.toList):Calls P f args W fun e W'=>e= .returned (.bool true)∧Below W.heap.size W W':=by
 obtain⟨_,hs⟩:=IN im hk h
 refine(hs (fun _=>False) W args hG (fun _ h=>h.elim) ha).mono fun e W'⟨v,he,hb,hr⟩=> ?_
 obtain⟨ρ',_,hv⟩:=hr
 have:v= .bool true:=by simpa[thaw,thawL,VR,LR,ak]using hv
 exact⟨by rw[he,this],hb⟩
end Gi
