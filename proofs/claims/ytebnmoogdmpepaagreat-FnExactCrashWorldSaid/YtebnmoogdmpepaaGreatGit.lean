/- Of this proof. -/
import Derived.Test.YtebnmoogdmpepaaGreatGiq
import Derived.DataReads
import Derived.ChangeOld
import Derived.ProofKit
import Derived.KernelRfl
set_option linter.unusedSimpArgs false
set_option linter.unusedVariables false
namespace Gi
open Go Go.RowKit
variable {KI:KF}
def Ts (f g:Nat→List V→Option V):Prop:=∀k xz r,f k xz=some r→g k xz=some r
theorem N4 {call:Nat→List V→Option V}{σ:St}{ao:AOp}{v:V}(hf:bj call σ ao=some v):(∀call',bj call' σ ao=some v)∨∃k xz r,call k xz=some r∧∀call',call' k xz=some r→bj call' σ ao=some v:=by
 cases ao with
 |call f args fl fz=>
  right
  simp only[bj]at hf⊢
  split at hf
  ·rename_i h1
   split at hf
   ·rename_i h2
    split at hf
    ·rename_i xz has
     split at hf
     ·rename_i r hr
      refine⟨f,xz,r,hr,fun call' h'=> ?_⟩
      rw[if_pos h1,if_pos h2]
      simp only[has,h']
      exact hf
     ·cases hf
    ·cases hf
   ·cases hf
  ·cases hf
 |callV x args=>
  right
  simp only[bj]at hf⊢
  split at hf
  ·rename_i k caps hx
   split at hf
   ·rename_i xz has
    split at hf
    ·rename_i r hr
     refine⟨_,_,r,hr,fun call' h'=> ?_⟩
     simp only[hx,has,h']
     exact hf
    ·cases hf
   ·cases hf
  ·cases hf
 |callF f args=>
  right
  simp only[bj]at hf⊢
  split at hf
  ·rename_i xz has
   split at hf
   ·rename_i r hr
    refine⟨_,_,r,hr,fun call' h'=> ?_⟩
    simp only[has,h']
    exact hf
   ·cases hf
  ·cases hf
 |_=>exact .inl fun _=>hf
theorem Mq {call:Nat→List V→Option V}{h:List AObj}{f:Nat}{x:V}{n:Int}{y:V×List AObj}(hf:jO call h f x n=some y):∃k xz r,call k xz=some r∧∀call':Nat→List V→Option V,call' k xz=some r→jO call' h f x n=some y:=by
 unfold jO at hf
 split at hf
 ·split at hf
  ·rename_i ho
   split at hf
   ·rename_i hce
    split at hf
    ·rename_i hr
     refine⟨_,_,_,hr,fun call' h'=> ?_⟩
     simp only[jO,ho,hce,h']
     exact hf
    ·cases hf
   ·rename_i hne hce
    split at hf
    ·rename_i hr
     refine⟨_,_,_,hr,fun call' h'=> ?_⟩
     simp only[jO,ho,hce,h']
     exact hf
    ·cases hf
   ·cases hf
  ·cases hf
 ·rename_i hns
  split at hf
  ·rename_i hnd
   split at hf
   ·rename_i a hl
    split at hf
    ·rename_i hr
     refine⟨_,_,_,hr,fun call' h'=> ?_⟩
     unfold jO
     split
     ·rename_i o c;exact absurd rfl (hns o c)
     ·rw[if_pos hnd]
      simp only[hl,h']
      exact hf
    ·cases hf
   ·cases hf
  ·cases hf
theorem NV {call:Nat→List V→Option V}{σ:St}{ao:AOp}{x:V×List AObj}(hf:cf call σ ao=some x):(∀call',cf call' σ ao=some x)∨(∃k xz r,call k xz=some r∧∀call',call' k xz=some r→cf call' σ ao=some x)∨
 ∃c caps es es',gm call c caps es=some es'∧∀call',gm call' c caps es=some es'→cf call' σ ao=some x:=by
 cases ao with
 |call f args fl fz=>
  right;left
  cases fl<;>cases fz<;>simp only[cf]at hf⊢ <;>try (cases hf;done)
  split at hf
  ·rename_i xz has
   split at hf
   ·rename_i r hr
    refine⟨_,_,r,hr,fun call' h'=> ?_⟩
    simp only[has,h']
    exact hf
   ·cases hf
  ·cases hf
 |callD f args=>
  right;left
  simp only[cf]at hf⊢
  split at hf
  ·rename_i xz has
   split at hf
   ·rename_i r hr
    refine⟨_,_,r,hr,fun call' h'=> ?_⟩
    simp only[has,h']
    exact hf
   ·cases hf
  ·cases hf
 |callC f args=>
  right;left
  simp only[cf]at hf⊢
  split at hf
  ·rename_i xz has
   split at hf
   ·rename_i r hr
    refine⟨_,_,r,hr,fun call' h'=> ?_⟩
    simp only[has,h']
    exact hf
   ·cases hf
  ·cases hf
 |callZ f args=>
  right;left
  simp only[cf]at hf⊢
  split at hf
  ·rename_i xz has
   split at hf
   ·rename_i r hr
    refine⟨_,_,r,hr,fun call' h'=> ?_⟩
    simp only[has,h']
    exact hf
   ·cases hf
  ·cases hf
 |delF k z x f=>
  simp only[cf]at hf
  split at hf
  ·rename_i c cs hx hg
   left
   intro call'
   simp only[cf,hx,hg]
   exact hf
  ·rename_i o c cs hx hg
   right;right
   split at hf
   ·rename_i z' es hro
    split at hf
    ·rename_i hz
     split at hf
     ·rename_i es' hr
      refine⟨_,_,_,_,hr,fun call' h'=> ?_⟩
      simp only[cf,hx,hg,hro,if_pos hz,h']
      exact hf
     ·cases hf
    ·cases hf
   ·cases hf
  ·cases hf
 |callM f x k=>
  right;left
  simp only[cf]at hf⊢
  split at hf
  ·rename_i n hn
   obtain⟨k,xz,r,h1,h2⟩:=Mq hf
   exact⟨k,xz,r,h1,fun call' h'=>by first|exact h2 call' h'|(simp only[hn];exact h2 call' h')⟩
  ·cases hf
 |_=>exact .inl fun _=>hf
theorem rq {call call':Nat→List V→Option V}(h:Ts call call'){c:Nat}{caps:List V}:∀{es es':List (List PV)},gm call c caps es=some es'→gm call' c caps es=some es'
 |[],_,e=>e
 |x::xs,_,e=>by
  simp only[gm]at e⊢
  split at e
  ·rename_i b hb
   split at e
   ·rename_i r hr
    simp only[h _ _ _ hb,rq h hr]
    exact e
   ·cases e
  ·cases e
theorem KT {call call':Nat→List V→Option V}(h:Ts call call'){σ:St}{ao:AOp}{v:V}(hf:bj call σ ao=some v):bj call' σ ao=some v:=by
 rcases N4 hf with h1|⟨k,xz,r,h1,h2⟩
 ·exact h1 _
 ·exact h2 _ (h _ _ _ h1)
theorem Rf {call call':Nat→List V→Option V}(h:Ts call call'){σ:St}{ao:AOp}{x:V×List AObj}(hf:cf call σ ao=some x):cf call' σ ao=some x:=by
 rcases NV hf with h1|⟨k,xz,r,h1,h2⟩|⟨c,caps,es,es',h1,h2⟩
 ·exact h1 _
 ·exact h2 _ (h _ _ _ h1)
 ·exact h2 _ (rq h h1)
theorem NW {call call':Nat→List V→Option V}{σ:St}{ao:AOp}{x:V×List AObj}(hf:cf call σ ao=some x):bj call' σ ao=none:=by
 cases ao with
 |call f args fl fz=>cases fl<;>cases fz<;>first|rfl|cases hf
 |_=>first|rfl|cases hf
theorem FS {call call':Nat→List V→Option V}(h:Ts call call'){oo:AOper}{σ σ':St}(hs:az call oo σ=some σ'):az call' oo σ=some σ':=by
 unfold az at*
 split at hs
 ·split at hs
  ·rename_i v hv
   rw[KT h hv]
   exact hs
  ·split at hs
   ·rename_i v h' he
    cases hs
    rw[NW (call':=call') he,Rf h he]
   ·cases hs
 ·exact hs
 ·cases hs
theorem sM {call call':Nat→List V→Option V}(h:Ts call call'):∀{oos:List AOper}{σ σ':St},ai call oos σ=some σ'→ai call' oos σ=some σ'
 |[],_,_,hs=>hs
 |o::oos,σ,σ',hs=>by
  unfold ai at*
  split at hs
  ·rename_i σ1 h1
   rw[FS h h1]
   exact sM h hs
  ·cases hs
def UA (f g:(St→Option (Ex×St))→St→Option (Ex×St)):Prop:=∀F G σ x,(∀σ x,F σ=some x→G σ=some x)→f F σ=some x→g G σ=some x
theorem Ae {call call':Nat→List V→Option V}{lp lp':(St→Option (Ex×St))→St→Option (Ex×St)}(h:Ts call call')(hl:UA lp lp'):∀{c:ACode}{σ:St}{x:Ex×St},aq call lp c σ=some x→aq call' lp' c σ=some x:=by
 intro c
 induction c with
 |skip=>intro σ x hs;exact hs
 |region ops=>
  intro σ x hs
  simp only[aq]at*
  split at hs
  ·rename_i σ1 h1;rw[sM h h1];exact hs
  ·cases hs
 |seq a b iha ihb=>
  intro σ x hs
  simp only[aq]at*
  split at hs
  ·rename_i σ1 h1;rw[iha h1];exact ihb hs
  ·rename_i hne
   rw[iha hs]
   obtain⟨e,σ2⟩:=x
   cases e with
   |normal=>exact absurd hs (hne σ2)
   |_=>rfl
 |cond c a b iha ihb=>
  intro σ x hs
  simp only[aq]at*
  split at hs
  ·rename_i t ht
   cases t with
   |true=>exact iha hs
   |false=>exact ihb hs
  ·cases hs
 |block id c ih=>
  intro σ x hs
  simp only[aq]at*
  split at hs
  ·rename_i i σ1 h1;rw[ih h1];exact hs
  ·rename_i hne
   rw[ih hs]
   obtain⟨e,σ2⟩:=x
   cases e with
   |exit i=>exact absurd hs (hne i σ2)
   |_=>rfl
 |loop c ih=>
  intro σ x hs
  simp only[aq]at*
  exact hl _ _ σ x (fun σ x=>ih) hs
 |exit id=>intro σ x hs;exact hs
 |ret=>intro σ x hs;exact hs
theorem pt {n m:Nat}(hnm:n≤m):UA (eI n) (eI m):=by
 induction n generalizing m with
 |zero=>intro F G σ x _ h;simp[eI]at h
 |succ n ih=>
  intro F G σ x hFG h
  obtain⟨m,rfl⟩:∃m',m=m'+1:=⟨m-1,by omega⟩
  simp only[eI]at h⊢
  split at h
  ·rename_i σ1 h1
   rw[hFG _ _ h1]
   exact ih (m:=m) (by omega) F G σ1 x hFG h
  ·rename_i hne
   rw[hFG _ _ h]
   obtain⟨e,σ2⟩:=x
   cases e with
   |normal=>exact absurd h (hne σ2)
   |_=>rfl
theorem xr {n:Nat}{f:St→Option (Ex×St)}{σ σ':St}(h:f σ=some (.normal,σ')):eI (n+1) f σ=eI n f σ':=by simp only[eI,h]
theorem Bg {n:Nat}{f:St→Option (Ex×St)}{σ σ':St}{e:Ex}(h:f σ=some (e,σ'))(he:e≠ .normal):eI (n+1) f σ=some (e,σ'):=by
 simp only[eI,h]
 cases e with
 |normal=>exact absurd rfl he
 |_=>rfl
section
variable {Φ:Nat→Option AFn}{ext:Nat→List V→Option V}
theorem mV :∀{n m:Nat},n≤m→Ts (run Φ ext n) (run Φ ext m)
 |0,_,_=>fun _ _ _ h=>by simp[run]at h
 |n+1,m,hnm=>fun k xz r h=>by
  obtain⟨m,rfl⟩:∃m',m=m'+1:=⟨m-1,by omega⟩
  simp only[run]at h⊢
  split at h
  ·split at h
   ·rename_i hk
    rw[if_pos hk]
    split at h
    ·rename_i fn _
     split at h
     ·rename_i hz
      rw[if_pos hz]
      have key:∀{x:Ex×St},aq (run Φ ext n) (eI n) fn.body (ij fn xz)=some x→aq (run Φ ext m) (eI m) fn.body (ij fn xz)=some x:=Ae (mV (by omega)) (pt (by omega))
      cases hx:aq (run Φ ext n) (eI n) fn.body (ij fn xz)with
      |none=>rw[hx]at h;simp[ul]at h
      |some x=>rw[key hx];rw[hx]at h;exact h
     ·cases h
    ·cases h
   ·rename_i hk
    rw[if_neg hk]
    exact h
  ·rename_i fn _
   have key:∀{x:Ex×St},aq (run Φ ext n) (eI n) fn.body (start fn xz)=some x→aq (run Φ ext m) (eI m) fn.body (start fn xz)=some x:=Ae (mV (by omega)) (pt (by omega))
   cases hx:aq (run Φ ext n) (eI n) fn.body (start fn xz)with
   |none=>rw[hx]at h;simp[done]at h
   |some x=>rw[key hx];rw[hx]at h;exact h
variable (Φ ext)in
noncomputable def ah (k:Nat)(xz:List V):Option V:=
 open Classical in if h:∃n r,run Φ ext n k xz=some r then some (Classical.choose (Classical.choose_spec h))else none
theorem jf {k:Nat}{xz:List V}{r:V}:ah Φ ext k xz=some r↔∃n,run Φ ext n k xz=some r:=by
 unfold ah
 split
 ·rename_i h
  have hs:=Classical.choose_spec (Classical.choose_spec h)
  constructor
  ·intro e;cases e;exact⟨_,hs⟩
  ·rintro⟨n,hn⟩
   have h1:=mV (Φ:=Φ) (ext:=ext) (Nat.le_max_left (Classical.choose h) n) _ _ _ hs
   have h2:=mV (Φ:=Φ) (ext:=ext) (Nat.le_max_right (Classical.choose h) n) _ _ _ hn
   rw[h1]at h2
   exact h2
 ·rename_i h
  constructor
  ·intro e;cases e
  ·rintro⟨n,hn⟩;exact absurd ⟨n,r,hn⟩ h
noncomputable def aB (f:St→Option (Ex×St))(σ:St):Option (Ex×St):=
 open Classical in if h:∃n r,eI n f σ=some r then some (Classical.choose (Classical.choose_spec h))else none
theorem lU {f:St→Option (Ex×St)}{σ:St}{r:Ex×St}:aB f σ=some r↔∃n,eI n f σ=some r:=by
 unfold aB
 split
 ·rename_i h
  have hs:=Classical.choose_spec (Classical.choose_spec h)
  constructor
  ·intro e;cases e;exact⟨_,hs⟩
  ·rintro⟨n,hn⟩
   have h1:=pt (Nat.le_max_left (Classical.choose h) n) f f σ _ (fun _ _ h=>h) hs
   have h2:=pt (Nat.le_max_right (Classical.choose h) n) f f σ _ (fun _ _ h=>h) hn
   rw[h1]at h2
   exact h2
 ·rename_i h
  constructor
  ·intro e;cases e
  ·rintro⟨n,hn⟩;exact absurd ⟨n,r,hn⟩ h
theorem f7 {f:St→Option (Ex×St)}{σ σ':St}(h:f σ=some (.normal,σ')):aB f σ=aB f σ':=by
 apply Option.ext
 intro r
 rw[lU,lU]
 constructor
 ·rintro⟨n,hn⟩
  cases n with
  |zero=>simp[eI]at hn
  |succ n=>simp only[eI,h]at hn;exact⟨n,hn⟩
 ·rintro⟨n,hn⟩
  exact⟨n+1,by simp only[eI,h];exact hn⟩
theorem iO {f:St→Option (Ex×St)}{σ σ':St}{e:Ex}(h:f σ=some (e,σ'))(he:e≠ .normal):aB f σ=some (e,σ'):=by
 rw[lU]
 refine⟨1,?_⟩
 simp only[eI,h]
 cases e with
 |normal=>exact absurd rfl he
 |_=>rfl
variable (Φ ext)in
noncomputable def fL (c:ACode)(σ:St):Option (Ex×St):=aq (ah Φ ext) aB c σ
theorem Qa (n:Nat):Ts (run Φ ext n) (ah Φ ext):=fun _ _ _ h=>jf.2 ⟨n,h⟩
theorem yY {c:Nat}{caps:List V}:∀{es es':List (List PV)},gm (ah Φ ext) c caps es=some es'→∃n,gm (run Φ ext n) c caps es=some es'
 |[],_,e=>⟨0,e⟩
 |x::xs,_,e=>by
  simp only[gm]at e
  split at e
  ·rename_i b hb
   split at e
   ·rename_i r hr
    obtain⟨n,hn⟩:=jf.1 hb
    obtain⟨m,hm⟩:=yY hr
    exact⟨n+m,by simp only[gm,mV (Xq n m) _ _ _ hn,rq (mV (Nat.le_add_left m n)) hm];exact e⟩
   ·cases e
  ·cases e
theorem Qf {oo:AOper}{σ σ':St}(h:az (ah Φ ext) oo σ=some σ'):∃n,az (run Φ ext n) oo σ=some σ':=by
 unfold az at h⊢
 split at h
 ·split at h
  ·rename_i v hf
   cases h
   have:∃n,bj (run Φ ext n) σ oo.op=some v:=by
    rcases N4 hf with h1|⟨k,xz,r,h1,h2⟩
    ·exact⟨0,h1 _⟩
    ·obtain⟨n,hn⟩:=jf.1 h1
     exact⟨n,h2 _ hn⟩
   obtain⟨n,hn⟩:=this
   exact⟨n,by simp only[hn]⟩
  ·rename_i hf
   split at h
   ·rename_i v hh he
    cases h
    have:∃n,cf (run Φ ext n) σ oo.op=some (v,hh):=by
     rcases NV he with h1|⟨k,xz,r,h1,h2⟩|⟨c,caps,es,es',h1,h2⟩
     ·exact⟨0,h1 _⟩
     ·obtain⟨n,hn⟩:=jf.1 h1
      exact⟨n,h2 _ hn⟩
     ·obtain⟨n,hn⟩:=yY h1
      exact⟨n,h2 _ hn⟩
    obtain⟨n,hn⟩:=this
    refine⟨n,?_⟩
    have hf':bj (run Φ ext n) σ oo.op=none:=by
     cases q:bj (run Φ ext n) σ oo.op with
     |none=>rfl
     |some v=>rw[KT (Qa n) q]at hf;cases hf
    simp only[hf',hn]
   ·cases h
 ·exact⟨0,h⟩
 ·cases h
theorem BM :∀{oos:List AOper}{σ σ':St},ai (ah Φ ext) oos σ=some σ'→∃n,ai (run Φ ext n) oos σ=some σ'
 |[],_,_,h=>⟨0,h⟩
 |o::oos,σ,σ',h=>by
  unfold ai at h
  split at h
  ·rename_i σ1 h1
   obtain⟨n,hn⟩:=Qf h1
   obtain⟨m,hm⟩:=BM h
   refine⟨max n m,?_⟩
   unfold ai
   rw[FS (mV (Nat.le_max_left n m)) hn]
   exact sM (mV (Nat.le_max_right n m)) hm
  ·cases h
theorem HK :∀{c:ACode}{σ:St}{x:Ex×St},aq (ah Φ ext) aB c σ=some x→∃n,aq (run Φ ext n) (eI n) c σ=some x:=by
 have up:∀{c:ACode}{σ:St}{x:Ex×St}{n m:Nat},n≤m→aq (run Φ ext n) (eI n) c σ=some x→aq (run Φ ext m) (eI m) c σ=some x:=fun hnm h=>Ae (mV hnm) (pt hnm) h
 intro c
 induction c with
 |skip=>intro σ x h;exact⟨0,h⟩
 |region ops=>
  intro σ x h
  simp only[aq]at h
  split at h
  ·rename_i σ1 h1
   obtain⟨n,hn⟩:=BM h1
   exact⟨n,by simp only[aq,hn];exact h⟩
  ·cases h
 |seq a b iha ihb=>
  intro σ x h
  simp only[aq]at h
  split at h
  ·rename_i σ1 h1
   obtain⟨n,hn⟩:=iha h1
   obtain⟨m,hm⟩:=ihb h
   exact⟨max n m,by simp only[aq,up (Nat.le_max_left n m) hn];exact up (Nat.le_max_right n m) hm⟩
  ·rename_i hne
   obtain⟨n,hn⟩:=iha h
   refine⟨n,?_⟩
   simp only[aq,hn]
   obtain⟨e,σ2⟩:=x
   cases e with
   |normal=>exact absurd h (hne σ2)
   |_=>rfl
 |cond c a b iha ihb=>
  intro σ x h
  simp only[aq]at h
  split at h
  ·rename_i t ht
   cases t with
   |true=>obtain⟨n,hn⟩:=iha h;exact⟨n,by simp only[aq,ht];exact hn⟩
   |false=>obtain⟨n,hn⟩:=ihb h;exact⟨n,by simp only[aq,ht];exact hn⟩
  ·cases h
 |block id c ih=>
  intro σ x h
  simp only[aq]at h
  split at h
  ·rename_i i σ1 h1
   obtain⟨n,hn⟩:=ih h1
   exact⟨n,by simp only[aq,hn];exact h⟩
  ·rename_i hne
   obtain⟨n,hn⟩:=ih h
   refine⟨n,?_⟩
   simp only[aq,hn]
   obtain⟨e,σ2⟩:=x
   cases e with
   |exit i=>exact absurd h (hne i σ2)
   |_=>rfl
 |loop c ih=>
  intro σ x h
  simp only[aq]at h
  obtain⟨m,hm⟩:=lU.1 h
  clear h
  induction m generalizing σ with
  |zero=>simp[eI]at hm
  |succ m ihm=>
   simp only[eI]at hm
   split at hm
   ·rename_i σ1 h1
    obtain⟨n,hn⟩:=ih h1
    obtain⟨p,hp⟩:=ihm hm
    refine⟨max n p+1,?_⟩
    simp only[aq]at hp⊢
    rw[xr (up (show n≤max n p+1 by omega) hn)]
    exact pt (show p≤max n p by omega) _ _ _ _ (fun σ x hx=>up (show p≤max n p+1 by omega) hx) hp
   ·rename_i hne
    obtain⟨n,hn⟩:=ih hm
    refine⟨n+1,?_⟩
    obtain⟨e,σ2⟩:=x
    simp only[aq]
    refine Bg (up (show n≤n+1 by omega) hn) (fun e1=> ?_)
    subst e1
    exact hne σ2 hm
 |exit id=>intro σ x h;exact⟨0,h⟩
 |ret=>intro σ x h;exact⟨0,h⟩
theorem fC {k:Nat}{fn:AFn}{xz:List V}{r:V}(hk:Φ k=some fn)(h:done fn (fL Φ ext fn.body (start fn xz))=some r):ah Φ ext k xz=some r:=by
 cases hx:fL Φ ext fn.body (start fn xz)with
 |none=>rw[hx]at h;simp[done]at h
 |some x=>
  obtain⟨n,hn⟩:=HK hx
  refine jf.2 ⟨n+1,?_⟩
  simp only[run,hk,hn]
  rw[hx]at h
  exact h
theorem O9 {k:Nat}{xz:List V}{r:V}(hk:Φ k=none)(h:ext k xz=some r)(hlt:k<hZ:=by decide):ah Φ ext k xz=some r:=
 jf.2 ⟨1,by simp only[run,hk];rw[if_neg (by omega)];exact h⟩
theorem nZ {k:Nat}{fn:AFn}{xz:List V}{r:V}(hn:Φ (k+hZ)=none)(hk:Φ k=some fn)(hz:fn.body.noZ=true)(h:ul (dE [] xz).2.length fn (fL Φ ext fn.body (ij fn xz))=some r):ah Φ ext (k+hZ) xz=some r:=by
 cases hx:fL Φ ext fn.body (ij fn xz)with
 |none=>rw[hx]at h;simp[ul]at h
 |some x=>
  obtain⟨n,hn'⟩:=HK hx
  refine jf.2 ⟨n+1,?_⟩
  simp only[run,hn]
  rw[if_pos (by omega),show k+hZ-hZ=k by omega]
  simp only[hk,if_pos hz,hn']
  rw[hx]at h
  exact h
theorem Kd {Γ:Ctx}{P:Program}(im:Impl Γ P kf Φ ext){f k:Nat}{xz:List V}{r:V}(hk:kf f=some k)(h:ah Φ ext k xz=some r):xQ Γ P f xz r:=by
 obtain⟨n,hn⟩:=jf.1 h
 exact Qb im n f k xz r hk hn
end
end Gi
namespace Gi
open Go Go.RowKit
variable {KI:KF}
inductive PTy where
 |int (k:IntKind)
 |bool
 |str
 |lst (ts:List PTy)
mutual
def nQ :PTy→PV→Prop
 | .int k, .int k' n=>k'=k∧(Lit.int k n).wf=true
 | .bool, .bool _=>True
 | .str, .str s=>s.length≤maxLen
 | .lst ts, .lst rows=>rows.length≤maxLen∧∀r∈rows,bi ts r
 |_,_=>False
def bi :List PTy→List PV→Prop
 |[],[]=>True
 |t::ts,p::ps=>nQ t p∧bi ts ps
 |_,_=>False
end
def yy (P:Program)(g:TypeId→Option (List PTy)):List Field→List PTy→Option (List PTy)
 |[],acc=>some acc
 |f::fs,acc=>match g f.type with
  |some us=>if f.offset=acc.length∧P.cellsOf f.type=us.length then yy P g fs (acc++us)else none
  |none=>none
def flatT (P:Program):Nat→TypeId→Option (List PTy)
 |0,_=>none
 |n+1,t=>match P.underlying t with
  |some .bool=>some [.bool]
  |some (.int k)=>some [.int k]
  |some .string=>some [.str]
  |some (.slice e)=>match flatT P n e with
   |some ts=>if ts.isEmpty||P.cellsOf e !=ts.length then none else some [.lst ts]
   |none=>none
  |some (.struct fs)=>match yy P (flatT P n) fs.toList []with
   |some ts=>if P.cellsOf t=ts.length then some ts else none
   |none=>none
  |_=>none
theorem bi.len :∀{ts:List PTy}{ps:List PV},bi ts ps→ts.length=ps.length
 |[],[],_=>rfl
 |_::_,_::_,h=>by simp only[bi]at h;simp[bi.len h.2]
 |[],_::_,h=>by simp[bi]at h
 |_::_,[],h=>by simp[bi]at h
theorem bi.append :∀{ts us:List PTy}{ps qs:List PV},bi ts ps→bi us qs→bi (ts++us) (ps++qs)
 |[],_,[],_,_,h=>h
 |_::_,_,_::_,_,h,k=>by
  simp only[bi,Zf]at h⊢
  exact⟨h.1,bi.append h.2 k⟩
 |[],_,_::_,_,h,_=>by simp[bi]at h
 |_::_,_,[],_,h,_=>by simp[bi]at h
def Sv (w:World)(ps:List PV)(cs:List Value):Prop:=ps.length=cs.length∧∀(i:Nat)(p:PV)(c:Value),ps[i]? =some p→cs[i]? =some c→ap (fun _=>False) w p c
theorem Sv.append {w:World}{ps qs:List PV}{cs ds:List Value}(h:Sv w ps cs)(k:Sv w qs ds):Sv w (ps++qs) (cs++ds):=by
 refine⟨by simp[h.1,k.1],fun i p c hp hc=> ?_⟩
 by_cases hi:i<ps.length
 ·rw[Ze hi]at hp
  rw[Ze (by rw[←h.1];exact hi)]at hc
  exact h.2 i p c hp hc
 ·rw[Zh (by omega)]at hp
  rw[Zh (by rw[←h.1];omega),←h.1]at hc
  exact k.2 _ p c hp hc
theorem NI {H:Type}{enc:TypeId×Value→H}{P:Program}{w:World}:∀(fuel n:Nat)(t:TypeId)(cs:List Value)(d:DataW H)(ps:List MemPlace)(ts:List PTy),DataW.trod enc P w 0 (fun _=>true) true fuel t cs=some (d,ps)→flatT P n t=some ts→
 ∃qs:List PV,bi ts qs∧Sv w qs cs:=by
 intro fuel
 induction fuel with
 |zero=>intro n t cs d ps ts h;simp[DataW.trod]at h
 |succ fuel ih=>
  intro n t cs d ps ts h ht
  cases n with
  |zero=>simp[flatT]at ht
  |succ n=>
   have one:∀{p:PV}{c:Value},ap (fun _=>False) w p c→Sv w [p] [c]:=fun{p c}hr=>⟨rfl,fun i p' c' hp hc=>by
    cases i with
    |zero=>simp at hp hc;subst hp;subst hc;exact hr
    |succ i=>simp at hp⟩
   unfold flatT at ht
   split at ht
   ·rename_i hu
    cases ht
    obtain⟨b,rfl,_⟩:=DataW.trod_bool hu h
    exact⟨[.bool b],by simp[bi,nQ],one (by simp[ap])⟩
   ·rename_i k hu
    cases ht
    obtain⟨m,rfl,_,hwf⟩:=DataW.trod_int hu h
    exact⟨[.int k m],by simp[bi,nQ,hwf],one (by simp[ap])⟩
   ·rename_i hu
    cases ht
    obtain⟨s,rfl,_,hs⟩:=DataW.trod_string hu h
    exact⟨[.str s.data.toList],by simp only[bi,nQ,and_true];exact hs,one (by simp[ap])⟩
   ·rename_i e hu
    split at ht
    ·rename_i us hus
     split at ht
     ·cases ht
     ·rename_i hne
      cases ht
      simp only[Bool.or_eq_true,List.isEmpty_iff,bne_iff_ne,ne_eq,not_or,Decidable.not_not]at hne
      obtain⟨hne1,hne2⟩:=hne
      rcases DataW.trod_slice hu h with⟨rfl,_⟩|⟨ad,len,cap,elems,rest,m,em,rfl,_,_,hlc,hcm,hel,hat,_,_⟩
      ·exact⟨[.lst []],by simp[bi,nQ],one (by simp only[ap];exact .inl ⟨by trivial,_,_,rfl⟩)⟩
      ·obtain rfl:m=fuel:=by omega
       have hpos:0<us.length:=List.length_pos_iff.2 hne1
       have hspot0:0<len→ad.spot=none:=by
        intro hl
        have hx:=hat 0 hl
        have hxe:elems[0]? =some (elems[0]'(by omega)):=by simp[show 0<elems.length by omega]
        rw[hxe]at hx
        cases hcs:w.cells? 0 (ad.add (0*P.cellsOf e)) (P.cellsOf e)with
        |none=>rw[hcs]at hx;simp at hx
        |some ccs=>
         obtain⟨_,c2,c3⟩:=World.cells?_some hcs
         rw[hne2]at c2 c3
         have h0:=c3 0 hpos
         have hc0:ccs[0]? =some (ccs[0]'(by omega)):=by simp[show 0<ccs.length by omega]
         rw[hc0]at h0
         have hadd0:(ad.add (0*us.length)).add 0=ad:=by simp[Addr.add]
         rw[hadd0]at h0
         exact World.cell?_spot h0
       have hrow:∀i,i<len→∃q:List PV,bi us q∧dV (fun _=>False) w q ad.block (ad.off+i*us.length)∧ad.spot=none∧ad.block<w.heap.size:=by
        intro i hi
        have hx:=hat i hi
        have hxe:elems[i]? =some (elems[i]'(by omega)):=by simp[show i<elems.length by omega]
        rw[hxe]at hx
        cases hcs:w.cells? 0 (ad.add (i*P.cellsOf e)) (P.cellsOf e)with
        |none=>rw[hcs]at hx;simp at hx
        |some ccs=>
         rw[hcs]at hx
         simp only[Option.bind_some]at hx
         obtain⟨q,g1,g2⟩:=ih n e ccs _ _ us hx hus
         obtain⟨_,c2,c3⟩:=World.cells?_some hcs
         rw[hne2]at c2 c3
         have h0:=c3 0 hpos
         have hc0:ccs[0]? =some (ccs[0]'(by omega)):=by simp[show 0<ccs.length by omega]
         rw[hc0]at h0
         have hadd0:(ad.add (i*us.length)).add 0=ad.add (i*us.length):=by simp[Addr.add]
         rw[hadd0]at h0
         have hspot:ad.spot=none:=hspot0 (by omega)
         have hb:ad.block<w.heap.size:=by
          have:=World.block_lt_of_cell? w _ h0
          have e2:(ad.add (i*us.length)).block=ad.block:=by unfold Addr.add;split<;>rfl
          rwa[e2]at this
         refine⟨q,g1,dV.of fun j p hp=> ?_,hspot,hb⟩
         have hj:j<us.length:=by rw[g1.len];exact(Zb.1 hp).1
         have hcj:=c3 j hj
         have hcj':ccs[j]? =some (ccs[j]'(by omega)):=by simp[show j<ccs.length by omega]
         rw[hcj']at hcj
         refine⟨_,?_,g2.2 j p _ hp hcj'⟩
         rw[←hcj]
         congr 1
         obtain⟨bb,oo,ss⟩:=ad
         simp only at hspot
         subst hspot
         rw[Addr.add_mid,Addr.add_mid]
       by_cases hl0:len=0
       ·subst hl0
        exact⟨[.lst []],by simp[bi,nQ],one (by simp only[ap];exact .inl ⟨by trivial,_,_,rfl⟩)⟩
       ·obtain⟨rows,hrl,hrows⟩:∃rows:List (List PV),rows.length=len∧∀i q,rows[i]? =some q→bi us q∧dV (fun _=>False) w q ad.block (ad.off+i*us.length):=by
         clear hat hel em h
         have:∀k,k≤len→∃rows:List (List PV),rows.length=k∧∀i q,rows[i]? =some q→bi us q∧dV (fun _=>False) w q ad.block (ad.off+i*us.length):=by
          intro k
          induction k with
          |zero=>intro _;exact⟨[],rfl,fun i q hq=>by simp at hq⟩
          |succ k ihk=>
           intro hk
           obtain⟨rows,r1,r2⟩:=ihk (by omega)
           obtain⟨q,q1,q2,_⟩:=hrow k (by omega)
           refine⟨rows++[q],by simp[r1],fun i q' hq'=> ?_⟩
           by_cases hi:i<rows.length
           ·rw[Ze hi]at hq';exact r2 i q' hq'
           ·rw[Zh (by omega)]at hq'
            have h1:=(Zb.1 hq').1
            simp at h1
            have:i=k:=by omega
            subst this
            rw[r1,Y4]at hq'
            simp at hq';subst hq'
            exact⟨q1,q2⟩
         exact this len (Zl _)
        obtain⟨_,_,_,hspot,hb⟩:=hrow 0 (by omega)
        refine⟨[.lst rows],?_,one ?_⟩
        ·simp only[bi,nQ,and_true]
         refine⟨by omega,fun r hr=> ?_⟩
         obtain⟨i,hi,rfl⟩:=Yp hr
         exact(hrows i _ (Zr hi)).1
        ·simp only[ap]
         obtain⟨bb,oo,ss⟩:=ad
         simp only at hspot hb hrows
         subst hspot
         refine .inr ⟨bb,oo,cap,us.length,by rw[hrl],fun h=>h,hb,cZ.of fun i q hq=> ?_,by rw[hrl];exact hlc⟩
         obtain⟨g1,g2⟩:=hrows i q hq
         exact⟨g1.len.symm,g2⟩
    ·cases ht
   ·rename_i fs hu
    split at ht
    ·rename_i ts' hts
     split at ht
     ·rename_i hcl
      cases ht
      obtain⟨xs,m,em,_,hl,hxl,hf⟩:=DataW.trod_struct hu h
      obtain rfl:m=fuel:=by omega
      have key:∀(fl:List Field)(acc out:List PTy)(k:Nat),(∀j,fl[j]? =fs[k+j]?)→yy P (flatT P n) fl acc=some out→(∃qs,bi acc qs∧Sv w qs (cs.take acc.length))→out.length≤cs.length→∃qs,bi out qs∧Sv w qs (cs.take out.length):=by
       intro fl
       induction fl with
       |nil=>intro acc out k _ ho hq _;simp[yy]at ho;subst ho;exact hq
       |cons f fl ihf=>
        intro acc out k hfl ho hq hle
        unfold yy at ho
        split at ho
        ·rename_i us hus
         split at ho
         ·rename_i hoff
          obtain⟨ho1,ho2⟩:=hoff
          have hfk:fs[k]? =some f:=by simpa using(hfl 0).symm
          have hx:=hf k f hfk
          have hkx:k<xs.length:=by rw[hxl];exact(Y6.1 hfk).1
          have hx2:xs[k]? =some xs[k]:=by simp[hkx]
          rw[hx2]at hx
          obtain⟨qs2,g1,g2⟩:=ih n f.type _ _ _ us hx hus
          obtain⟨qs1,p1,p2⟩:=hq
          refine ihf (acc++us) out (k+1) (fun j=>by have:=hfl (j+1);simpa[Xj,Nat.add_comm 1 j]using this) ho ⟨qs1++qs2,p1.append g1,?_⟩ hle
          have e:cs.take (acc++us).length=cs.take acc.length++(cs.drop f.offset).take (P.cellsOf f.type):=by
           rw[ho1,ho2,Zu,List.take_add]
          rw[e]
          exact p2.append g2
         ·cases ho
        ·cases ho
      obtain⟨qs,g1,g2⟩:=key fs.toList [] ts 0 (by simp) hts ⟨[],by simp[bi],by simp[Sv]⟩ (by rw[hl,hcl];exact Zl _)
      refine⟨qs,g1,?_⟩
      rw[show ts.length=cs.length by rw[hl,hcl],Yq]at g2
      exact g2
     ·cases ht
    ·cases ht
   ·cases ht
def U5 (g:Bool)(qs:List PV):V:=if g then .agg (qs.map .pv)else(match qs with|[q]=> .one (.pv q)|_=> .tup [])
theorem Hy {H:Type}{enc:TypeId×Value→H}{P:Program}{w:World}{t:TypeId}{v:Value}{d:DataW H}{ps:List MemPlace}{n:Nat}{ts:List PTy}{g:Bool}(h:DataW.Trod enc P w 0 (fun _=>true) true t v d ps)(ht:flatT P n t=some ts)
 (hg:(g=true∧∃cs,v= .agg cs)∨(g=false∧ts.length=1∧∀cs,v≠ .agg cs)):∃qs,bi ts qs∧VR (fun _=>False) w [] [] (U5 g qs) v:=by
 obtain⟨fuel,hf⟩:=h
 obtain⟨qs,h1,h2⟩:=NI fuel n t _ d ps ts hf ht
 refine⟨qs,h1,?_⟩
 rcases hg with⟨rfl,cs,rfl⟩|⟨rfl,hl,hv⟩
 ·refine⟨cs,rfl,by simpa[Value.cells]using h2.1,fun i l c hl hc=> ?_⟩
  simp only[Zp,Zj]at hl
  obtain⟨q,hq,rfl⟩:=hl
  exact h2.2 i q c hq hc
 ·have hq1:qs.length=1:=by rw[←h1.len];exact hl
  obtain⟨q,rfl⟩:=Ye.1 hq1
  have hvc:v.cells= #[v]:=by
   cases v with
   |agg cs=>exact absurd rfl (hv cs)
   |_=>rfl
  rw[hvc]at h2
  exact h2.2 0 q v rfl rfl
theorem PT {Γ:Ctx}{P:Program}{Φ:Nat→Option AFn}{ext:Nat→List V→Option V}(im:Impl Γ P kf Φ ext){f k:Nat}(hk:kf f=some k){xz:List V}(h:ah Φ ext k xz=some (av true)){W:World}{args:Array Value}(hG:Γ.G W)
 (ha:qz (fun _=>False) W xz args.toList):Calls P f args W fun e W'=>e= .returned (.bool true)∧Below W.heap.size W W':=by
 obtain⟨_,hs⟩:=Kd im hk h
 refine(hs (fun _=>False) W args hG (fun _ h=>h.elim) ha).mono fun e W'⟨v,he,hb,hr⟩=> ?_
 obtain⟨ρ',_,hv⟩:=hr
 have:v= .bool true:=by simpa[thaw,thawL,VR,LR,ap]using hv
 exact⟨by rw[he,this],hb⟩
end Gi
namespace Gi
open Go Go.RowKit
attribute [local simp] start fL aq ai az aK bj Opd.ev put asList L.view bin bV isBool done aY ar bQ bM comp aJ bH al V.cells
theorem uJ (f:St→Option (Ex×St))(σ:St):aB f σ=(match f σ with
 |some (.normal,σ')=>aB f σ'
 |r=>r):=by
 cases h:f σ with
 |none=>
  cases hl:aB f σ with
  |none=>rfl
  |some r=>
   obtain⟨n,hn⟩:=lU.1 hl
   cases n with
   |zero=>simp[eI]at hn
   |succ n=>simp[eI,h]at hn
 |some x=>
  obtain⟨e,σ'⟩:=x
  cases e with
  |normal=>exact f7 h
  |exit i=>exact iO h (by simp)
  |ret=>exact iO h (by simp)
def EW :L→PV
 | .pv p=>p
 | .own _ es=> .lst es
 | .down _ es=> .lst es
 |_=> .lst []
theorem qt (h:List AObj):∀(ps:List PV),viewL h (ps.map .pv)=some ps
 |[]=>rfl
 |p::ps=>by simp only[Zv,viewL,L.view,qt h ps]
theorem sC (h:List AObj)(ps:List PV):V.view h (.agg (ps.map .pv))=some (.agg (ps.map .pv)):=by simp only[V.view,qt]
theorem om :∀(ls:List L)(h:List AObj),ls.all L.clean=true→∃t,(thawL h ls).2=h++t:=fun ls h hc=>(kV ls h hc).2.1
theorem sB :∀(ls:List L)(h:List AObj),ls.all L.clean=true→viewL (thawL h ls).2 (thawL h ls).1=some (ls.map EW)
 |[],h,_=>rfl
 |l::ls,h,hc=>by
  simp only[Zq,Zm]at hc
  cases l with
  |own z es=>
   simp only[thawL,Zv,viewL]
   obtain⟨t,ht⟩:=om ls (h++[.arr z es]) hc.2
   rw[sB ls _ hc.2]
   have:L.view (thawL (h++[AObj.arr z es]) ls).2 (.arr h.length)=some (.lst es):=by
    rw[ht]
    simp[L.view]
   rw[this]
   rfl
  |down z es=>
   simp only[thawL,Zv,viewL]
   obtain⟨t,ht⟩:=om ls (h++[.darr z es]) hc.2
   rw[sB ls _ hc.2]
   have:L.view (thawL (h++[AObj.darr z es]) ls).2 (.arr h.length)=some (.lst es):=by
    rw[ht]
    simp[L.view]
   rw[this]
   rfl
  |pv p=>simp only[thawL,Zv,viewL,L.view,sB ls h hc.2];rfl
  |nil=>simp only[thawL,Zv,viewL,L.view,sB ls h hc.2];rfl
  |_=>simp[L.clean]at hc
theorem oq :∀(ls:List L)(h:List AObj)(o:Nat),ls.all L.clean=true→o<h.length→(thawL h ls).1.all (L.notArr o)=true
 |[],_,_,_,_=>rfl
 |l::ls,h,o,hc,ho=>by
  simp only[Zq,Zm]at hc
  cases l with
  |own z es=>
   simp only[thawL,Zq,Zm]
   exact⟨by simp[L.notArr];omega,oq ls _ o hc.2 (by simp;omega)⟩
  |down z es=>
   simp only[thawL,Zq,Zm]
   exact⟨by simp[L.notArr];omega,oq ls _ o hc.2 (by simp;omega)⟩
  |pv p=>simp only[thawL,Zq,Zm];exact⟨rfl,oq ls h o hc.2 ho⟩
  |nil=>simp only[thawL,Zq,Zm];exact⟨rfl,oq ls h o hc.2 ho⟩
  |_=>simp[L.clean]at hc
theorem FA {α:Type}(a b:List α)(h:a.length=b.length):putAt a 0 b=b:=by
 simp[putAt,h.symm]
theorem BP (h:List AObj):∀(ps:List PV),freezeLs h (ps.map .pv)=h
 |[]=>rfl
 |p::ps=>by
  show freezeLs (freezeL h (.pv p)) (ps.map .pv)=h
  exact BP h ps
theorem BQ (h:List AObj)(ps:List PV):freezeVs h [.agg (ps.map .pv)]=h:=BP h ps
theorem P3 (o:Nat)(ps:List PV):(ps.map L.pv).all (L.notArr o)=true:=by
 simp[L.notArr]
theorem Ty {rows:List (List PV)}{k m:Nat}{zero:List PV}(h:k+(m+1)=rows.length):(rows.take k++List.replicate (m+1) zero)[k]? =some zero:=by
 rw[Zh (by simp;omega),List.getElem?_replicate]
 rw[if_pos (by simp;omega)]
theorem Rj {rows:List (List PV)}{k m:Nat}{zero:List PV}(h:k+(m+1)=rows.length):(rows.take k++List.replicate (m+1) zero).set k (rows[k]'(by omega))=rows.take (k+1)++List.replicate m zero:=by
 have hk:k<rows.length:=by omega
 rw[Y3 _ _ (by simp;omega)]
 have:k-(rows.take k).length=0:=by simp;omega
 rw[this,List.replicate_succ,Yd,Z5 hk,Zo]
 rfl
section
variable {Φ:Nat→Option AFn}{ext:Nat→List V→Option V}
def BS (i a t0:Nat):ACode:= .seq (.region [⟨some t0, .mv (.tmp i),none⟩,⟨some (t0+1), .mv (.tmp a),none⟩,⟨some (t0+2), .len (.tmp (t0+1)),none⟩,⟨some (t0+3), .bin .lss (.tmp t0) (.tmp (t0+2)),none⟩]) (.cond (.tmp (t0+3)) .skip (.exit 0))
def IZ (i t0:Nat):ACode:= .region [⟨some t0, .mv (.tmp i),none⟩,⟨some (t0+1), .bin .add (.tmp t0) (.pv (.int .i64 1)),none⟩,⟨some i, .mv (.tmp (t0+1)),none⟩]
theorem j4 {k:Nat}(h:k<9223372036854775807):IntKind.i64.wrap ((k:Int)+1)=(k:Int)+1:=by
 rw[IntKind.wrap_i64];omega
def U4 (Φ:Nat→Option AFn)(ext:Nat→List V→Option V)(kx:Nat)(fl:Bool)(r:List PV):Prop:=
 ∃ls,ah Φ ext kx [.agg (r.map .pv)]=some (.agg ls)∧ls.all L.clean=true∧ls.map EW=r∧(fl=true→ls=r.map .pv∧ls.all L.flat=true)
def xL (t0:Nat):List AOper:=[⟨some t0, .mv (.tmp 1),none⟩,⟨some (t0+1), .mv (.tmp 0),none⟩,⟨some (t0+2), .len (.tmp (t0+1)),none⟩,⟨some (t0+3), .bin .sub (.tmp t0) (.tmp (t0+2)),none⟩,⟨some 1, .mv (.tmp (t0+3)),none⟩]
def pe (t0:Nat):ACode:= .seq (.region [⟨some t0, .mv (.tmp 1),none⟩,⟨some (t0+1), .bin .lss (.tmp t0) (.pv (.int .i64 0)),none⟩]) (.cond (.tmp (t0+1)) (.seq (.region [⟨some 4, .mv (.pv (.int .i64 (-1))),none⟩]) .ret) .skip)
def tg (z kx:Nat):ACode:= .seq (BS 5 0 12) (.seq (.block 1 (.seq (.region [⟨some 18, .mv (.tmp 0),none⟩,⟨some 19, .mv (.tmp 5),none⟩,⟨some 20, .indexA z (.tmp 18) (.tmp 19),none⟩,⟨some 21, .load true z (.tmp 20),none⟩,⟨some 22, .mv (.tmp 1),none⟩,⟨some 23, .call kx [.tmp 21, .tmp 22] true false,none⟩,⟨some 1, .mv (.tmp 23),none⟩]) (pe 24))) (IZ 5 16))
def Jx (z kx:Nat):AFn:=⟨27,[.tmp 4], .seq (.region [⟨some 4, .mv (.pv (.int .i64 0)),none⟩]) (.seq (.region (xL 6)) (.seq (pe 10) (.seq (.seq (.region [⟨some 5, .mv (.pv (.int .i64 0)),none⟩]) (.block 0 (.loop (tg z kx)))) (.seq (.region [⟨some 26, .mv (.tmp 1),none⟩,⟨some 4, .mv (.tmp 26),none⟩]) .ret))))⟩
def TJ :AFn:=⟨12,[.tmp 4], .seq (.region [⟨some 4, .mv (.pv (.int .i64 0)),none⟩]) (.seq (.region (xL 5)) (.seq (pe 9) (.seq (.region [⟨some 11, .mv (.tmp 1),none⟩,⟨some 4, .mv (.tmp 11),none⟩]) .ret)))⟩
mutual
def sz :PV→Nat
 | .str s=>s.length
 | .lst rows=>rows.length+bI rows
 |_=>0
def fA :List PV→Nat
 |[]=>0
 |p::ps=>sz p+fA ps
def bI :List (List PV)→Nat
 |[]=>0
 |r::rs=>fA r+bI rs
end
def less (left:Int)(n:Nat):Int:=if left<n then-1 else left-n
def DE (Φ:Nat→Option AFn)(ext:Nat→List V→Option V)(kx:Nat)(r:List PV):Prop:=
 ∀left:Int,0≤left→left≤1048576→ah Φ ext kx [.agg (r.map .pv),aa .i64 left]=some (aa .i64 (less left (fA r)))
theorem sd {left:Int}{a b:Nat}(h:0≤less left a):less (less left a) b=less left (a+b):=by
 unfold less at*
 split at h
 ·omega
 ·rename_i h1
  rw[if_neg h1]
  by_cases h2:left-(a:Int)<b
  ·rw[if_pos h2,if_pos (by omega)]
  ·rw[if_neg h2,if_neg (by omega)];omega
theorem K5 {left:Int}{a b:Nat}(h0:0≤left)(h:less left a<0):less left (a+b)= -1:=by
 unfold less at*
 split at h
 ·rw[if_pos (by omega)]
 ·omega
theorem Uh {k:Nat}{rows:List (List PV)}(hk:Φ k=some TJ)(hlen:rows.length≤maxLen){left:Int}(h0:0≤left)(h1:left≤1048576):ah Φ ext k [ba rows,aa .i64 left]=some (aa .i64 (less left rows.length)):=by
 refine fC hk ?_
 have hw:IntKind.i64.wrap (left-rows.length)=left-rows.length:=by unfold maxLen at hlen;rw[IntKind.wrap_i64];omega
 by_cases hl:left<rows.length
 ·have:left-(rows.length:Int)<0:=by omega
  simp[TJ,xL,pe,hw,this,less,hl]
 ·have:¬left-(rows.length:Int)<0:=by omega
  simp[TJ,xL,pe,hw,this,less,hl]
end
end Gi
