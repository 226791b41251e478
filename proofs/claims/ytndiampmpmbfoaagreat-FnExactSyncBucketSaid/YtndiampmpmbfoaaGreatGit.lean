/- A part. -/
import Derived.Test.YtndiampmpmbfoaaGreatGiq
import Derived.DataReads
import Derived.ChangeOld
import Derived.ProofKit
import Derived.KernelRfl
set_option linter.all false
namespace Gi
open Go Go.RowKit
variable {KI:KF}
def VB (f g:Nat->List V->Option V):Prop:=∀k xz r,f k xz=some r->g k xz=some r
def P0 {call:Nat->List V->Option V}{Z:St}{ao:AOp}{v:V}(hf:bG call Z ao=some v):(∀call',bG call' Z ao=some v) \/∃k xz r,call k xz=some r/\ ∀call',call' k xz=some r->bG call' Z ao=some v:=by
 cases ao with
 |call f args fl fz=>
  right
  simp only[bG]at hf⊢
  split at hf
  ·rename_i h1
   split at hf
   ·rename_i h2
    split at hf
    ·rename_i xz has
     split at hf
     ·rename_i r hr
      refine⟨f,xz,r,hr,fun call' h'=> ?_⟩
      rw[if_pos h1,if_pos h2]
      simp only[has,h']
      exact hf
     ·cases hf
    ·cases hf
   ·cases hf
  ·cases hf
 |bm x args=>
  right
  simp only[bG]at hf⊢
  split at hf
  ·rename_i k caps hx
   split at hf
   ·rename_i xz has
    split at hf
    ·rename_i r hr
     refine⟨_,_,r,hr,fun call' h'=> ?_⟩
     simp only[hx,has,h']
     exact hf
    ·cases hf
   ·cases hf
  ·cases hf
 |bb f args=>
  right
  simp only[bG]at hf⊢
  split at hf
  ·rename_i xz has
   split at hf
   ·rename_i r hr
    refine⟨_,_,r,hr,fun call' h'=> ?_⟩
    simp only[has,h']
    exact hf
   ·cases hf
  ·cases hf
 |_=>exact .inl fun _=>hf
def Oi {call:Nat->List V->Option V}{h:List Y0}{f:Nat}{x:V}{n:Int}{y:V×List Y0}(hf:kP call h f x n=some y):∃k xz r,call k xz=some r/\ ∀call':Nat->List V->Option V,call' k xz=some r->kP call' h f x n=some y:=by
 unfold kP at hf
 split at hf
 ·split at hf
  ·rename_i ho
   split at hf
   ·rename_i aw
    split at hf
    ·rename_i hr
     refine⟨_,_,_,hr,fun call' h'=> ?_⟩
     simp only[kP,ho,aw,h']
     exact hf
    ·cases hf
   ·rename_i a2 aw
    split at hf
    ·rename_i hr
     refine⟨_,_,_,hr,fun call' h'=> ?_⟩
     simp only[kP,ho,aw,h']
     exact hf
    ·cases hf
   ·cases hf
  ·cases hf
 ·rename_i aQ
  split at hf
  ·rename_i aR
   split at hf
   ·rename_i a hl
    split at hf
    ·rename_i hr
     refine⟨_,_,_,hr,fun call' h'=> ?_⟩
     unfold kP
     split
     ·rename_i o c;exact absurd rfl (aQ o c)
     ·rw[if_pos aR]
      simp only[hl,h']
      exact hf
    ·cases hf
   ·cases hf
  ·cases hf
def PQ {call:Nat->List V->Option V}{Z:St}{ao:AOp}{x:V×List Y0}(hf:cz call Z ao=some x):(∀call',cz call' Z ao=some x) \/(∃k xz r,call k xz=some r/\ ∀call',call' k xz=some r->cz call' Z ao=some x) \/
 ∃c caps es es',fF call c caps es=some es'/\ ∀call',fF call' c caps es=some es'->cz call' Z ao=some x:=by
 cases ao with
 |call f args fl fz=>
  right;left
  cases fl<;>cases fz<;>simp only[cz]at hf⊢ <;>try (cases hf;done)
  split at hf
  ·rename_i xz has
   split at hf
   ·rename_i r hr
    refine⟨_,_,r,hr,fun call' h'=> ?_⟩
    simp only[has,h']
    exact hf
   ·cases hf
  ·cases hf
 |bR f args=>
  right;left
  simp only[cz]at hf⊢
  split at hf
  ·rename_i xz has
   split at hf
   ·rename_i r hr
    refine⟨_,_,r,hr,fun call' h'=> ?_⟩
    simp only[has,h']
    exact hf
   ·cases hf
  ·cases hf
 |bO f args=>
  right;left
  simp only[cz]at hf⊢
  split at hf
  ·rename_i xz has
   split at hf
   ·rename_i r hr
    refine⟨_,_,r,hr,fun call' h'=> ?_⟩
    simp only[has,h']
    exact hf
   ·cases hf
  ·cases hf
 |bq f args=>
  right;left
  simp only[cz]at hf⊢
  split at hf
  ·rename_i e he
   split at hf
   ·rename_i e' ps hr
    refine⟨_,_,_,hr,fun call' h'=> ?_⟩
    simp only[he,h']
    exact hf
   ·cases hf
  ·cases hf
 |bc f args=>
  right;left
  simp only[cz]at hf⊢
  split at hf
  ·rename_i xz has
   split at hf
   ·rename_i r hr
    refine⟨_,_,r,hr,fun call' h'=> ?_⟩
    simp only[has,h']
    exact hf
   ·cases hf
  ·cases hf
 |c3 k z x f=>
  simp only[cz]at hf
  split at hf
  ·rename_i c cs hx hg
   left
   intro call'
   simp only[cz,hx,hg]
   exact hf
  ·rename_i o c cs hx hg
   right;right
   split at hf
   ·rename_i z' es aS
    split at hf
    ·rename_i hz
     split at hf
     ·rename_i es' hr
      refine⟨_,_,_,_,hr,fun call' h'=> ?_⟩
      simp only[cz,hx,hg,aS,if_pos hz,h']
      exact hf
     ·cases hf
    ·cases hf
   ·cases hf
  ·cases hf
 |bd f x k=>
  right;left
  simp only[cz]at hf⊢
  split at hf
  ·rename_i n hn
   obtain⟨k,xz,r,h1,h2⟩:=Oi hf
   exact⟨k,xz,r,h1,fun call' h'=>by first|exact h2 call' h'|(simp only[hn];exact h2 call' h')⟩
  ·cases hf
 |_=>exact .inl fun _=>hf
def te {call call':Nat->List V->Option V}(h:VB call call'){c:Nat}{caps:List V}:∀{es es':List (List PV)},fF call c caps es=some es'->fF call' c caps es=some es'
 |[],_,e=>e
 |x::xs,_,e=>by
  simp only[fF]at e⊢
  split at e
  ·rename_i b hb
   split at e
   ·rename_i r hr
    simp only[h _ _ _ hb,te h hr]
    exact e
   ·cases e
  ·cases e
def Mz {call call':Nat->List V->Option V}(h:VB call call'){Z:St}{ao:AOp}{v:V}(hf:bG call Z ao=some v):bG call' Z ao=some v:=by
 rcases P0 hf with h1|⟨k,xz,r,h1,h2⟩
 ·exact h1 _
 ·exact h2 _ (h _ _ _ h1)
def Tj {call call':Nat->List V->Option V}(h:VB call call'){Z:St}{ao:AOp}{x:V×List Y0}(hf:cz call Z ao=some x):cz call' Z ao=some x:=by
 rcases PQ hf with h1|⟨k,xz,r,h1,h2⟩|⟨c,caps,es,es',h1,h2⟩
 ·exact h1 _
 ·exact h2 _ (h _ _ _ h1)
 ·exact h2 _ (te h h1)
def PR {call call':Nat->List V->Option V}{Z:St}{ao:AOp}{x:V×List Y0}(hf:cz call Z ao=some x):bG call' Z ao=none:=by
 cases ao with
 |call f args fl fz=>cases fl<;>cases fz<;>first|rfl|cases hf
 |_=>first|rfl|cases hf
def Hi {call call':Nat->List V->Option V}(h:VB call call'){oo:Z0}{Z Z':St}(hs:aG call oo Z=some Z'):aG call' oo Z=some Z':=by
 unfold aG at*
 split at hs
 ·split at hs
  ·rename_i v hv
   rw[Mz h hv]
   exact hs
  ·split at hs
   ·rename_i v h' he
    cases hs
    rw[PR (call':=call') he,Tj h he]
   ·cases hs
 ·exact hs
 ·cases hs
def uh {call call':Nat->List V->Option V}(h:VB call call'):∀{ab:List Z0}{Z Z':St},ah call ab Z=some Z'->ah call' ab Z=some Z'
 |[],_,_,hs=>hs
 |o::ab,Z,Z',hs=>by
  unfold ah at*
  split at hs
  ·rename_i σ1 h1
   rw[Hi h h1]
   exact uh h hs
  ·cases hs
def W4 (f g:(St->Option (Ex×St))->St->Option (Ex×St)):Prop:=∀F G Z x,(∀Z x,F Z=some x->G Z=some x)->f F Z=some x->g G Z=some x
def wN {call call':Nat->List V->Option V}{lp aJ:(St->Option (Ex×St))->St->Option (Ex×St)}(h:VB call call')(hl:W4 lp aJ):∀{c:Y5}{Z:St}{x:Ex×St},ap call lp c Z=some x->ap call' aJ c Z=some x:=by
 intro c
 induction c with
 |skip=>intro Z x hs;exact hs
 |region ops=>
  intro Z x hs
  simp only[ap]at*
  split at hs
  ·rename_i σ1 h1;rw[uh h h1];exact hs
  ·cases hs
 |seq a b a8 ae=>
  intro Z x hs
  simp only[ap]at*
  split at hs
  ·rename_i σ1 h1;rw[a8 h1];exact ae hs
  ·rename_i a2
   rw[a8 hs]
   obtain⟨e,σ2⟩:=x
   cases e with
   |normal=>exact absurd hs (a2 σ2)
   |_=>rfl
 |cond c a b a8 ae=>
  intro Z x hs
  simp only[ap]at*
  split at hs
  ·rename_i t ht
   cases t with
   |true=>exact a8 hs
   |false=>exact ae hs
  ·cases hs
 |block id c ih=>
  intro Z x hs
  simp only[ap]at*
  split at hs
  ·rename_i i σ1 h1;rw[ih h1];exact hs
  ·rename_i a2
   rw[ih hs]
   obtain⟨e,σ2⟩:=x
   cases e with
   |exit i=>exact absurd hs (a2 i σ2)
   |_=>rfl
 |loop c ih=>
  intro Z x hs
  simp only[ap]at*
  exact hl _ _ Z x (fun Z x=>ih) hs
 |exit id=>intro Z x hs;exact hs
 |ret=>intro Z x hs;exact hs
def pa {n m:Nat}(av:n<=m):W4 (eG n) (eG m):=by
 induction n generalizing m with
 |zero=>intro F G Z x _ h;simp[eG]at h
 |succ n ih=>
  intro F G Z x ax h
  obtain⟨m,rfl⟩:∃m',m=m'+1:=⟨m-1,by omega⟩
  simp only[eG]at h⊢
  split at h
  ·rename_i σ1 h1
   rw[ax _ _ h1]
   exact ih (m:=m) (by omega) F G σ1 x ax h
  ·rename_i a2
   rw[ax _ _ h]
   obtain⟨e,σ2⟩:=x
   cases e with
   |normal=>exact absurd h (a2 σ2)
   |_=>rfl
def yN {n:Nat}{f:St->Option (Ex×St)}{Z Z':St}(h:f Z=some (.normal,Z')):eG (n+1) f Z=eG n f Z':=by simp only[eG,h]
def Cn {n:Nat}{f:St->Option (Ex×St)}{Z Z':St}{e:Ex}(h:f Z=some (e,Z'))(he:e≠ .normal):eG (n+1) f Z=some (e,Z'):=by
 simp only[eG,h]
 cases e with
 |normal=>exact absurd rfl he
 |_=>rfl
section
variable {Φ:Nat->Option AFn}{ext:Nat->List V->Option V}
def mh :∀{n m:Nat},n<=m->VB (run Φ ext n) (run Φ ext m)
 |0,_,_=>fun _ _ _ h=>by simp[run]at h
 |n+1,m,av=>fun k xz r h=>by
  obtain⟨m,rfl⟩:∃m',m=m'+1:=⟨m-1,by omega⟩
  simp only[run]at h⊢
  split at h
  ·split at h
   ·rename_i hk
    rw[if_pos hk]
    split at h
    ·rename_i fn _
     split at h
     ·rename_i hz
      rw[if_pos hz]
      have key:∀{x:Ex×St},ap (run Φ ext n) (eG n) fn.body (jx fn xz)=some x->ap (run Φ ext m) (eG m) fn.body (jx fn xz)=some x:=wN (mh (by omega)) (pa (by omega))
      cases hx:ap (run Φ ext n) (eG n) fn.body (jx fn xz)with
      |none=>rw[hx]at h;simp[xD]at h
      |some x=>rw[key hx];rw[hx]at h;exact h
     ·cases h
    ·split at h
     ·rename_i aT
      rw[if_pos aT]
      split at h
      ·rename_i fn hp ay _ _
       split at h
       ·rename_i hz
        rw[if_pos hz]
        have key:∀{x:Ex×St},ap (run Φ ext n) (eG n) fn.body (la fn ay hp)=some x->ap (run Φ ext m) (eG m) fn.body (la fn ay hp)=some x:=wN (mh (by omega)) (pa (by omega))
        cases hx:ap (run Φ ext n) (eG n) fn.body (la fn ay hp)with
        |none=>rw[hx]at h;simp[Fi]at h
        |some x=>rw[key hx];rw[hx]at h;exact h
       ·cases h
      ·cases h
     ·cases h
   ·rename_i hk
    rw[if_neg hk]
    exact h
  ·rename_i fn _
   have key:∀{x:Ex×St},ap (run Φ ext n) (eG n) fn.body (start fn xz)=some x->ap (run Φ ext m) (eG m) fn.body (start fn xz)=some x:=wN (mh (by omega)) (pa (by omega))
   cases hx:ap (run Φ ext n) (eG n) fn.body (start fn xz)with
   |none=>rw[hx]at h;simp[done]at h
   |some x=>rw[key hx];rw[hx]at h;exact h
variable (Φ ext)in
noncomputable def ag (k:Nat)(xz:List V):Option V:=
 open Classical in if h:∃n r,run Φ ext n k xz=some r then some (Classical.choose (Classical.choose_spec h))else none
def iR {k:Nat}{xz:List V}{r:V}:ag Φ ext k xz=some r↔∃n,run Φ ext n k xz=some r:=by
 unfold ag
 split
 ·rename_i h
  have hs:=Classical.choose_spec (Classical.choose_spec h)
  constructor
  ·intro e;cases e;exact⟨_,hs⟩
  ·rintro⟨n,hn⟩
   have h1:=mh (Φ:=Φ) (ext:=ext) (Nat.le_max_left (Classical.choose h) n) _ _ _ hs
   have h2:=mh (Φ:=Φ) (ext:=ext) (Nat.le_max_right (Classical.choose h) n) _ _ _ hn
   rw[h1]at h2
   exact h2
 ·rename_i h
  constructor
  ·intro e;cases e
  ·rintro⟨n,hn⟩;exact absurd ⟨n,r,hn⟩ h
noncomputable def aF (f:St->Option (Ex×St))(Z:St):Option (Ex×St):=
 open Classical in if h:∃n r,eG n f Z=some r then some (Classical.choose (Classical.choose_spec h))else none
def nc {f:St->Option (Ex×St)}{Z:St}{r:Ex×St}:aF f Z=some r↔∃n,eG n f Z=some r:=by
 unfold aF
 split
 ·rename_i h
  have hs:=Classical.choose_spec (Classical.choose_spec h)
  constructor
  ·intro e;cases e;exact⟨_,hs⟩
  ·rintro⟨n,hn⟩
   have h1:=pa (Nat.le_max_left (Classical.choose h) n) f f Z _ (fun _ _ h=>h) hs
   have h2:=pa (Nat.le_max_right (Classical.choose h) n) f f Z _ (fun _ _ h=>h) hn
   rw[h1]at h2
   exact h2
 ·rename_i h
  constructor
  ·intro e;cases e
  ·rintro⟨n,hn⟩;exact absurd ⟨n,r,hn⟩ h
def gF {f:St->Option (Ex×St)}{Z Z':St}(h:f Z=some (.normal,Z')):aF f Z=aF f Z':=by
 apply Option.ext
 intro r
 rw[nc,nc]
 constructor
 ·rintro⟨n,hn⟩
  cases n with
  |zero=>simp[eG]at hn
  |succ n=>simp only[eG,h]at hn;exact⟨n,hn⟩
 ·rintro⟨n,hn⟩
  exact⟨n+1,by simp only[eG,h];exact hn⟩
def jt {f:St->Option (Ex×St)}{Z Z':St}{e:Ex}(h:f Z=some (e,Z'))(he:e≠ .normal):aF f Z=some (e,Z'):=by
 rw[nc]
 refine⟨1,?_⟩
 simp only[eG,h]
 cases e with
 |normal=>exact absurd rfl he
 |_=>rfl
variable (Φ ext)in
noncomputable def fB (c:Y5)(Z:St):Option (Ex×St):=ap (ag Φ ext) aF c Z
def R6 (n:Nat):VB (run Φ ext n) (ag Φ ext):=fun _ _ _ h=>iR.2 ⟨n,h⟩
def Aw {c:Nat}{caps:List V}:∀{es es':List (List PV)},fF (ag Φ ext) c caps es=some es'->∃n,fF (run Φ ext n) c caps es=some es'
 |[],_,e=>⟨0,e⟩
 |x::xs,_,e=>by
  simp only[fF]at e
  split at e
  ·rename_i b hb
   split at e
   ·rename_i r hr
    obtain⟨n,hn⟩:=iR.1 hb
    obtain⟨m,hm⟩:=Aw hr
    exact⟨n+m,by simp only[fF,mh (B' n m) _ _ _ hn,te (mh (Nat.le_add_left m n)) hm];exact e⟩
   ·cases e
  ·cases e
def Sb {oo:Z0}{Z Z':St}(h:aG (ag Φ ext) oo Z=some Z'):∃n,aG (run Φ ext n) oo Z=some Z':=by
 unfold aG at h⊢
 split at h
 ·split at h
  ·rename_i v hf
   cases h
   have:∃n,bG (run Φ ext n) Z oo.op=some v:=by
    rcases P0 hf with h1|⟨k,xz,r,h1,h2⟩
    ·exact⟨0,h1 _⟩
    ·obtain⟨n,hn⟩:=iR.1 h1
     exact⟨n,h2 _ hn⟩
   obtain⟨n,hn⟩:=this
   exact⟨n,by simp only[hn]⟩
  ·rename_i hf
   split at h
   ·rename_i v hh he
    cases h
    have:∃n,cz (run Φ ext n) Z oo.op=some (v,hh):=by
     rcases PQ he with h1|⟨k,xz,r,h1,h2⟩|⟨c,caps,es,es',h1,h2⟩
     ·exact⟨0,h1 _⟩
     ·obtain⟨n,hn⟩:=iR.1 h1
      exact⟨n,h2 _ hn⟩
     ·obtain⟨n,hn⟩:=Aw h1
      exact⟨n,h2 _ hn⟩
    obtain⟨n,hn⟩:=this
    refine⟨n,?_⟩
    have aU:bG (run Φ ext n) Z oo.op=none:=by
     cases q:bG (run Φ ext n) Z oo.op with
     |none=>rfl
     |some v=>rw[Mz (R6 n) q]at hf;cases hf
    simp only[aU,hn]
   ·cases h
 ·exact⟨0,h⟩
 ·cases h
def C3 :∀{ab:List Z0}{Z Z':St},ah (ag Φ ext) ab Z=some Z'->∃n,ah (run Φ ext n) ab Z=some Z'
 |[],_,_,h=>⟨0,h⟩
 |o::ab,Z,Z',h=>by
  unfold ah at h
  split at h
  ·rename_i σ1 h1
   obtain⟨n,hn⟩:=Sb h1
   obtain⟨m,hm⟩:=C3 h
   refine⟨max n m,?_⟩
   unfold ah
   rw[Hi (mh (Nat.le_max_left n m)) hn]
   exact uh (mh (Nat.le_max_right n m)) hm
  ·cases h
def Bl :∀{c:Y5}{Z:St}{x:Ex×St},ap (ag Φ ext) aF c Z=some x->∃n,ap (run Φ ext n) (eG n) c Z=some x:=by
 have up:∀{c:Y5}{Z:St}{x:Ex×St}{n m:Nat},n<=m->ap (run Φ ext n) (eG n) c Z=some x->ap (run Φ ext m) (eG m) c Z=some x:=fun av h=>wN (mh av) (pa av) h
 intro c
 induction c with
 |skip=>intro Z x h;exact⟨0,h⟩
 |region ops=>
  intro Z x h
  simp only[ap]at h
  split at h
  ·rename_i σ1 h1
   obtain⟨n,hn⟩:=C3 h1
   exact⟨n,by simp only[ap,hn];exact h⟩
  ·cases h
 |seq a b a8 ae=>
  intro Z x h
  simp only[ap]at h
  split at h
  ·rename_i σ1 h1
   obtain⟨n,hn⟩:=a8 h1
   obtain⟨m,hm⟩:=ae h
   exact⟨max n m,by simp only[ap,up (Nat.le_max_left n m) hn];exact up (Nat.le_max_right n m) hm⟩
  ·rename_i a2
   obtain⟨n,hn⟩:=a8 h
   refine⟨n,?_⟩
   simp only[ap,hn]
   obtain⟨e,σ2⟩:=x
   cases e with
   |normal=>exact absurd h (a2 σ2)
   |_=>rfl
 |cond c a b a8 ae=>
  intro Z x h
  simp only[ap]at h
  split at h
  ·rename_i t ht
   cases t with
   |true=>obtain⟨n,hn⟩:=a8 h;exact⟨n,by simp only[ap,ht];exact hn⟩
   |false=>obtain⟨n,hn⟩:=ae h;exact⟨n,by simp only[ap,ht];exact hn⟩
  ·cases h
 |block id c ih=>
  intro Z x h
  simp only[ap]at h
  split at h
  ·rename_i i σ1 h1
   obtain⟨n,hn⟩:=ih h1
   exact⟨n,by simp only[ap,hn];exact h⟩
  ·rename_i a2
   obtain⟨n,hn⟩:=ih h
   refine⟨n,?_⟩
   simp only[ap,hn]
   obtain⟨e,σ2⟩:=x
   cases e with
   |exit i=>exact absurd h (a2 i σ2)
   |_=>rfl
 |loop c ih=>
  intro Z x h
  simp only[ap]at h
  obtain⟨m,hm⟩:=nc.1 h
  clear h
  induction m generalizing Z with
  |zero=>simp[eG]at hm
  |succ m aV=>
   simp only[eG]at hm
   split at hm
   ·rename_i σ1 h1
    obtain⟨n,hn⟩:=ih h1
    obtain⟨p,hp⟩:=aV hm
    refine⟨max n p+1,?_⟩
    simp only[ap]at hp⊢
    rw[yN (up (show n<=max n p+1 by omega) hn)]
    exact pa (show p<=max n p by omega) _ _ _ _ (fun Z x hx=>up (show p<=max n p+1 by omega) hx) hp
   ·rename_i a2
    obtain⟨n,hn⟩:=ih hm
    refine⟨n+1,?_⟩
    obtain⟨e,σ2⟩:=x
    simp only[ap]
    refine Cn (up (show n<=n+1 by omega) hn) (fun e1=> ?_)
    subst e1
    exact a2 σ2 hm
 |exit id=>intro Z x h;exact⟨0,h⟩
 |ret=>intro Z x h;exact⟨0,h⟩
def fW {k:Nat}{fn:AFn}{xz:List V}{r:V}(hk:Φ k=some fn)(h:done fn (fB Φ ext fn.body (start fn xz))=some r):ag Φ ext k xz=some r:=by
 cases hx:fB Φ ext fn.body (start fn xz)with
 |none=>rw[hx]at h;simp[done]at h
 |some x=>
  obtain⟨n,hn⟩:=Bl hx
  refine iR.2 ⟨n+1,?_⟩
  simp only[run,hk,hn]
  rw[hx]at h
  exact h
def Q1 {k:Nat}{xz:List V}{r:V}(hk:Φ k=none)(h:ext k xz=some r)(bk:k<fH:=by decide):ag Φ ext k xz=some r:=
 iR.2 ⟨1,by simp only[run,hk];rw[if_neg (by omega)];exact h⟩
def vq {k:Nat}{fn:AFn}{xz:List V}{r:V}(hn:Φ (k+fH)=none)(hk:Φ k=some fn)(hz:fn.body.bY=true)(h:xD (ed [] xz).2.length fn (fB Φ ext fn.body (jx fn xz))=some r):ag Φ ext (k+fH) xz=some r:=by
 cases hx:fB Φ ext fn.body (jx fn xz)with
 |none=>rw[hx]at h;simp[xD]at h
 |some x=>
  obtain⟨n,aA⟩:=Bl hx
  refine iR.2 ⟨n+1,?_⟩
  simp only[run,hn]
  rw[if_pos (by omega),show k+fH-fH=k by omega]
  simp only[hk,if_pos hz,aA]
  rw[hx]at h
  exact h
def S7 {k:Nat}{fn:AFn}{xz:List V}{e:List (List PV)}{h:List Y0}{r:V}(hn:Φ (k+2*fH)=none)(aW:Φ (k+fH)=none)(hk:Φ k=some fn)(hz:fn.body.bY=true)(hh:JU e=some h)(hr:Fi fn (fB Φ ext fn.body (la fn xz h))=some r):ag Φ ext (k+2*fH) (bY e::xz)=some r:=by
 cases hx:fB Φ ext fn.body (la fn xz h)with
 |none=>rw[hx]at hr;simp[Fi]at hr
 |some x=>
  obtain⟨n,aA⟩:=Bl hx
  refine iR.2 ⟨n+1,?_⟩
  simp only[run,hn]
  rw[if_pos (by omega),show k+2*fH-fH=k+fH by omega]
  simp only[aW]
  rw[if_pos (by omega),show k+2*fH-2*fH=k by omega]
  simp only[hk,P3,hh,if_pos hz,aA]
  rw[hx]at hr
  exact hr
def LX {Γ:Ctx}{P:Program}(im:ZE Γ P kf Φ ext){f k:Nat}{xz:List V}{r:V}(hk:kf f=some k)(h:ag Φ ext k xz=some r):zh Γ P f xz r:=by
 obtain⟨n,hn⟩:=iR.1 h
 exact R7 im n f k xz r hk hn
end
end Gi
namespace Gi
open Go Go.RowKit
variable {KI:KF}
inductive PTy where
 |int (k:IntKind)
 |bool
 |str
 |lst (ts:List PTy)
mutual
def oq :PTy->PV->Prop
 | .int k, .int k' n=>k'=k/\ (Lit.int k n).wf=true
 | .bool, .bool _=>True
 | .str, .str s=>s.length<=maxLen
 | .lst ts, .lst rows=>rows.length<=maxLen/\ ∀r∈rows,bF ts r
 |_,_=>False
def bF :List PTy->List PV->Prop
 |[],[]=>True
 |t::ts,p::ps=>oq t p/\ bF ts ps
 |_,_=>False
end
def zY (P:Program)(g:TypeId->Option (List PTy)):List Field->List PTy->Option (List PTy)
 |[],acc=>some acc
 |f::fs,acc=>match g f.type with
  |some us=>if f.offset=acc.length/\ P.cellsOf f.type=us.length then zY P g fs (acc++us)else none
  |none=>none
def flatT (P:Program):Nat->TypeId->Option (List PTy)
 |0,_=>none
 |n+1,t=>match P.underlying t with
  |some .bool=>some [.bool]
  |some (.int k)=>some [.int k]
  |some .string=>some [.str]
  |some (.slice e)=>match flatT P n e with
   |some ts=>if ts.isEmpty||P.cellsOf e !=ts.length then none else some [.lst ts]
   |none=>none
  |some (.struct fs)=>match zY P (flatT P n) fs.toList []with
   |some ts=>if P.cellsOf t=ts.length then some ts else none
   |none=>none
  |_=>none
def bF.len :∀{ts:List PTy}{ps:List PV},bF ts ps->ts.length=ps.length
 |[],[],_=>rfl
 |_::_,_::_,h=>by simp only[bF]at h;simp[bF.len h.2]
 |[],_::_,h=>by simp[bF]at h
 |_::_,[],h=>by simp[bF]at h
def bF.append :∀{ts us:List PTy}{ps qs:List PV},bF ts ps->bF us qs->bF (ts++us) (ps++qs)
 |[],_,[],_,_,h=>h
 |_::_,_,_::_,_,h,k=>by
  simp only[bF,Zg]at h⊢
  exact⟨h.1,bF.append h.2 k⟩
 |[],_,_::_,_,h,_=>by simp[bF]at h
 |_::_,_,[],_,h,_=>by simp[bF]at h
def UD (w:World)(ps:List PV)(cs:List Value):Prop:=ps.length=cs.length/\ ∀(i:Nat)(p:PV)(c:Value),ps[i]? =some p->cs[i]? =some c->aq (fun _=>False) w p c
def UD.append {w:World}{ps qs:List PV}{cs ds:List Value}(h:UD w ps cs)(k:UD w qs ds):UD w (ps++qs) (cs++ds):=by
 refine⟨by simp[h.1,k.1],fun i p c hp hc=> ?_⟩
 by_cases hi:i<ps.length
 ·rw[Ze hi]at hp
  rw[Ze (by rw[<-h.1];exact hi)]at hc
  exact h.2 i p c hp hc
 ·rw[Zk (by omega)]at hp
  rw[Zk (by rw[<-h.1];omega),<-h.1]at hc
  exact k.2 _ p c hp hc
def PD {H:Type}{enc:TypeId×Value->H}{P:Program}{w:World}:∀(fuel n:Nat)(t:TypeId)(cs:List Value)(d:DataW H)(ps:List MemPlace)(ts:List PTy),DataW.trod enc P w 0 (fun _=>true) true fuel t cs=some (d,ps)->flatT P n t=some ts->
 ∃qs:List PV,bF ts qs/\ UD w qs cs:=by
 intro fuel
 induction fuel with
 |zero=>intro n t cs d ps ts h;simp[DataW.trod]at h
 |succ fuel ih=>
  intro n t cs d ps ts h ht
  cases n with
  |zero=>simp[flatT]at ht
  |succ n=>
   have one:∀{p:PV}{c:Value},aq (fun _=>False) w p c->UD w [p] [c]:=fun{p c}hr=>⟨rfl,fun i p' c' hp hc=>by
    cases i with
    |zero=>simp at hp hc;subst hp;subst hc;exact hr
    |succ i=>simp at hp⟩
   unfold flatT at ht
   split at ht
   ·rename_i hu
    cases ht
    obtain⟨b,rfl,_⟩:=DataW.trod_bool hu h
    exact⟨[.bool b],by simp[bF,oq],one (by simp[aq])⟩
   ·rename_i k hu
    cases ht
    obtain⟨m,rfl,_,aX⟩:=DataW.trod_int hu h
    exact⟨[.int k m],by simp[bF,oq,aX],one (by simp[aq])⟩
   ·rename_i hu
    cases ht
    obtain⟨s,rfl,_,hs⟩:=DataW.trod_string hu h
    exact⟨[.str s.data.toList],by simp only[bF,oq,and_true];exact hs,one (by simp[aq])⟩
   ·rename_i e hu
    split at ht
    ·rename_i us aB
     split at ht
     ·cases ht
     ·rename_i a2
      cases ht
      simp only[Zc1,List.isEmpty_iff,bne_iff_ne,ne_eq,not_or,Decidable.not_not]at a2
      obtain⟨aC,al⟩:=a2
      rcases DataW.trod_slice hu h with⟨rfl,_⟩|⟨ad,len,cap,elems,rest,m,em,rfl,_,_,aY,bl,b0,aD,_,_⟩
      ·exact⟨[.lst []],by simp[bF,oq],one (by simp only[aq];exact .inl ⟨by trivial,_,_,rfl⟩)⟩
      ·obtain rfl:m=fuel:=by omega
       have an:0<us.length:=List.length_pos_iff.2 aC
       have af:0<len->ad.spot=none:=by
        intro hl
        have hx:=aD 0 hl
        have aE:elems[0]? =some (elems[0]'(by omega)):=by simp[show 0<elems.length by omega]
        rw[aE]at hx
        cases ak:w.cells? 0 (ad.add (0*P.cellsOf e)) (P.cellsOf e)with
        |none=>rw[ak]at hx;simp at hx
        |some a5=>
         obtain⟨_,c2,c3⟩:=World.cells?_some ak
         rw[al]at c2 c3
         have h0:=c3 0 an
         have aH:a5[0]? =some (a5[0]'(by omega)):=by simp[show 0<a5.length by omega]
         rw[aH]at h0
         have a6:(ad.add (0*us.length)).add 0=ad:=by simp[Addr.add]
         rw[a6]at h0
         exact World.cell?_spot h0
       have ar:∀i,i<len->∃q:List PV,bF us q/\ ew (fun _=>False) w q ad.block (ad.off+i*us.length)/\ ad.spot=none/\ ad.block<w.heap.size:=by
        intro i hi
        have hx:=aD i hi
        have aE:elems[i]? =some (elems[i]'(by omega)):=by simp[show i<elems.length by omega]
        rw[aE]at hx
        cases ak:w.cells? 0 (ad.add (i*P.cellsOf e)) (P.cellsOf e)with
        |none=>rw[ak]at hx;simp at hx
        |some a5=>
         rw[ak]at hx
         simp only[Option.bind_some]at hx
         obtain⟨q,g1,g2⟩:=ih n e a5 _ _ us hx aB
         obtain⟨_,c2,c3⟩:=World.cells?_some ak
         rw[al]at c2 c3
         have h0:=c3 0 an
         have aH:a5[0]? =some (a5[0]'(by omega)):=by simp[show 0<a5.length by omega]
         rw[aH]at h0
         have a6:(ad.add (i*us.length)).add 0=ad.add (i*us.length):=by simp[Addr.add]
         rw[a6]at h0
         have a1:ad.spot=none:=af (by omega)
         have hb:ad.block<w.heap.size:=by
          have:=World.block_lt_of_cell? w _ h0
          have e2:(ad.add (i*us.length)).block=ad.block:=by unfold Addr.add;split<;>rfl
          rwa[e2]at this
         refine⟨q,g1,ew.of fun j p hp=> ?_,a1,hb⟩
         have hj:j<us.length:=by rw[g1.len];exact(Zb.1 hp).1
         have aK:=c3 j hj
         have au:a5[j]? =some (a5[j]'(by omega)):=by simp[show j<a5.length by omega]
         rw[au]at aK
         refine⟨_,?_,g2.2 j p _ hp au⟩
         rw[<-aK]
         congr 1
         obtain⟨bb,oo,ss⟩:=ad
         simp only at a1
         subst a1
         rw[Addr.add_mid,Addr.add_mid]
       by_cases b1:len=0
       ·subst b1
        exact⟨[.lst []],by simp[bF,oq],one (by simp only[aq];exact .inl ⟨by trivial,_,_,rfl⟩)⟩
       ·obtain⟨rows,aL,a7⟩:∃rows:List (List PV),rows.length=len/\ ∀i q,rows[i]? =some q->bF us q/\ ew (fun _=>False) w q ad.block (ad.off+i*us.length):=by
         clear aD b0 em h
         have:∀k,k<=len->∃rows:List (List PV),rows.length=k/\ ∀i q,rows[i]? =some q->bF us q/\ ew (fun _=>False) w q ad.block (ad.off+i*us.length):=by
          intro k
          induction k with
          |zero=>intro _;exact⟨[],rfl,fun i q hq=>by simp at hq⟩
          |succ k b2=>
           intro hk
           obtain⟨rows,r1,r2⟩:=b2 (by omega)
           obtain⟨q,q1,q2,_⟩:=ar k (by omega)
           refine⟨rows++[q],by simp[r1],fun i q' ai=> ?_⟩
           by_cases hi:i<rows.length
           ·rw[Ze hi]at ai;exact r2 i q' ai
           ·rw[Zk (by omega)]at ai
            have h1:=(Zb.1 ai).1
            simp at h1
            have:i=k:=by omega
            subst this
            rw[r1,Zb6]at ai
            simp at ai;subst ai
            exact⟨q1,q2⟩
         exact this len (Zn _)
        obtain⟨_,_,_,a1,hb⟩:=ar 0 (by omega)
        refine⟨[.lst rows],?_,one ?_⟩
        ·simp only[bF,oq,and_true]
         refine⟨by omega,fun r hr=> ?_⟩
         obtain⟨i,hi,rfl⟩:=T' hr
         exact(a7 i _ (Zm hi)).1
        ·simp only[aq]
         obtain⟨bb,oo,ss⟩:=ad
         simp only at a1 hb a7
         subst a1
         refine .inr ⟨bb,oo,cap,us.length,by rw[aL],fun h=>h,hb,di.of fun i q hq=> ?_,by rw[aL];exact aY⟩
         obtain⟨g1,g2⟩:=a7 i q hq
         exact⟨g1.len.symm,g2⟩
    ·cases ht
   ·rename_i fs hu
    split at ht
    ·rename_i bn b3
     split at ht
     ·rename_i aM
      cases ht
      obtain⟨xs,m,em,_,hl,b4,hf⟩:=DataW.trod_struct hu h
      obtain rfl:m=fuel:=by omega
      have key:∀(fl:List Field)(acc out:List PTy)(k:Nat),(∀j,fl[j]? =fs[k+j]?)->zY P (flatT P n) fl acc=some out->(∃qs,bF acc qs/\ UD w qs (cs.take acc.length))->out.length<=cs.length->∃qs,bF out qs/\ UD w qs (cs.take out.length):=by
       intro fl
       induction fl with
       |nil=>intro acc out k _ ho hq _;simp[zY]at ho;subst ho;exact hq
       |cons f fl b5=>
        intro acc out k aN ho hq hle
        unfold zY at ho
        split at ho
        ·rename_i us aB
         split at ho
         ·rename_i aI
          obtain⟨b6,b7⟩:=aI
          have aP:fs[k]? =some f:=by simpa using(aN 0).symm
          have hx:=hf k f aP
          have b8:k<xs.length:=by rw[b4];exact(R'.1 aP).1
          have ba:xs[k]? =some xs[k]:=by simp[b8]
          rw[ba]at hx
          obtain⟨bf,g1,g2⟩:=ih n f.type _ _ _ us hx aB
          obtain⟨bg,p1,p2⟩:=hq
          refine b5 (acc++us) out (k+1) (fun j=>by have:=aN (j+1);simpa[Zc3,Nat.add_comm 1 j]using this) ho ⟨bg++bf,p1.append g1,?_⟩ hle
          have e:cs.take (acc++us).length=cs.take acc.length++(cs.drop f.offset).take (P.cellsOf f.type):=by
           rw[b6,b7,Zu,List.take_add]
          rw[e]
          exact p2.append g2
         ·cases ho
        ·cases ho
      obtain⟨qs,g1,g2⟩:=key fs.toList [] ts 0 (by simp) b3 ⟨[],by simp[bF],by simp[UD]⟩ (by rw[hl,aM];exact Zn _)
      refine⟨qs,g1,?_⟩
      rw[show ts.length=cs.length by rw[hl,aM],F']at g2
      exact g2
     ·cases ht
    ·cases ht
   ·cases ht
def XN (g:Bool)(qs:List PV):V:=if g then .agg (qs.map .pv)else(match qs with|[q]=> .one (.pv q)|_=> .b9 [])
def wy {H:Type}{enc:TypeId×Value->H}{P:Program}{w:World}{t:TypeId}{v:Value}{d:DataW H}{ps:List MemPlace}{n:Nat}{ts:List PTy}{g:Bool}(h:DataW.Trod enc P w 0 (fun _=>true) true t v d ps)(ht:flatT P n t=some ts)
 (hg:(g=true/\ ∃cs,v= .agg cs) \/(g=false/\ ts.length=1/\ ∀cs,v≠ .agg cs)):∃qs,bF ts qs/\ VR (fun _=>False) w [] [] (XN g qs) v:=by
 obtain⟨fuel,hf⟩:=h
 obtain⟨qs,h1,h2⟩:=PD fuel n t _ d ps ts hf ht
 refine⟨qs,h1,?_⟩
 rcases hg with⟨rfl,cs,rfl⟩|⟨rfl,hl,hv⟩
 ·refine⟨cs,rfl,by simpa[Value.cells]using h2.1,fun i l c hl hc=> ?_⟩
  simp only[Zp,Zj]at hl
  obtain⟨q,hq,rfl⟩:=hl
  exact h2.2 i q c hq hc
 ·have bh:qs.length=1:=by rw[<-h1.len];exact hl
  obtain⟨q,rfl⟩:=ZR.1 bh
  have bj:v.cells= #[v]:=by
   cases v with
   |agg cs=>exact absurd rfl (hv cs)
   |_=>rfl
  rw[bj]at h2
  exact h2.2 0 q v rfl rfl
def RL {Γ:Ctx}{P:Program}{Φ:Nat->Option AFn}{ext:Nat->List V->Option V}(im:ZE Γ P kf Φ ext){f k:Nat}(hk:kf f=some k){xz:List V}(h:ag Φ ext k xz=some (az true)){W:World}{args:Array Value}(hG:Γ.G W)
 (ha:qi (fun _=>False) W xz args.toList):Calls P f args W fun e W'=>e= .returned (.bool true)/\ Below W.heap.size W W':=by
 obtain⟨_,hs⟩:=LX im hk h
 refine(hs (fun _=>False) W args hG (fun _ h=>h.elim) ha).mono fun e W'⟨v,he,hb,hr⟩=> ?_
 obtain⟨J',_,hv⟩:=hr
 have:v= .bool true:=by simpa[thaw,thawL,VR,LR,aq]using hv
 exact⟨by rw[he,this],hb⟩
end Gi
namespace Gi
open Go Go.RowKit
attribute [local simp] start fB ap ah aG bc bG Opd.ev put asList L.view bin cG isBool done aZ am cj bS comp aO bJ aj V.cells
def vO (f:St->Option (Ex×St))(Z:St):aF f Z=(match f Z with
 |some (.normal,Z')=>aF f Z'
 |r=>r):=by
 cases h:f Z with
 |none=>
  cases hl:aF f Z with
  |none=>rfl
  |some r=>
   obtain⟨n,hn⟩:=nc.1 hl
   cases n with
   |zero=>simp[eG]at hn
   |succ n=>simp[eG,h]at hn
 |some x=>
  obtain⟨e,Z'⟩:=x
  cases e with
  |normal=>exact gF h
  |exit i=>exact jt h (by simp)
  |ret=>exact jt h (by simp)
def Gl :L->PV
 | .pv p=>p
 | .own _ es=> .lst es
 | .down _ es=> .lst es
 |_=> .lst []
def rE (h:List Y0):∀(ps:List PV),viewL h (ps.map .pv)=some ps
 |[]=>rfl
 |p::ps=>by simp only[Zv,viewL,L.view,rE h ps]
def t7 (h:List Y0)(ps:List PV):V.view h (.agg (ps.map .pv))=some (.agg (ps.map .pv)):=by simp only[V.view,rE]
def px :∀(ls:List L)(h:List Y0),ls.all L.clean=true->∃t,(thawL h ls).2=h++t:=fun ls h hc=>(mo ls h hc).2.1
def t6 :∀(ls:List L)(h:List Y0),ls.all L.clean=true->viewL (thawL h ls).2 (thawL h ls).1=some (ls.map Gl)
 |[],h,_=>rfl
 |l::ls,h,hc=>by
  simp only[Zq,Zh]at hc
  cases l with
  |own z es=>
   simp only[thawL,Zv,viewL]
   obtain⟨t,ht⟩:=px ls (h++[.arr z es]) hc.2
   rw[t6 ls _ hc.2]
   have:L.view (thawL (h++[Y0.arr z es]) ls).2 (.arr h.length)=some (.lst es):=by
    rw[ht]
    simp[L.view]
   rw[this]
   rfl
  |down z es=>
   simp only[thawL,Zv,viewL]
   obtain⟨t,ht⟩:=px ls (h++[.bA z es]) hc.2
   rw[t6 ls _ hc.2]
   have:L.view (thawL (h++[Y0.bA z es]) ls).2 (.arr h.length)=some (.lst es):=by
    rw[ht]
    simp[L.view]
   rw[this]
   rfl
  |pv p=>simp only[thawL,Zv,viewL,L.view,t6 ls h hc.2];rfl
  |nil=>simp only[thawL,Zv,viewL,L.view,t6 ls h hc.2];rfl
  |_=>simp[L.clean]at hc
def py :∀(ls:List L)(h:List Y0)(o:Nat),ls.all L.clean=true->o<h.length->(thawL h ls).1.all (L.bC o)=true
 |[],_,_,_,_=>rfl
 |l::ls,h,o,hc,ho=>by
  simp only[Zq,Zh]at hc
  cases l with
  |own z es=>
   simp only[thawL,Zq,Zh]
   exact⟨by simp[L.bC];omega,py ls _ o hc.2 (by simp;omega)⟩
  |down z es=>
   simp only[thawL,Zq,Zh]
   exact⟨by simp[L.bC];omega,py ls _ o hc.2 (by simp;omega)⟩
  |pv p=>simp only[thawL,Zq,Zh];exact⟨rfl,py ls h o hc.2 ho⟩
  |nil=>simp only[thawL,Zq,Zh];exact⟨rfl,py ls h o hc.2 ho⟩
  |_=>simp[L.clean]at hc
def GZ {α:Type}(a b:List α)(h:a.length=b.length):putAt a 0 b=b:=by
 simp[putAt,h.symm]
def C6 (h:List Y0):∀(ps:List PV),freezeLs h (ps.map .pv)=h
 |[]=>rfl
 |p::ps=>by
  show freezeLs (freezeL h (.pv p)) (ps.map .pv)=h
  exact C6 h ps
def C7 (h:List Y0)(ps:List PV):freezeVs h [.agg (ps.map .pv)]=h:=C6 h ps
def RX (o:Nat)(ps:List PV):(ps.map L.pv).all (L.bC o)=true:=by
 simp[L.bC]
def VE {rows:List (List PV)}{k m:Nat}{zero:List PV}(h:k+(m+1)=rows.length):(rows.take k++List.replicate (m+1) zero)[k]? =some zero:=by
 rw[Zk (by simp;omega),List.getElem?_replicate]
 rw[if_pos (by simp;omega)]
def Tn {rows:List (List PV)}{k m:Nat}{zero:List PV}(h:k+(m+1)=rows.length):(rows.take k++List.replicate (m+1) zero).set k (rows[k]'(by omega))=rows.take (k+1)++List.replicate m zero:=by
 have hk:k<rows.length:=by omega
 rw[Zc6 _ _ (by simp;omega)]
 have:k-(rows.take k).length=0:=by simp;omega
 rw[this,List.replicate_succ,ZT,ZX hk,List.append_assoc]
 rfl
section
variable {Φ:Nat->Option AFn}{ext:Nat->List V->Option V}
def Je (i a t0:Nat):Y5:= .seq (.region [⟨some t0, .mv (.tmp i),none⟩,⟨some (t0+1), .mv (.tmp a),none⟩,⟨some (t0+2), .len (.tmp (t0+1)),none⟩,⟨some (t0+3), .bin .lss (.tmp t0) (.tmp (t0+2)),none⟩]) (.cond (.tmp (t0+3)) .skip (.exit 0))
def Kj (i t0:Nat):Y5:= .region [⟨some t0, .mv (.tmp i),none⟩,⟨some (t0+1), .bin .add (.tmp t0) (.pv (.int .i64 1)),none⟩,⟨some i, .mv (.tmp (t0+1)),none⟩]
def lm {k:Nat}(h:k<9223372036854775807):IntKind.i64.wrap ((k:Int)+1)=(k:Int)+1:=by
 rw[IntKind.wrap_i64];omega
def XM (Φ:Nat->Option AFn)(ext:Nat->List V->Option V)(kx:Nat)(fl:Bool)(r:List PV):Prop:=
 ∃ls,ag Φ ext kx [.agg (r.map .pv)]=some (.agg ls)/\ ls.all L.clean=true/\ ls.map Gl=r/\ (fl=true->ls=r.map .pv/\ ls.all L.flat=true)
def za (t0:Nat):List Z0:=[⟨some t0, .mv (.tmp 1),none⟩,⟨some (t0+1), .mv (.tmp 0),none⟩,⟨some (t0+2), .len (.tmp (t0+1)),none⟩,⟨some (t0+3), .bin .sub (.tmp t0) (.tmp (t0+2)),none⟩,⟨some 1, .mv (.tmp (t0+3)),none⟩]
def p7 (t0:Nat):Y5:= .seq (.region [⟨some t0, .mv (.tmp 1),none⟩,⟨some (t0+1), .bin .lss (.tmp t0) (.pv (.int .i64 0)),none⟩]) (.cond (.tmp (t0+1)) (.seq (.region [⟨some 4, .mv (.pv (.int .i64 (-1))),none⟩]) .ret) .skip)
def uL (z kx:Nat):Y5:= .seq (Je 5 0 12) (.seq (.block 1 (.seq (.region [⟨some 18, .mv (.tmp 0),none⟩,⟨some 19, .mv (.tmp 5),none⟩,⟨some 20, .bF z (.tmp 18) (.tmp 19),none⟩,⟨some 21, .load true z (.tmp 20),none⟩,⟨some 22, .mv (.tmp 1),none⟩,⟨some 23, .call kx [.tmp 21, .tmp 22] true false,none⟩,⟨some 1, .mv (.tmp 23),none⟩]) (p7 24))) (Kj 5 16))
def La (z kx:Nat):AFn:=⟨27,[.tmp 4], .seq (.region [⟨some 4, .mv (.pv (.int .i64 0)),none⟩]) (.seq (.region (za 6)) (.seq (p7 10) (.seq (.seq (.region [⟨some 5, .mv (.pv (.int .i64 0)),none⟩]) (.block 0 (.loop (uL z kx)))) (.seq (.region [⟨some 26, .mv (.tmp 1),none⟩,⟨some 4, .mv (.tmp 26),none⟩]) .ret))))⟩
def VT :AFn:=⟨12,[.tmp 4], .seq (.region [⟨some 4, .mv (.pv (.int .i64 0)),none⟩]) (.seq (.region (za 5)) (.seq (p7 9) (.seq (.region [⟨some 11, .mv (.tmp 1),none⟩,⟨some 4, .mv (.tmp 11),none⟩]) .ret)))⟩
mutual
def sz :PV->Nat
 | .str s=>s.length
 | .lst rows=>rows.length+bI rows
 |_=>0
def eN :List PV->Nat
 |[]=>0
 |p::ps=>sz p+eN ps
def bI :List (List PV)->Nat
 |[]=>0
 |r::rs=>eN r+bI rs
end
def less (left:Int)(n:Nat):Int:=if left<n then-1 else left-n
def ET (Φ:Nat->Option AFn)(ext:Nat->List V->Option V)(kx:Nat)(r:List PV):Prop:=
 ∀left:Int,0<=left->left<=1048576->ag Φ ext kx [.agg (r.map .pv),aa .i64 left]=some (aa .i64 (less left (eN r)))
def tH {left:Int}{a b:Nat}(h:0<=less left a):less (less left a) b=less left (a+b):=by
 unfold less at*
 split at h
 ·omega
 ·rename_i h1
  rw[if_neg h1]
  by_cases h2:left-(a:Int)<b
  ·rw[if_pos h2,if_pos (by omega)]
  ·rw[if_neg h2,if_neg (by omega)];omega
def MQ {left:Int}{a b:Nat}(h0:0<=left)(h:less left a<0):less left (a+b)= -1:=by
 unfold less at*
 split at h
 ·rw[if_pos (by omega)]
 ·omega
def WB {k:Nat}{rows:List (List PV)}(hk:Φ k=some VT)(hlen:rows.length<=maxLen){left:Int}(h0:0<=left)(h1:left<=1048576):ag Φ ext k [bY rows,aa .i64 left]=some (aa .i64 (less left rows.length)):=by
 refine fW hk ?_
 have hw:IntKind.i64.wrap (left-rows.length)=left-rows.length:=by unfold maxLen at hlen;rw[IntKind.wrap_i64];omega
 by_cases hl:left<rows.length
 ·have:left-(rows.length:Int)<0:=by omega
  simp[VT,za,p7,hw,this,less,hl]
 ·have:¬left-(rows.length:Int)<0:=by omega
  simp[VT,za,p7,hw,this,less,hl]
end
end Gi
