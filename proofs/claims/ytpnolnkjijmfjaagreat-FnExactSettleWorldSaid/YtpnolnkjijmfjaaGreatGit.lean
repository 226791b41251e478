/- Of this proof. -/
import Derived.Test.YtpnolnkjijmfjaaGreatGiq
import Derived.DataReads
import Derived.ChangeOld
import Derived.ProofKit
import Derived.KernelRfl
set_option linter.all false
namespace Gi
open Go Go.RowKit
variable {KI:KF}
def Sub (f g:Nat->List V->Option V):Prop:=∀k xz r,f k xz=some r->g k xz=some r
def UJ {call:Nat->List V->Option V}{Z:St}{ao:AOp}{v:V}(hf:dY call Z ao=some v):(∀call',dY call' Z ao=some v) \/∃k xz r,call k xz=some r/\ ∀call',call' k xz=some r->dY call' Z ao=some v:=by
 cases ao with
 |call f args fl fz=>right;simp only[dY]at hf⊢;split at hf;rename_i h1;split at hf;rename_i h2;split at hf;rename_i xz has;split at hf;rename_i r hr;refine⟨f,xz,r,hr,fun call' h'=> ?_⟩;rw[if_pos h1,if_pos h2];simp only[has,h'];exact hf;cases hf;cases hf;cases hf;cases hf
 |bp x args=>right;simp only[dY]at hf⊢;split at hf;rename_i k caps hx;split at hf;rename_i xz has;split at hf;rename_i r hr;refine⟨_,_,r,hr,fun call' h'=> ?_⟩;simp only[hx,has,h'];exact hf;cases hf;cases hf;cases hf
 |bf f args=>right;simp only[dY]at hf⊢;split at hf;rename_i xz has;split at hf;rename_i r hr;refine⟨_,_,r,hr,fun call' h'=> ?_⟩;simp only[has,h'];exact hf;cases hf;cases hf
 |_=>exact .inl fun _=>hf
def Ta {call:Nat->List V->Option V}{h:List Q0}{f:Nat}{x:V}{n:Int}{y:V×List Q0}(hf:nV call h f x n=some y):∃k xz r,call k xz=some r/\ ∀call':Nat->List V->Option V,call' k xz=some r->nV call' h f x n=some y:=by unfold nV at hf;split at hf;split at hf;rename_i ho;split at hf;rename_i an;split at hf;rename_i hr;refine⟨_,_,_,hr,fun call' h'=> ?_⟩;simp only[nV,ho,an,h'];exact hf;cases hf;rename_i a2 an;split at hf;rename_i hr;refine⟨_,_,_,hr,fun call' h'=> ?_⟩;simp only[nV,ho,an,h'];exact hf;cases hf;cases hf;cases hf;rename_i aH;split at hf;rename_i aI;split at hf;rename_i a hl;split at hf;rename_i hr;refine⟨_,_,_,hr,fun call' h'=> ?_⟩;unfold nV;split;rename_i o c;exact absurd rfl (aH o c);rw[if_pos aI];simp only[hl,h'];exact hf;cases hf;cases hf;cases hf
def UA {call:Nat->List V->Option V}{Z:St}{ao:AOp}{x:V×List Q0}(hf:fa call Z ao=some x):(∀call',fa call' Z ao=some x) \/(∃k xz r,call k xz=some r/\ ∀call',call' k xz=some r->fa call' Z ao=some x) \/
 ∃c caps es es',iR call c caps es=some es'/\ ∀call',iR call' c caps es=some es'->fa call' Z ao=some x:=by
 cases ao with
 |call f args fl fz=>
  right;left;cases fl<;>cases fz<;>simp only[fa]at hf⊢ <;>try (cases hf;done)
  split at hf;rename_i xz has;split at hf;rename_i r hr;refine⟨_,_,r,hr,fun call' h'=> ?_⟩;simp only[has,h'];exact hf;cases hf;cases hf
 |bS f args=>right;left;simp only[fa]at hf⊢;split at hf;rename_i xz has;split at hf;rename_i r hr;refine⟨_,_,r,hr,fun call' h'=> ?_⟩;simp only[has,h'];exact hf;cases hf;cases hf
 |bP f args=>right;left;simp only[fa]at hf⊢;split at hf;rename_i xz has;split at hf;rename_i r hr;refine⟨_,_,r,hr,fun call' h'=> ?_⟩;simp only[has,h'];exact hf;cases hf;cases hf
 |bt f args=>right;left;simp only[fa]at hf⊢;split at hf;rename_i e he;split at hf;rename_i e' ps hr;refine⟨_,_,_,hr,fun call' h'=> ?_⟩;simp only[he,h'];exact hf;cases hf;cases hf
 |bg f args=>right;left;simp only[fa]at hf⊢;split at hf;rename_i xz has;split at hf;rename_i r hr;refine⟨_,_,r,hr,fun call' h'=> ?_⟩;simp only[has,h'];exact hf;cases hf;cases hf
 |c9 k z x f=>simp only[fa]at hf;split at hf;rename_i c cs hx hg;left;intro call';simp only[fa,hx,hg];exact hf;rename_i o c cs hx hg;right;right;split at hf;rename_i z' es aJ;split at hf;rename_i hz;split at hf;rename_i es' hr;refine⟨_,_,_,_,hr,fun call' h'=> ?_⟩;simp only[fa,hx,hg,aJ,if_pos hz,h'];exact hf;cases hf;cases hf;cases hf;cases hf
 |bh f x k=>
  right;left;simp only[fa]at hf⊢;split at hf
  ·rename_i n hn;obtain⟨k,xz,r,h1,h2⟩:=Ta hf;exact⟨k,xz,r,h1,fun call' h'=>by first|exact h2 call' h'|(simp only[hn];exact h2 call' h')⟩
  cases hf
 |_=>exact .inl fun _=>hf
def wY {call call':Nat->List V->Option V}(h:Sub call call'){c:Nat}{caps:List V}:∀{es es':List (List PV)},iR call c caps es=some es'->iR call' c caps es=some es'
 |[],_,e=>e
 |x::xs,_,e=>by simp only[iR]at e⊢;split at e;rename_i b hb;split at e;rename_i r hr;simp only[h _ _ _ hb,wY h hr];exact e;cases e;cases e
def Rj {call call':Nat->List V->Option V}(h:Sub call call'){Z:St}{ao:AOp}{v:V}(hf:dY call Z ao=some v):dY call' Z ao=some v:=by rcases UJ hf with h1|⟨k,xz,r,h1,h2⟩;exact h1 _;exact h2 _ (h _ _ _ h1)
def aa1 {call call':Nat->List V->Option V}(h:Sub call call'){Z:St}{ao:AOp}{x:V×List Q0}(hf:fa call Z ao=some x):fa call' Z ao=some x:=by rcases UA hf with h1|⟨k,xz,r,h1,h2⟩|⟨c,caps,es,es',h1,h2⟩;exact h1 _;exact h2 _ (h _ _ _ h1);exact h2 _ (wY h h1)
def UB {call call':Nat->List V->Option V}{Z:St}{ao:AOp}{x:V×List Q0}(hf:fa call Z ao=some x):dY call' Z ao=none:=by
 cases ao with
 |call f args fl fz=>cases fl<;>cases fz<;>first|rfl|cases hf
 |_=>first|rfl|cases hf
def Kx {call call':Nat->List V->Option V}(h:Sub call call'){oo:X2}{Z Z':St}(hs:cT call oo Z=some Z'):cT call' oo Z=some Z':=by unfold cT at*;split at hs;split at hs;rename_i v hv;rw[Rj h hv];exact hs;split at hs;rename_i v h' he;cases hs;rw[UB (call':=call') he,aa1 h he];cases hs;exact hs;cases hs
def xZ {call call':Nat->List V->Option V}(h:Sub call call'):∀{aa:List X2}{Z Z':St},cj call aa Z=some Z'->cj call' aa Z=some Z'
 |[],_,_,hs=>hs
 |o::aa,Z,Z',hs=>by unfold cj at*;split at hs;rename_i σ1 h1;rw[Kx h h1];exact xZ h hs;cases hs
def aeW (f g:(St->Option (Ex×St))->St->Option (Ex×St)):Prop:=∀F G Z x,(∀Z x,F Z=some x->G Z=some x)->f F Z=some x->g G Z=some x
def AA {call call':Nat->List V->Option V}{lp aB:(St->Option (Ex×St))->St->Option (Ex×St)}(h:Sub call call')(hl:aeW lp aB):∀{c:Q7}{Z:St}{x:Ex×St},cD call lp c Z=some x->cD call' aB c Z=some x:=by
 intro c;induction c with
 |skip=>intro Z x hs;exact hs
 |region ops=>intro Z x hs;simp only[cD]at*;split at hs;rename_i σ1 h1;rw[xZ h h1];exact hs;cases hs
 |seq a b a8 ab=>
  intro Z x hs;simp only[cD]at*;split at hs;rename_i σ1 h1;rw[a8 h1];exact ab hs;rename_i a2;rw[a8 hs];obtain⟨e,σ2⟩:=x;cases e with
  |normal=>exact absurd hs (a2 σ2)
  |_=>rfl
 |cond c a b a8 ab=>
  intro Z x hs;simp only[cD]at*;split at hs;rename_i t ht;cases t with
  |true=>exact a8 hs
  |false=>exact ab hs
  cases hs
 |block id c ih=>
  intro Z x hs;simp only[cD]at*;split at hs;rename_i i σ1 h1;rw[ih h1];exact hs;rename_i a2;rw[ih hs];obtain⟨e,σ2⟩:=x;cases e with
  |exit i=>exact absurd hs (a2 i σ2)
  |_=>rfl
 |loop c ih=>intro Z x hs;simp only[cD]at*;exact hl _ _ Z x (fun Z x=>ih) hs
 |exit id=>intro Z x hs;exact hs
 |ret=>intro Z x hs;exact hs
def tb {n m:Nat}(al:n<=m):aeW (hZ n) (hZ m):=by
 induction n generalizing m with
 |zero=>intro F G Z x _ h;simp[hZ]at h
 |succ n ih=>
  intro F G Z x aq h;obtain⟨m,rfl⟩:∃m',m=m'+1:=⟨m-1,by omega⟩;simp only[hZ]at h⊢;split at h;rename_i σ1 h1;rw[aq _ _ h1];exact ih (m:=m) (by omega) F G σ1 x aq h;rename_i a2;rw[aq _ _ h];obtain⟨e,σ2⟩:=x;cases e with
  |normal=>exact absurd h (a2 σ2)
  |_=>rfl
def Co {n:Nat}{f:St->Option (Ex×St)}{Z Z':St}(h:f Z=some (.normal,Z')):hZ (n+1) f Z=hZ n f Z':=by simp only[hZ,h]
def FK {n:Nat}{f:St->Option (Ex×St)}{Z Z':St}{e:Ex}(h:f Z=some (e,Z'))(he:e≠ .normal):hZ (n+1) f Z=some (e,Z'):=by
 simp only[hZ,h];cases e with
 |normal=>exact absurd rfl he
 |_=>rfl
section
variable {Φ:Nat->Option AFn}{ext:Nat->List V->Option V}
def pt :∀{n m:Nat},n<=m->Sub (run Φ ext n) (run Φ ext m)
 |0,_,_=>fun _ _ _ h=>by simp[run]at h
 |n+1,m,al=>fun k xz r h=>by
  obtain⟨m,rfl⟩:∃m',m=m'+1:=⟨m-1,by omega⟩;simp only[run]at h⊢;split at h;split at h;rename_i hk;rw[if_pos hk];split at h;rename_i fn _;split at h;rename_i hz;rw[if_pos hz];have key:∀{x:Ex×St},cD (run Φ ext n) (hZ n) fn.body (ml fn xz)=some x->cD (run Φ ext m) (hZ m) fn.body (ml fn xz)=some x:=AA (pt (by omega)) (tb (by omega));cases hx:cD (run Φ ext n) (hZ n) fn.body (ml fn xz)with
  |none=>rw[hx]at h;simp[Bp]at h
  |some x=>rw[key hx];rw[hx]at h;exact h
  cases h;split at h;rename_i aK;rw[if_pos aK];split at h;rename_i fn hp ar _ _;split at h;rename_i hz;rw[if_pos hz];have key:∀{x:Ex×St},cD (run Φ ext n) (hZ n) fn.body (oq fn ar hp)=some x->cD (run Φ ext m) (hZ m) fn.body (oq fn ar hp)=some x:=AA (pt (by omega)) (tb (by omega));cases hx:cD (run Φ ext n) (hZ n) fn.body (oq fn ar hp)with
  |none=>rw[hx]at h;simp[ID]at h
  |some x=>rw[key hx];rw[hx]at h;exact h
  cases h;cases h;cases h;rename_i hk;rw[if_neg hk];exact h
  ·rename_i fn _;have key:∀{x:Ex×St},cD (run Φ ext n) (hZ n) fn.body (start fn xz)=some x->cD (run Φ ext m) (hZ m) fn.body (start fn xz)=some x:=AA (pt (by omega)) (tb (by omega));cases hx:cD (run Φ ext n) (hZ n) fn.body (start fn xz)with
   |none=>rw[hx]at h;simp[done]at h
   |some x=>rw[key hx];rw[hx]at h;exact h
variable (Φ ext)in
noncomputable def cf (k:Nat)(xz:List V):Option V:=
 open Classical in if h:∃n r,run Φ ext n k xz=some r then some (Classical.choose (Classical.choose_spec h))else none
def lu {k:Nat}{xz:List V}{r:V}:cf Φ ext k xz=some r↔∃n,run Φ ext n k xz=some r:=by unfold cf;split;rename_i h;have hs:=Classical.choose_spec (Classical.choose_spec h);constructor;intro e;cases e;exact⟨_,hs⟩;rintro⟨n,hn⟩;have h1:=pt (Φ:=Φ) (ext:=ext) (QK (Classical.choose h) n) _ _ _ hs;have h2:=pt (Φ:=Φ) (ext:=ext) (Qu (Classical.choose h) n) _ _ _ hn;rw[h1]at h2;exact h2;rename_i h;constructor;intro e;cases e;rintro⟨n,hn⟩;exact absurd ⟨n,r,hn⟩ h
noncomputable def cS (f:St->Option (Ex×St))(Z:St):Option (Ex×St):=
 open Classical in if h:∃n r,hZ n f Z=some r then some (Classical.choose (Classical.choose_spec h))else none
def qi {f:St->Option (Ex×St)}{Z:St}{r:Ex×St}:cS f Z=some r↔∃n,hZ n f Z=some r:=by unfold cS;split;rename_i h;have hs:=Classical.choose_spec (Classical.choose_spec h);constructor;intro e;cases e;exact⟨_,hs⟩;rintro⟨n,hn⟩;have h1:=tb (QK (Classical.choose h) n) f f Z _ (fun _ _ h=>h) hs;have h2:=tb (Qu (Classical.choose h) n) f f Z _ (fun _ _ h=>h) hn;rw[h1]at h2;exact h2;rename_i h;constructor;intro e;cases e;rintro⟨n,hn⟩;exact absurd ⟨n,r,hn⟩ h
def jR {f:St->Option (Ex×St)}{Z Z':St}(h:f Z=some (.normal,Z')):cS f Z=cS f Z':=by
 apply Option.ext;intro r;rw[qi,qi];constructor;rintro⟨n,hn⟩;cases n with
 |zero=>simp[hZ]at hn
 |succ n=>simp only[hZ,h]at hn;exact⟨n,hn⟩
 rintro⟨n,hn⟩;exact⟨n+1,by simp only[hZ,h];exact hn⟩
def mf {f:St->Option (Ex×St)}{Z Z':St}{e:Ex}(h:f Z=some (e,Z'))(he:e≠ .normal):cS f Z=some (e,Z'):=by
 rw[qi];refine⟨1,?_⟩;simp only[hZ,h];cases e with
 |normal=>exact absurd rfl he
 |_=>rfl
variable (Φ ext)in
noncomputable def iN (c:Q7)(Z:St):Option (Ex×St):=cD (cf Φ ext) cS c Z
def WS (n:Nat):Sub (run Φ ext n) (cf Φ ext):=fun _ _ _ h=>lu.2 ⟨n,h⟩
def DP {c:Nat}{caps:List V}:∀{es es':List (List PV)},iR (cf Φ ext) c caps es=some es'->∃n,iR (run Φ ext n) c caps es=some es'
 |[],_,e=>⟨0,e⟩
 |x::xs,_,e=>by simp only[iR]at e;split at e;rename_i b hb;split at e;rename_i r hr;obtain⟨n,hn⟩:=lu.1 hb;obtain⟨m,hm⟩:=DP hr;exact⟨n+m,by simp only[iR,pt (ZU n m) _ _ _ hn,wY (pt (Nat.le_add_left m n)) hm];exact e⟩;cases e;cases e
def WY {oo:X2}{Z Z':St}(h:cT (cf Φ ext) oo Z=some Z'):∃n,cT (run Φ ext n) oo Z=some Z':=by
 unfold cT at h⊢;split at h;split at h;rename_i v hf;cases h;have:∃n,dY (run Φ ext n) Z oo.op=some v:=by rcases UJ hf with h1|⟨k,xz,r,h1,h2⟩;exact⟨0,h1 _⟩;obtain⟨n,hn⟩:=lu.1 h1;exact⟨n,h2 _ hn⟩
 obtain⟨n,hn⟩:=this;exact⟨n,by simp only[hn]⟩;rename_i hf;split at h;rename_i v hh he;cases h;have:∃n,fa (run Φ ext n) Z oo.op=some (v,hh):=by rcases UA he with h1|⟨k,xz,r,h1,h2⟩|⟨c,caps,es,es',h1,h2⟩;exact⟨0,h1 _⟩;obtain⟨n,hn⟩:=lu.1 h1;exact⟨n,h2 _ hn⟩;obtain⟨n,hn⟩:=DP h1;exact⟨n,h2 _ hn⟩
 obtain⟨n,hn⟩:=this;refine⟨n,?_⟩;have aL:dY (run Φ ext n) Z oo.op=none:=by
  cases q:dY (run Φ ext n) Z oo.op with
  |none=>rfl
  |some v=>rw[Rj (WS n) q]at hf;cases hf
 simp only[aL,hn];cases h;exact⟨0,h⟩;cases h
def Gs :∀{aa:List X2}{Z Z':St},cj (cf Φ ext) aa Z=some Z'->∃n,cj (run Φ ext n) aa Z=some Z'
 |[],_,_,h=>⟨0,h⟩
 |o::aa,Z,Z',h=>by unfold cj at h;split at h;rename_i σ1 h1;obtain⟨n,hn⟩:=WY h1;obtain⟨m,hm⟩:=Gs h;refine⟨max n m,?_⟩;unfold cj;rw[Kx (pt (QK n m)) hn];exact xZ (pt (Qu n m)) hm;cases h
def EA :∀{c:Q7}{Z:St}{x:Ex×St},cD (cf Φ ext) cS c Z=some x->∃n,cD (run Φ ext n) (hZ n) c Z=some x:=by
 have up:∀{c:Q7}{Z:St}{x:Ex×St}{n m:Nat},n<=m->cD (run Φ ext n) (hZ n) c Z=some x->cD (run Φ ext m) (hZ m) c Z=some x:=fun al h=>AA (pt al) (tb al) h;intro c;induction c with
 |skip=>intro Z x h;exact⟨0,h⟩
 |region ops=>intro Z x h;simp only[cD]at h;split at h;rename_i σ1 h1;obtain⟨n,hn⟩:=Gs h1;exact⟨n,by simp only[cD,hn];exact h⟩;cases h
 |seq a b a8 ab=>
  intro Z x h;simp only[cD]at h;split at h;rename_i σ1 h1;obtain⟨n,hn⟩:=a8 h1;obtain⟨m,hm⟩:=ab h;exact⟨max n m,by simp only[cD,up (QK n m) hn];exact up (Qu n m) hm⟩;rename_i a2;obtain⟨n,hn⟩:=a8 h;refine⟨n,?_⟩;simp only[cD,hn];obtain⟨e,σ2⟩:=x;cases e with
  |normal=>exact absurd h (a2 σ2)
  |_=>rfl
 |cond c a b a8 ab=>
  intro Z x h;simp only[cD]at h;split at h;rename_i t ht;cases t with
  |true=>obtain⟨n,hn⟩:=a8 h;exact⟨n,by simp only[cD,ht];exact hn⟩
  |false=>obtain⟨n,hn⟩:=ab h;exact⟨n,by simp only[cD,ht];exact hn⟩
  cases h
 |block id c ih=>
  intro Z x h;simp only[cD]at h;split at h;rename_i i σ1 h1;obtain⟨n,hn⟩:=ih h1;exact⟨n,by simp only[cD,hn];exact h⟩;rename_i a2;obtain⟨n,hn⟩:=ih h;refine⟨n,?_⟩;simp only[cD,hn];obtain⟨e,σ2⟩:=x;cases e with
  |exit i=>exact absurd h (a2 i σ2)
  |_=>rfl
 |loop c ih=>
  intro Z x h;simp only[cD]at h;obtain⟨m,hm⟩:=qi.1 h;clear h;induction m generalizing Z with
  |zero=>simp[hZ]at hm
  |succ m aM=>simp only[hZ]at hm;split at hm;rename_i σ1 h1;obtain⟨n,hn⟩:=ih h1;obtain⟨p,hp⟩:=aM hm;refine⟨max n p+1,?_⟩;simp only[cD]at hp⊢;rw[Co (up (show n<=max n p+1 by omega) hn)];exact tb (show p<=max n p by omega) _ _ _ _ (fun Z x hx=>up (show p<=max n p+1 by omega) hx) hp;rename_i a2;obtain⟨n,hn⟩:=ih hm;refine⟨n+1,?_⟩;obtain⟨e,σ2⟩:=x;simp only[cD];refine FK (up (show n<=n+1 by omega) hn) (fun e1=> ?_);subst e1;exact a2 σ2 hm
 |exit id=>intro Z x h;exact⟨0,h⟩
 |ret=>intro Z x h;exact⟨0,h⟩
def j0 {k:Nat}{fn:AFn}{xz:List V}{r:V}(hk:Φ k=some fn)(h:done fn (iN Φ ext fn.body (start fn xz))=some r):cf Φ ext k xz=some r:=by
 cases hx:iN Φ ext fn.body (start fn xz)with
 |none=>rw[hx]at h;simp[done]at h
 |some x=>obtain⟨n,hn⟩:=EA hx;refine lu.2 ⟨n+1,?_⟩;simp only[run,hk,hn];rw[hx]at h;exact h
def VQ {k:Nat}{xz:List V}{r:V}(hk:Φ k=none)(h:ext k xz=some r)(hlt:k<iT:=by decide):cf Φ ext k xz=some r:=
 lu.2 ⟨1,by simp only[run,hk];rw[if_neg (by omega)];exact h⟩
def zg {k:Nat}{fn:AFn}{xz:List V}{r:V}(hn:Φ (k+iT)=none)(hk:Φ k=some fn)(hz:fn.body.bb=true)(h:Bp (gP [] xz).2.length fn (iN Φ ext fn.body (ml fn xz))=some r):cf Φ ext (k+iT) xz=some r:=by
 cases hx:iN Φ ext fn.body (ml fn xz)with
 |none=>rw[hx]at h;simp[Bp]at h
 |some x=>obtain⟨n,au⟩:=EA hx;refine lu.2 ⟨n+1,?_⟩;simp only[run,hn];rw[if_pos (by omega),show k+iT-iT=k by omega];simp only[hk,if_pos hz,au];rw[hx]at h;exact h
def aaQ {k:Nat}{fn:AFn}{xz:List V}{e:List (List PV)}{h:List Q0}{r:V}(hn:Φ (k+2*iT)=none)(aN:Φ (k+iT)=none)(hk:Φ k=some fn)(hz:fn.body.bb=true)(hh:Np e=some h)(hr:ID fn (iN Φ ext fn.body (oq fn xz h))=some r):cf Φ ext (k+2*iT) (eW e::xz)=some r:=by
 cases hx:iN Φ ext fn.body (oq fn xz h)with
 |none=>rw[hx]at hr;simp[ID]at hr
 |some x=>obtain⟨n,au⟩:=EA hx;refine lu.2 ⟨n+1,?_⟩;simp only[run,hn];rw[if_pos (by omega),show k+2*iT-iT=k+iT by omega];simp only[aN];rw[if_pos (by omega),show k+2*iT-2*iT=k by omega];simp only[hk,UM,hh,if_pos hz,au];rw[hx]at hr;exact hr
def PI {Γ:Ctx}{P:Program}(im:QI Γ P kf Φ ext){f k:Nat}{xz:List V}{r:V}(hk:kf f=some k)(h:cf Φ ext k xz=some r):CP Γ P f xz r:=by obtain⟨n,hn⟩:=lu.1 h;exact WT im n f k xz r hk hn
end
end Gi
namespace Gi
open Go Go.RowKit
variable {KI:KF}
inductive PTy where
 |int (k:IntKind)
 |bool
 |str
 |lst (ts:List PTy)
mutual
def mY :PTy->PV->Prop
 | .int k, .int k' n=>k'=k/\ (Lit.int k n).wf=true
 | .bool, .bool _=>True
 | .str, .str s=>s.length<=maxLen
 | .lst ts, .lst rows=>rows.length<=maxLen/\ ∀r∈rows,dX ts r
 |_,_=>False
def dX :List PTy->List PV->Prop
 |[],[]=>True
 |t::ts,p::ps=>mY t p/\ dX ts ps
 |_,_=>False
end
def Ds (P:Program)(g:TypeId->Option (List PTy)):List Field->List PTy->Option (List PTy)
 |[],acc=>some acc
 |f::fs,acc=>match g f.type with
  |some us=>if f.offset=acc.length/\ P.cellsOf f.type=us.length then Ds P g fs (acc++us)else none
  |none=>none
def flatT (P:Program):Nat->TypeId->Option (List PTy)
 |0,_=>none
 |n+1,t=>match P.underlying t with
  |some .bool=>some [.bool]
  |some (.int k)=>some [.int k]
  |some .string=>some [.str]
  |some (.slice e)=>match flatT P n e with
   |some ts=>if ts.isEmpty||P.cellsOf e !=ts.length then none else some [.lst ts]
   |none=>none
  |some (.struct fs)=>match Ds P (flatT P n) fs.toList []with
   |some ts=>if P.cellsOf t=ts.length then some ts else none
   |none=>none
  |_=>none
def dX.len :∀{ts:List PTy}{ps:List PV},dX ts ps->ts.length=ps.length
 |[],[],_=>rfl
 |_::_,_::_,h=>by simp only[dX]at h;simp[dX.len h.2]
 |[],_::_,h=>by simp[dX]at h
 |_::_,[],h=>by simp[dX]at h
def dX.append :∀{ts us:List PTy}{ps qs:List PV},dX ts ps->dX us qs->dX (ts++us) (ps++qs)
 |[],_,[],_,_,h=>h
 |_::_,_,_::_,_,h,k=>by simp only[dX,Zh]at h⊢;exact⟨h.1,dX.append h.2 k⟩
 |[],_,_::_,_,h,_=>by simp[dX]at h
 |_::_,_,[],_,h,_=>by simp[dX]at h
def RdL (w:World)(ps:List PV)(cs:List Value):Prop:=ps.length=cs.length/\ ∀(i:Nat)(p:PV)(c:Value),ps[i]? =some p->cs[i]? =some c->cG (fun _=>False) w p c
def RdL.append {w:World}{ps qs:List PV}{cs ds:List Value}(h:RdL w ps cs)(k:RdL w qs ds):RdL w (ps++qs) (cs++ds):=by refine⟨by simp[h.1,k.1],fun i p c hp hc=> ?_⟩;by_cases hi:i<ps.length;rw[Ze hi]at hp;rw[Ze (by rw[<-h.1];exact hi)]at hc;exact h.2 i p c hp hc;rw[Zm (by omega)]at hp;rw[Zm (by rw[<-h.1];omega),<-h.1]at hc;exact k.2 _ p c hp hc
def Um {H:Type}{enc:TypeId×Value->H}{P:Program}{w:World}:∀(fuel n:Nat)(t:TypeId)(cs:List Value)(d:DataW H)(ps:List MemPlace)(ts:List PTy),DataW.trod enc P w 0 (fun _=>true) true fuel t cs=some (d,ps)->flatT P n t=some ts->
 ∃qs:List PV,dX ts qs/\ RdL w qs cs:=by
 intro fuel;induction fuel with
 |zero=>intro n t cs d ps ts h;simp[DataW.trod]at h
 |succ fuel ih=>
  intro n t cs d ps ts h ht;cases n with
  |zero=>simp[flatT]at ht
  |succ n=>
   have one:∀{p:PV}{c:Value},cG (fun _=>False) w p c->RdL w [p] [c]:=fun{p c}hr=>⟨rfl,fun i p' c' hp hc=>by
    cases i with
    |zero=>simp at hp hc;subst hp;subst hc;exact hr
    |succ i=>simp at hp⟩
   unfold flatT at ht;split at ht;rename_i hu;cases ht;obtain⟨b,rfl,_⟩:=DataW.trod_bool hu h;exact⟨[.bool b],by simp[dX,mY],one (by simp[cG])⟩;rename_i k hu;cases ht;obtain⟨m,rfl,_,aO⟩:=DataW.trod_int hu h;exact⟨[.int k m],by simp[dX,mY,aO],one (by simp[cG])⟩;rename_i hu;cases ht;obtain⟨s,rfl,_,hs⟩:=DataW.trod_string hu h;exact⟨[.str s.data.toList],by simp only[dX,mY,and_true];exact hs,one (by simp[cG])⟩;rename_i e hu;split at ht;rename_i us av;split at ht;cases ht;rename_i a2;cases ht;simp only[YM,List.isEmpty_iff,bne_iff_ne,ne_eq,not_or,Decidable.not_not]at a2;obtain⟨aw,ah⟩:=a2;rcases DataW.trod_slice hu h with⟨rfl,_⟩|⟨ad,len,cap,elems,rest,m,em,rfl,_,_,aP,b4,aQ,ax,_,_⟩;exact⟨[.lst []],by simp[dX,mY],one (by simp only[cG];exact .inl ⟨by trivial,_,_,rfl⟩)⟩;obtain rfl:m=fuel:=by omega
   have ai:0<us.length:=QM.2 aw;have ae:0<len->ad.spot=none:=by
    intro hl;have hx:=ax 0 hl;have ay:elems[0]? =some (elems[0]'(by omega)):=by simp[show 0<elems.length by omega]
    rw[ay]at hx;cases ag:w.cells? 0 (ad.add (0*P.cellsOf e)) (P.cellsOf e)with
    |none=>rw[ag]at hx;simp at hx
    |some a5=>
     obtain⟨_,c2,c3⟩:=World.cells?_some ag;rw[ah]at c2 c3;have h0:=c3 0 ai;have az:a5[0]? =some (a5[0]'(by omega)):=by simp[show 0<a5.length by omega]
     rw[az]at h0;have a6:(ad.add (0*us.length)).add 0=ad:=by simp[Addr.add]
     rw[a6]at h0;exact World.cell?_spot h0
   have aj:∀i,i<len->∃q:List PV,dX us q/\ gT (fun _=>False) w q ad.block (ad.off+i*us.length)/\ ad.spot=none/\ ad.block<w.heap.size:=by
    intro i hi;have hx:=ax i hi;have ay:elems[i]? =some (elems[i]'(by omega)):=by simp[show i<elems.length by omega]
    rw[ay]at hx;cases ag:w.cells? 0 (ad.add (i*P.cellsOf e)) (P.cellsOf e)with
    |none=>rw[ag]at hx;simp at hx
    |some a5=>
     rw[ag]at hx;simp only[Option.bind_some]at hx;obtain⟨q,g1,g2⟩:=ih n e a5 _ _ us hx av;obtain⟨_,c2,c3⟩:=World.cells?_some ag;rw[ah]at c2 c3;have h0:=c3 0 ai;have az:a5[0]? =some (a5[0]'(by omega)):=by simp[show 0<a5.length by omega]
     rw[az]at h0;have a6:(ad.add (i*us.length)).add 0=ad.add (i*us.length):=by simp[Addr.add]
     rw[a6]at h0;have a1:ad.spot=none:=ae (by omega);have hb:ad.block<w.heap.size:=by
      have:=World.block_lt_of_cell? w _ h0;have e2:(ad.add (i*us.length)).block=ad.block:=by unfold Addr.add;split<;>rfl
      rwa[e2]at this
     refine⟨q,g1,gT.of fun j p hp=> ?_,a1,hb⟩;have hj:j<us.length:=by rw[g1.len];exact(Zb.1 hp).1
     have aC:=c3 j hj;have ak:a5[j]? =some (a5[j]'(by omega)):=by simp[show j<a5.length by omega]
     rw[ak]at aC;refine⟨_,?_,g2.2 j p _ hp ak⟩;rw[<-aC];congr 1;obtain⟨bb,oo,ss⟩:=ad;simp only at a1;subst a1;rw[Addr.add_mid,Addr.add_mid]
   by_cases aR:len=0;subst aR;exact⟨[.lst []],by simp[dX,mY],one (by simp only[cG];exact .inl ⟨by trivial,_,_,rfl⟩)⟩;obtain⟨rows,aD,a7⟩:∃rows:List (List PV),rows.length=len/\ ∀i q,rows[i]? =some q->dX us q/\ gT (fun _=>False) w q ad.block (ad.off+i*us.length):=by
    clear ax aQ em h;have:∀k,k<=len->∃rows:List (List PV),rows.length=k/\ ∀i q,rows[i]? =some q->dX us q/\ gT (fun _=>False) w q ad.block (ad.off+i*us.length):=by
     intro k;induction k with
     |zero=>intro _;exact⟨[],rfl,fun i q hq=>by simp at hq⟩
     |succ k aS=>
      intro hk;obtain⟨rows,r1,r2⟩:=aS (by omega);obtain⟨q,q1,q2,_⟩:=aj k (by omega);refine⟨rows++[q],by simp[r1],fun i q' af=> ?_⟩;by_cases hi:i<rows.length;rw[Ze hi]at af;exact r2 i q' af;rw[Zm (by omega)]at af;have h1:=(Zb.1 af).1;simp at h1;have:i=k:=by omega
      subst this;rw[r1,YI]at af;simp at af;subst af;exact⟨q1,q2⟩
    exact this len (Zi _)
   obtain⟨_,_,_,a1,hb⟩:=aj 0 (by omega);refine⟨[.lst rows],?_,one ?_⟩;simp only[dX,mY,and_true];refine⟨by omega,fun r hr=> ?_⟩;obtain⟨i,hi,rfl⟩:=Yi hr;exact(a7 i _ (Zj hi)).1;simp only[cG];obtain⟨bb,oo,ss⟩:=ad;simp only at a1 hb a7;subst a1;refine .inr ⟨bb,oo,cap,us.length,by rw[aD],fun h=>h,hb,fX.of fun i q hq=> ?_,by rw[aD];exact aP⟩;obtain⟨g1,g2⟩:=a7 i q hq;exact⟨g1.len.symm,g2⟩;cases ht;rename_i fs hu;split at ht;rename_i b5 aT;split at ht;rename_i aE;cases ht;obtain⟨xs,m,em,_,hl,aU,hf⟩:=DataW.trod_struct hu h;obtain rfl:m=fuel:=by omega
   have key:∀(fl:List Field)(acc out:List PTy)(k:Nat),(∀j,fl[j]? =fs[k+j]?)->Ds P (flatT P n) fl acc=some out->(∃qs,dX acc qs/\ RdL w qs (cs.take acc.length))->out.length<=cs.length->∃qs,dX out qs/\ RdL w qs (cs.take out.length):=by
    intro fl;induction fl with
    |nil=>intro acc out k _ ho hq _;simp[Ds]at ho;subst ho;exact hq
    |cons f fl aV=>
     intro acc out k aF ho hq hle;unfold Ds at ho;split at ho;rename_i us av;split at ho;rename_i aA;obtain⟨aW,aX⟩:=aA;have aG:fs[k]? =some f:=by simpa using(aF 0).symm
     have hx:=hf k f aG;have aY:k<xs.length:=by rw[aU];exact(Yq.1 aG).1
     have aZ:xs[k]? =some xs[k]:=by simp[aY]
     rw[aZ]at hx;obtain⟨b0,g1,g2⟩:=ih n f.type _ _ _ us hx av;obtain⟨b1,p1,p2⟩:=hq;refine aV (acc++us) out (k+1) (fun j=>by have:=aF (j+1);simpa[Nat.add_assoc,Nat.add_comm 1 j]using this) ho ⟨b1++b0,p1.append g1,?_⟩ hle;have e:cs.take (acc++us).length=cs.take acc.length++(cs.drop f.offset).take (P.cellsOf f.type):=by rw[aW,aX,Zv,List.take_add]
     rw[e];exact p2.append g2;cases ho;cases ho
   obtain⟨qs,g1,g2⟩:=key fs.toList [] ts 0 (by simp) aT ⟨[],by simp[dX],by simp[RdL]⟩ (by rw[hl,aE];exact Zi _);refine⟨qs,g1,?_⟩;rw[show ts.length=cs.length by rw[hl,aE],Yd]at g2;exact g2;cases ht;cases ht;cases ht
def afJ (g:Bool)(qs:List PV):V:=if g then .agg (qs.map .pv)else(match qs with|[q]=> .one (.pv q)|_=> .b8 [])
def VE {H:Type}{enc:TypeId×Value->H}{P:Program}{w:World}{t:TypeId}{v:Value}{d:DataW H}{ps:List MemPlace}{n:Nat}{ts:List PTy}{g:Bool}(h:DataW.Trod enc P w 0 (fun _=>true) true t v d ps)(ht:flatT P n t=some ts)
 (hg:(g=true/\ ∃cs,v= .agg cs) \/(g=false/\ ts.length=1/\ ∀cs,v≠ .agg cs)):∃qs,dX ts qs/\ VR (fun _=>False) w [] [] (afJ g qs) v:=by
 obtain⟨fuel,hf⟩:=h;obtain⟨qs,h1,h2⟩:=Um fuel n t _ d ps ts hf ht;refine⟨qs,h1,?_⟩;rcases hg with⟨rfl,cs,rfl⟩|⟨rfl,hl,hv⟩;refine⟨cs,rfl,by simpa[Value.cells]using h2.1,fun i l c hl hc=> ?_⟩;simp only[Zp,Zl]at hl;obtain⟨q,hq,rfl⟩:=hl;exact h2.2 i q c hq hc;have b2:qs.length=1:=by rw[<-h1.len];exact hl
 obtain⟨q,rfl⟩:=ZN.1 b2;have b3:v.cells= #[v]:=by
  cases v with
  |agg cs=>exact absurd rfl (hv cs)
  |_=>rfl
 rw[b3]at h2;exact h2.2 0 q v rfl rfl
def Wx {Γ:Ctx}{P:Program}{Φ:Nat->Option AFn}{ext:Nat->List V->Option V}(im:QI Γ P kf Φ ext){f k:Nat}(hk:kf f=some k){xz:List V}(h:cf Φ ext k xz=some (cL true)){W:World}{args:Array Value}(hG:Γ.G W)
 (ha:uD (fun _=>False) W xz args.toList):Calls P f args W fun e W'=>e= .returned (.bool true)/\ Below W.heap.size W W':=by
 obtain⟨_,hs⟩:=PI im hk h;refine(hs (fun _=>False) W args hG (fun _ h=>h.elim) ha).mono fun e W'⟨v,he,hb,hr⟩=> ?_;obtain⟨J',_,hv⟩:=hr;have:v= .bool true:=by simpa[thaw,thawL,VR,LR,cG]using hv
 exact⟨by rw[he,this],hb⟩
end Gi
namespace Gi
open Go Go.RowKit
attribute [local simp] start iN cD cj cT dG dY Opd.ev put asList L.view bin ft isBool done dd cu fb eh comp cU dS cz V.cells
def zJ (f:St->Option (Ex×St))(Z:St):cS f Z=(match f Z with
 |some (.normal,Z')=>cS f Z'
 |r=>r):=by
 cases h:f Z with
 |none=>
  cases hl:cS f Z with
  |none=>rfl
  |some r=>
   obtain⟨n,hn⟩:=qi.1 hl;cases n with
   |zero=>simp[hZ]at hn
   |succ n=>simp[hZ,h]at hn
 |some x=>
  obtain⟨e,Z'⟩:=x;cases e with
  |normal=>exact jR h
  |exit i=>exact mf h (by simp)
  |ret=>exact mf h (by simp)
def JA :L->PV
 | .pv p=>p
 | .own _ es=> .lst es
 | .down _ es=> .lst es
 |_=> .lst []
def vS (h:List Q0):∀(ps:List PV),viewL h (ps.map .pv)=some ps
 |[]=>rfl
 |p::ps=>by simp only[Zt,viewL,L.view,vS h ps]
def xR (h:List Q0)(ps:List PV):V.view h (.agg (ps.map .pv))=some (.agg (ps.map .pv)):=by simp only[V.view,vS]
def tD :∀(ls:List L)(h:List Q0),ls.all L.clean=true->∃t,(thawL h ls).2=h++t:=fun ls h hc=>(pB ls h hc).2.1
def xQ :∀(ls:List L)(h:List Q0),ls.all L.clean=true->viewL (thawL h ls).2 (thawL h ls).1=some (ls.map JA)
 |[],h,_=>rfl
 |l::ls,h,hc=>by
  simp only[Zq,Zg]at hc;cases l with
  |own z es=>
   simp only[thawL,Zt,viewL];obtain⟨t,ht⟩:=tD ls (h++[.arr z es]) hc.2;rw[xQ ls _ hc.2];have:L.view (thawL (h++[Q0.arr z es]) ls).2 (.arr h.length)=some (.lst es):=by rw[ht];simp[L.view]
   rw[this];rfl
  |down z es=>
   simp only[thawL,Zt,viewL];obtain⟨t,ht⟩:=tD ls (h++[.bA z es]) hc.2;rw[xQ ls _ hc.2];have:L.view (thawL (h++[Q0.bA z es]) ls).2 (.arr h.length)=some (.lst es):=by rw[ht];simp[L.view]
   rw[this];rfl
  |pv p=>simp only[thawL,Zt,viewL,L.view,xQ ls h hc.2];rfl
  |nil=>simp only[thawL,Zt,viewL,L.view,xQ ls h hc.2];rfl
  |_=>simp[L.clean]at hc
def tE :∀(ls:List L)(h:List Q0)(o:Nat),ls.all L.clean=true->o<h.length->(thawL h ls).1.all (L.bB o)=true
 |[],_,_,_,_=>rfl
 |l::ls,h,o,hc,ho=>by
  simp only[Zq,Zg]at hc;cases l with
  |own z es=>simp only[thawL,Zq,Zg];exact⟨by simp[L.bB];omega,tE ls _ o hc.2 (by simp;omega)⟩
  |down z es=>simp only[thawL,Zq,Zg];exact⟨by simp[L.bB];omega,tE ls _ o hc.2 (by simp;omega)⟩
  |pv p=>simp only[thawL,Zq,Zg];exact⟨rfl,tE ls h o hc.2 ho⟩
  |nil=>simp only[thawL,Zq,Zg];exact⟨rfl,tE ls h o hc.2 ho⟩
  |_=>simp[L.clean]at hc
def Kd {α:Type}(a b:List α)(h:a.length=b.length):putAt a 0 b=b:=by simp[putAt,h.symm]
def Gv (h:List Q0):∀(ps:List PV),freezeLs h (ps.map .pv)=h
 |[]=>rfl
 |p::ps=>by show freezeLs (freezeL h (.pv p)) (ps.map .pv)=h;exact Gv h ps
def Gw (h:List Q0)(ps:List PV):freezeVs h [.agg (ps.map .pv)]=h:=Gv h ps
def WI (o:Nat)(ps:List PV):(ps.map L.pv).all (L.bB o)=true:=by simp[L.bB]
def adz {rows:List (List PV)}{k m:Nat}{zero:List PV}(h:k+(m+1)=rows.length):(rows.take k++List.replicate (m+1) zero)[k]? =some zero:=by rw[Zm (by simp;omega),List.getElem?_replicate];rw[if_pos (by simp;omega)]
def aa5 {rows:List (List PV)}{k m:Nat}{zero:List PV}(h:k+(m+1)=rows.length):(rows.take k++List.replicate (m+1) zero).set k (rows[k]'(by omega))=rows.take (k+1)++List.replicate m zero:=by
 have hk:k<rows.length:=by omega
 rw[YQ _ _ (by simp;omega)];have:k-(rows.take k).length=0:=by simp;omega
 rw[this,Qa,ZP,ZQ hk,List.append_assoc];rfl
section
variable {Φ:Nat->Option AFn}{ext:Nat->List V->Option V}
def Mz (i a t0:Nat):Q7:= .seq (.region [⟨some t0, .mv (.tmp i),none⟩,⟨some (t0+1), .mv (.tmp a),none⟩,⟨some (t0+2), .len (.tmp (t0+1)),none⟩,⟨some (t0+3), .bin .lss (.tmp t0) (.tmp (t0+2)),none⟩]) (.cond (.tmp (t0+3)) .skip (.exit 0))
def NP (i t0:Nat):Q7:= .region [⟨some t0, .mv (.tmp i),none⟩,⟨some (t0+1), .bin .add (.tmp t0) (.pv (.int .i64 1)),none⟩,⟨some i, .mv (.tmp (t0+1)),none⟩]
def oA {k:Nat}(h:k<9223372036854775807):IntKind.i64.wrap ((k:Int)+1)=(k:Int)+1:=by rw[IntKind.wrap_i64];omega
def afI (Φ:Nat->Option AFn)(ext:Nat->List V->Option V)(kx:Nat)(fl:Bool)(r:List PV):Prop:=
 ∃ls,cf Φ ext kx [.agg (r.map .pv)]=some (.agg ls)/\ ls.all L.clean=true/\ ls.map JA=r/\ (fl=true->ls=r.map .pv/\ ls.all L.flat=true)
def CE (t0:Nat):List X2:=[⟨some t0, .mv (.tmp 1),none⟩,⟨some (t0+1), .mv (.tmp 0),none⟩,⟨some (t0+2), .len (.tmp (t0+1)),none⟩,⟨some (t0+3), .bin .sub (.tmp t0) (.tmp (t0+2)),none⟩,⟨some 1, .mv (.tmp (t0+3)),none⟩]
def uo (t0:Nat):Q7:= .seq (.region [⟨some t0, .mv (.tmp 1),none⟩,⟨some (t0+1), .bin .lss (.tmp t0) (.pv (.int .i64 0)),none⟩]) (.cond (.tmp (t0+1)) (.seq (.region [⟨some 4, .mv (.pv (.int .i64 (-1))),none⟩]) .ret) .skip)
def yz (z kx:Nat):Q7:= .seq (Mz 5 0 12) (.seq (.block 1 (.seq (.region [⟨some 18, .mv (.tmp 0),none⟩,⟨some 19, .mv (.tmp 5),none⟩,⟨some 20, .bH z (.tmp 18) (.tmp 19),none⟩,⟨some 21, .load true z (.tmp 20),none⟩,⟨some 22, .mv (.tmp 1),none⟩,⟨some 23, .call kx [.tmp 21, .tmp 22] true false,none⟩,⟨some 1, .mv (.tmp 23),none⟩]) (uo 24))) (NP 5 16))
def OL (z kx:Nat):AFn:=⟨27,[.tmp 4], .seq (.region [⟨some 4, .mv (.pv (.int .i64 0)),none⟩]) (.seq (.region (CE 6)) (.seq (uo 10) (.seq (.seq (.region [⟨some 5, .mv (.pv (.int .i64 0)),none⟩]) (.block 0 (.loop (yz z kx)))) (.seq (.region [⟨some 26, .mv (.tmp 1),none⟩,⟨some 4, .mv (.tmp 26),none⟩]) .ret))))⟩
def szF :AFn:=⟨12,[.tmp 4], .seq (.region [⟨some 4, .mv (.pv (.int .i64 0)),none⟩]) (.seq (.region (CE 5)) (.seq (uo 9) (.seq (.region [⟨some 11, .mv (.tmp 1),none⟩,⟨some 4, .mv (.tmp 11),none⟩]) .ret)))⟩
mutual
def sz :PV->Nat
 | .str s=>s.length
 | .lst rows=>rows.length+dR rows
 |_=>0
def gV :List PV->Nat
 |[]=>0
 |p::ps=>sz p+gV ps
def dR :List (List PV)->Nat
 |[]=>0
 |r::rs=>gV r+dR rs
end
def less (left:Int)(n:Nat):Int:=if left<n then-1 else left-n
def Im (Φ:Nat->Option AFn)(ext:Nat->List V->Option V)(kx:Nat)(r:List PV):Prop:=
 ∀left:Int,0<=left->left<=1048576->cf Φ ext kx [.agg (r.map .pv),ce .i64 left]=some (ce .i64 (less left (gV r)))
def xx {left:Int}{a b:Nat}(h:0<=less left a):less (less left a) b=less left (a+b):=by unfold less at*;split at h;omega;rename_i h1;rw[if_neg h1];by_cases h2:left-(a:Int)<b;rw[if_pos h2,if_pos (by omega)];rw[if_neg h2,if_neg (by omega)];omega
def Ry {left:Int}{a b:Nat}(h0:0<=left)(h:less left a<0):less left (a+b)= -1:=by unfold less at*;split at h;rw[if_pos (by omega)];omega
def aeB {k:Nat}{rows:List (List PV)}(hk:Φ k=some szF)(hlen:rows.length<=maxLen){left:Int}(h0:0<=left)(h1:left<=1048576):cf Φ ext k [eW rows,ce .i64 left]=some (ce .i64 (less left rows.length)):=by
 refine j0 hk ?_;have hw:IntKind.i64.wrap (left-rows.length)=left-rows.length:=by unfold maxLen at hlen;rw[IntKind.wrap_i64];omega
 by_cases hl:left<rows.length;have:left-(rows.length:Int)<0:=by omega
 simp[szF,CE,uo,hw,this,less,hl];have:¬left-(rows.length:Int)<0:=by omega
 simp[szF,CE,uo,hw,this,less,hl]
end
end Gi
