/- Of this proof. -/
import Derived.Test.YtgmnakghjemjlaaGreatGsp
set_option linter.unusedSimpArgs false
set_option linter.unusedVariables false
namespace Gi
open Go
section
variable {call:Nat→List V→Option V}{Q:Ex→St→Prop}{ks:List Fr}{σ τ:St}
theorem C7 {id:Nat}{σ:St}(h:wp call Q ks (some (.exit id,σ))):wp call Q (.sq lF::ks) (some (.exit id,σ)):=by rw[cO];exact h
theorem wX {c:ACode}:wp call Q ks (aj call ar (.loop c) σ)=wp call Q (.sq (.loop c)::ks) (aj call ar c σ):=by
 simp only[aj]
 rw[rI]
 cases h:aj call ar c σ with
 |none=>simp only[lI]
 |some x=>
  obtain⟨e,σ'⟩:=x
  cases e with
  |normal=>simp only[cM,aj]
  |exit i=>simp only[cO]
  |ret=>simp only[cS]
theorem KZ (hc:kL call)(hQ:Cl Q){c:ACode}{t:List V}{h:List AObj}(n:Nat)(m:List Mk)(U:Nat→List (Nat×V))(H:Nat→List AObj)(id:Nat)(hz:(c.zOk&&kz ks)=true)(kn:Kn ⟨fp (cP m t) (U 0),H 0⟩ ⟨t,h⟩)
 (st:∀k,k<n→wp call (fun e τ=>e= .normal∧Kn ⟨fp (cP m t) (U (k+1)),H (k+1)⟩ τ) [] (aj call ar c ⟨fp (cP m t) (U k),H k⟩))
 (en:wp call (fun e τ=>e= .exit id∧Kn ⟨fp (cP m t) (U n),H n⟩ τ) [] (aj call ar c ⟨fp (cP m t) (U n),H n⟩))
 (rest:wp call Q ks (some (.exit id,⟨fp (cP m t) (U n),H n⟩))):wp call Q ks (aj call ar (.loop c) ⟨t,h⟩):=by
 refine cL hc hQ n m U H hz kn st ?_
 obtain⟨τ,h1,k1⟩:=Dv en
 rw[h1]
 refine C7 (IQ hc hQ ?_ k1 rest)
 simp only[Bool.and_eq_true]at hz
 exact hz.2
theorem Qu (hc:kL call)(hQ:Cl Q){c:ACode}{t:List V}{h:List AObj}(m:List Mk)(U:Nat→List (Nat×V))(n:Nat)(p:Nat→Bool)(id:Nat)(hz:(c.zOk&&kz ks)=true)(kn:Kn ⟨fp (cP m t) (U 0),h⟩ ⟨t,h⟩)
 (st:∀k,k<n→p k=false→wp call (fun e τ=>e= .normal∧Kn ⟨fp (cP m t) (U (k+1)),h⟩ τ) [] (aj call ar c ⟨fp (cP m t) (U k),h⟩))
 (le:∀k,k<n→p k=true→(∀j,j<k→p j=false)→wp call Q (.sq lF::ks) (aj call ar c ⟨fp (cP m t) (U k),h⟩))
 (en:wp call (fun e τ=>e= .exit id∧Kn ⟨fp (cP m t) (U n),h⟩ τ) [] (aj call ar c ⟨fp (cP m t) (U n),h⟩))
 (rest:(∀k,k<n→p k=false)→wp call Q ks (some (.exit id,⟨fp (cP m t) (U n),h⟩))):wp call Q ks (aj call ar (.loop c) ⟨t,h⟩):=by
 refine IR hc hQ m U n p hz kn st le (fun hp=> ?_)
 obtain⟨τ,h1,k1⟩:=Dv en
 rw[h1]
 refine C7 (IQ hc hQ ?_ k1 (rest hp))
 simp only[Bool.and_eq_true]at hz
 exact hz.2
end
def qS :List V→Nat→V
 |[],_=> .tup []
 |v::_,0=>v
 |_::r,n+1=>qS r n
def wW :List V→Nat→V→List V
 |[],_,_=>[]
 |_::r,0,x=>x::r
 |v::r,n+1,x=>v::wW r n x
theorem wT :∀(t:List V)(n:Nat),t.getD n (.tup [])=qS t n
 |[],_=>by simp[qS]
 |v::r,0=>by simp[qS]
 |v::r,n+1=>by rw[List.getD_cons_succ,wT r n];rfl
theorem GM :∀(t:List V)(n:Nat)(x:V),t.set n x=wW t n x
 |[],_,_=>rfl
 |v::r,0,_=>rfl
 |v::r,n+1,x=>by rw[List.set_cons_succ,GM r n x];rfl
theorem ep {σ:St}{n:Nat}:(Opd.tmp n).ev σ=qS σ.t n:=wT _ _
theorem fZ {σ:St}{p:PV}:(Opd.pv p).ev σ= .one (.pv p):=rfl
theorem ej {σ:St}:Opd.nil.ev σ= .one .nil:=rfl
theorem fY {σ:St}{k:Nat}:(Opd.fn k).ev σ= .one (.fn k []):=rfl
theorem f8 {t:List V}{d:Nat}{v:V}:put t (some d) v=wW t d v:=GM _ _ _
theorem f7 {t:List V}{v:V}:put t none v=t:=rfl
theorem da {σ:St}{n:Nat}:bx σ (.tmp n)=some (qS σ.t n):=by simp only[bx,wT]
theorem cf {σ:St}{t n:Nat}:bx σ (.cell t n)=bn σ.h true n (qS σ.t t):=by simp only[bx,wT]
theorem eA {t:List V}{i:Nat}{v:V}{r:List (Nat×V)}:fp t ((i,v)::r)=fp (wW t i v) r:=by rw[dR,GM]
section
variable {a b c d e f g h v:V}{r:List V}{n:Nat}
theorem uP :qS (v::r) 0=v:=rfl
theorem uY {x:V}:wW (v::r) 0 x=x::r:=rfl
theorem uQ :qS (a::v::r) 1=v:=rfl
theorem uZ {x:V}:wW (a::v::r) 1 x=a::x::r:=rfl
theorem uR :qS (a::b::v::r) 2=v:=rfl
theorem u0 {x:V}:wW (a::b::v::r) 2 x=a::b::x::r:=rfl
theorem uS :qS (a::b::c::v::r) 3=v:=rfl
theorem vd {x:V}:wW (a::b::c::v::r) 3 x=a::b::c::x::r:=rfl
theorem uT :qS (a::b::c::d::v::r) 4=v:=rfl
theorem ve {x:V}:wW (a::b::c::d::v::r) 4 x=a::b::c::d::x::r:=rfl
theorem uU :qS (a::b::c::d::e::v::r) 5=v:=rfl
theorem vf {x:V}:wW (a::b::c::d::e::v::r) 5 x=a::b::c::d::e::x::r:=rfl
theorem uV :qS (a::b::c::d::e::f::v::r) 6=v:=rfl
theorem vg {x:V}:wW (a::b::c::d::e::f::v::r) 6 x=a::b::c::d::e::f::x::r:=rfl
theorem uW :qS (a::b::c::d::e::f::g::v::r) 7=v:=rfl
theorem vh {x:V}:wW (a::b::c::d::e::f::g::v::r) 7 x=a::b::c::d::e::f::g::x::r:=rfl
theorem uX :qS (a::b::c::d::e::f::g::h::r) (n+8)=qS r n:=rfl
theorem vi {x:V}:wW (a::b::c::d::e::f::g::h::r) (n+8) x=a::b::c::d::e::f::g::h::wW r n x:=rfl
end
section
variable {call:Nat→List V→Option V}{Q:Ex→St→Prop}{ks:List Fr}{σ τ:St}
variable (call Q ks)in
def wo (ops:List AOper)(σ:St):Prop:=wp call Q ks (match ah call ops σ with
 |some σ'=>some (.normal,σ')
 |none=>none)
variable (call Q ks)in
def sQ (r:List AOper)(d:Option Nat)(σ:St):AOp→Prop
 | .pick c a b=>match isBool (c.ev σ)with
  |some t=>if _:t=true then wo call Q ks r ⟨put σ.t d (a.ev σ),σ.h⟩else wo call Q ks r ⟨put σ.t d (b.ev σ),σ.h⟩
  |none=>False
 |op=>match bg call σ op with
  |some v=>wo call Q ks r ⟨put σ.t d v,σ.h⟩
  |none=>match bX call σ op with
   |some x=>wo call Q ks r ⟨put σ.t d x.1,x.2⟩
   |none=>False
theorem bF {ops:List AOper}:wp call Q ks (aj call ar (.region ops) σ)=wo call Q ks ops σ:=nD
theorem eB :wo call Q ks [] σ=wp call Q ks (some (.normal,σ)):=rfl
theorem Qt {o:AOper}{r:List AOper}:wo call Q ks (o::r) σ=match az call o σ with
 |some σ'=>wo call Q ks r σ'
 |none=>False:=by
 unfold wo
 simp only[ah]
 cases az call o σ with
 |some x=>rfl
 |none=>simp only[lI]
theorem Ob {r:List AOper}{d:Option Nat}{op:AOp}:sQ call Q ks r d σ op=match(match bg call σ op with
 |some v=>some (⟨put σ.t d v,σ.h⟩:St)
 |none=>match bX call σ op with
  |some (v,h)=>some ⟨put σ.t d v,h⟩
  |none=>none)with
 |some σ'=>wo call Q ks r σ'
 |none=>False:=by
 have key:∀(f:Option V)(e:Option (V×List AObj)),(match f with
  |some v=>wo call Q ks r ⟨put σ.t d v,σ.h⟩
  |none=>match e with
   |some x=>wo call Q ks r ⟨put σ.t d x.1,x.2⟩
   |none=>False)=match(match f with
  |some v=>some (⟨put σ.t d v,σ.h⟩:St)
  |none=>match e with
   |some (v,h)=>some ⟨put σ.t d v,h⟩
   |none=>none)with
  |some σ'=>wo call Q ks r σ'
  |none=>False:=fun f e=>by
  cases f with
  |some v=>rfl
  |none=>cases e<;>rfl
 unfold sQ
 split
 ·simp only[bg,bX]
  cases isBool (Opd.ev σ _)with
  |none=>rfl
  |some t=>cases t<;>simp
 ·exact key _ _
theorem db {r:List AOper}{d:Option Nat}{op:AOp}:wo call Q ks (⟨d,op,none⟩::r) σ=sQ call Q ks r d σ op:=by
 rw[Qt,Ob];rfl
theorem cg {r:List AOper}{d:Option Nat}{op:AOp}{g:Nat}{w:Bool}:wo call Q ks (⟨d,op,some (g,w)⟩::r) σ=match qS σ.t g with
 | .one (.pv (.bool b))=>if _:b=w then sQ call Q ks r d σ op else wo call Q ks r ⟨put σ.t d (.tup []),σ.h⟩
 | .tup []=>wo call Q ks r ⟨put σ.t d (.tup []),σ.h⟩
 |_=>False:=by
 rw[Qt,←wT]
 unfold az
 simp only[aI]
 cases σ.t.getD g (.tup [])with
 |one l=>
  cases l with
  |pv p=>
   cases p with
   |bool b=>
    have e:=Ob (call:=call) (Q:=Q) (ks:=ks) (σ:=σ) (r:=r) (d:=d) (op:=op)
    cases b<;>cases w<;>simp only[e]<;>simp<;>rfl
   |_=>rfl
  |_=>rfl
 |agg ls=>rfl
 |tup xs=>cases xs<;>rfl
theorem dd {c:Opd}{a b:ACode}:wp call Q ks (aj call ar (.cond c a b) σ)=match isBool (c.ev σ)with
 |some t=>if _:t=true then wp call Q ks (aj call ar a σ)else wp call Q ks (aj call ar b σ)
 |none=>False:=by
 rw[wp_cond]
 cases isBool (c.ev σ)with
 |none=>simp only[lI]
 |some t=>cases t<;>simp
theorem K0 {P:Ex→St→Prop}{x:Option (Ex×St)}(h:wp call P [] x):∃e τ,x=some (e,τ)∧P e τ:=by
 cases x with
 |none=>rw[lI]at h;exact h.elim
 |some x=>exact⟨_,_,rfl,h⟩
theorem MH (hc:kL call)(hQ:Cl Q){c:ACode}(S:Nat→St)(n:Nat)(p:Nat→Bool)(hz:(c.zOk&&kz ks)=true)(kn:Kn (S 0) σ)
 (st:∀k,k<n→(∀j,j<k→p j=false)→wp call (fun e τ=>(p k=true→wp call Q (.sq lF::ks) (some (e,τ)))∧(p k=false→e= .normal∧Kn (S (k+1)) τ)) [] (aj call ar c (S k)))
 (en:(∀k,k<n→p k=false)→wp call Q (.sq lF::ks) (aj call ar c (S n))):wp call Q ks (aj call ar (.loop c) σ):=by
 have key:∀m k,k+m=n→(∀j,j<k→p j=false)→wp call Q ks (aj call ar (.loop c) (S k)):=by
  intro m
  induction m with
  |zero=>
   intro k hk hp
   obtain rfl:k=n:=by omega
   exact pV (en hp)
  |succ m ih=>
   intro k hk hp
   obtain⟨e,τ,h1,h2,h3⟩:=K0 (st k (by omega) hp)
   cases hpk:p k with
   |true=>exact pV (by rw[h1];exact h2 hpk)
   |false=>
    obtain⟨rfl,h4⟩:=h3 hpk
    refine yw hc hQ hz (by rw[h1,cN];exact⟨rfl,h4⟩) (ih (k+1) (by omega) fun j hj=> ?_)
    by_cases q:j=k
    ·rw[q];exact hpk
    ·exact hp j (by omega)
 have hz':kz (.sq (.loop c)::ks)=true:=by simpa only[kz,ACode.zOk]using hz
 exact GP hc hQ (S 0) hz' kn (key n 0 (by omega) (fun j h=>by omega))
def fL (n:Nat)(p:Nat→Bool):Bool:=(List.range n).any p
theorem MV {n k:Nat}{p:Nat→Bool}(hk:k<n)(h:p k=true):fL n p=true:=by
 unfold fL;rw[List.any_eq_true];exact⟨k,by simpa using hk,h⟩
theorem MT {n:Nat}{p:Nat→Bool}(h:∀k,k<n→p k=false):fL n p=false:=by
 unfold fL;rw[List.any_eq_false];intro k hk;simp[h k (by simpa using hk)]
theorem MU {n:Nat}{p:Nat→Bool}(h:fL n p=false){k:Nat}(hk:k<n):p k=false:=by
 unfold fL at h;rw[List.any_eq_false]at h;exact Bool.eq_false_iff.2 (h k (by simpa using hk))
theorem aB (hc:kL call)(hQ:Cl Q){c:ACode}{t:List V}{h:List AObj}(m:List Mk)(U:Nat→List (Nat×V))(n:Nat)(p:Nat→Bool)(hz:(c.zOk&&kz ks)=true)(kn:Kn ⟨fp (cP m t) (U 0),h⟩ ⟨t,h⟩)
 (st:∀k,k<n→(∀j,j<k→p j=false)→wp call (fun e τ=>if _:p k=true then fL n p=true→wp call Q (.sq lF::ks) (some (e,τ))else e= .normal∧Kn ⟨fp (cP m t) (U (k+1)),h⟩ τ) [] (aj call ar c ⟨fp (cP m t) (U k),h⟩))
 (en:(∀k,k<n→p k=false)→fL n p=false→wp call Q (.sq lF::ks) (aj call ar c ⟨fp (cP m t) (U n),h⟩)):wp call Q ks (aj call ar (.loop c) ⟨t,h⟩):=by
 refine MH hc hQ (fun k=>⟨fp (cP m t) (U k),h⟩) n p hz kn (fun k hk hp=> ?_) fun hp=>en hp (MT hp)
 obtain⟨e,τ,h1,h2⟩:=K0 (st k hk hp)
 rw[h1,cN]
 split at h2
 ·rename_i q;exact⟨fun _=>h2 (MV hk q),fun q'=>by rw[q]at q';cases q'⟩
 ·rename_i q;exact⟨fun q'=>absurd q' q,fun _=>h2⟩
end
end Gi
