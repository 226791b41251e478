/- Of this proof. -/
import Derived.Test.YtpfadfkomcbecaaGreatGsq
set_option linter.unusedSimpArgs false
set_option linter.unusedVariables false
namespace Gi
open Go
def si :List V→Nat→V
 |[],_=> .tup []
 |v::_,0=>v
 |_::r,n+1=>si r n
def yc :List V→Nat→V→List V
 |[],_,_=>[]
 |_::r,0,x=>x::r
 |v::r,n+1,x=>v::yc r n x
theorem x5 :∀(t:List V)(n:Nat),t.getD n (.tup [])=si t n
 |[],_=>by simp[si]
 |v::r,0=>by simp[si]
 |v::r,n+1=>by rw[List.getD_cons_succ,x5 r n];rfl
theorem Ir :∀(t:List V)(n:Nat)(x:V),t.set n x=yc t n x
 |[],_,_=>rfl
 |v::r,0,_=>rfl
 |v::r,n+1,x=>by rw[List.set_cons_succ,Ir r n x];rfl
theorem dQ {σ:St}{n:Nat}:(Opd.tmp n).ev σ=si σ.t n:=x5 _ _
theorem fY {σ:St}{p:PV}:(Opd.pv p).ev σ= .one (.pv p):=rfl
theorem dP {σ:St}:Opd.nil.ev σ= .one .nil:=rfl
theorem fX {σ:St}{k:Nat}:(Opd.fn k).ev σ= .one (.fn k []):=rfl
theorem f7 {t:List V}{d:Nat}{v:V}:put t (some d) v=yc t d v:=Ir _ _ _
theorem f6 {t:List V}{v:V}:put t none v=t:=rfl
theorem cU {σ:St}{n:Nat}:bE σ (.tmp n)=some (si σ.t n):=by simp only[bE,x5]
theorem bX {σ:St}{t n:Nat}:bE σ (.cell t n)=bm σ.h true n (si σ.t t):=by simp only[bE,x5]
theorem dX {t:List V}{i:Nat}{v:V}{r:List (Nat×V)}:fw t ((i,v)::r)=fw (yc t i v) r:=by rw[dW,Ir]
section
variable {a b c d e f g h v:V}{r:List V}{n:Nat}
theorem uH :si (v::r) 0=v:=rfl
theorem uQ {x:V}:yc (v::r) 0 x=x::r:=rfl
theorem uI :si (a::v::r) 1=v:=rfl
theorem uR {x:V}:yc (a::v::r) 1 x=a::x::r:=rfl
theorem uJ :si (a::b::v::r) 2=v:=rfl
theorem uS {x:V}:yc (a::b::v::r) 2 x=a::b::x::r:=rfl
theorem uK :si (a::b::c::v::r) 3=v:=rfl
theorem uT {x:V}:yc (a::b::c::v::r) 3 x=a::b::c::x::r:=rfl
theorem uL :si (a::b::c::d::v::r) 4=v:=rfl
theorem uU {x:V}:yc (a::b::c::d::v::r) 4 x=a::b::c::d::x::r:=rfl
theorem uM :si (a::b::c::d::e::v::r) 5=v:=rfl
theorem uV {x:V}:yc (a::b::c::d::e::v::r) 5 x=a::b::c::d::e::x::r:=rfl
theorem uN :si (a::b::c::d::e::f::v::r) 6=v:=rfl
theorem uW {x:V}:yc (a::b::c::d::e::f::v::r) 6 x=a::b::c::d::e::f::x::r:=rfl
theorem uO :si (a::b::c::d::e::f::g::v::r) 7=v:=rfl
theorem uX {x:V}:yc (a::b::c::d::e::f::g::v::r) 7 x=a::b::c::d::e::f::g::x::r:=rfl
theorem uP :si (a::b::c::d::e::f::g::h::r) (n+8)=si r n:=rfl
theorem uY {x:V}:yc (a::b::c::d::e::f::g::h::r) (n+8) x=a::b::c::d::e::f::g::h::yc r n x:=rfl
end
section
variable {call:Nat→List V→Option V}{Q:Ex→St→Prop}{ks:List Fr}{σ τ:St}
variable (call Q ks)in
def wo (ops:List AOper)(σ:St):Prop:=wp call Q ks (match ah call ops σ with
 |some σ'=>some (.normal,σ')
 |none=>none)
variable (call Q ks)in
def sj (r:List AOper)(d:Option Nat)(σ:St):AOp→Prop
 | .pick c a b=>match isBool (c.ev σ)with
  |some t=>if _:t=true then wo call Q ks r ⟨put σ.t d (a.ev σ),σ.h⟩else wo call Q ks r ⟨put σ.t d (b.ev σ),σ.h⟩
  |none=>False
 |op=>match bf call σ op with
  |some v=>wo call Q ks r ⟨put σ.t d v,σ.h⟩
  |none=>match bU call σ op with
   |some x=>wo call Q ks r ⟨put σ.t d x.1,x.2⟩
   |none=>False
theorem bv {ops:List AOper}:wp call Q ks (aj call av (.region ops) σ)=wo call Q ks ops σ:=ov
theorem dY :wo call Q ks [] σ=wp call Q ks (some (.normal,σ)):=rfl
theorem SY {o:AOper}{r:List AOper}:wo call Q ks (o::r) σ=match az call o σ with
 |some σ'=>wo call Q ks r σ'
 |none=>False:=by
 unfold wo
 simp only[ah]
 cases az call o σ with
 |some x=>rfl
 |none=>simp only[mB]
theorem Qq {r:List AOper}{d:Option Nat}{op:AOp}:sj call Q ks r d σ op=match(match bf call σ op with
 |some v=>some (⟨put σ.t d v,σ.h⟩:St)
 |none=>match bU call σ op with
  |some (v,h)=>some ⟨put σ.t d v,h⟩
  |none=>none)with
 |some σ'=>wo call Q ks r σ'
 |none=>False:=by
 have key:∀(f:Option V)(e:Option (V×List AObj)),(match f with
  |some v=>wo call Q ks r ⟨put σ.t d v,σ.h⟩
  |none=>match e with
   |some x=>wo call Q ks r ⟨put σ.t d x.1,x.2⟩
   |none=>False)=match(match f with
  |some v=>some (⟨put σ.t d v,σ.h⟩:St)
  |none=>match e with
   |some (v,h)=>some ⟨put σ.t d v,h⟩
   |none=>none)with
  |some σ'=>wo call Q ks r σ'
  |none=>False:=fun f e=>by
  cases f with
  |some v=>rfl
  |none=>cases e<;>rfl
 unfold sj
 split
 ·simp only[bf,bU]
  cases isBool (Opd.ev σ _)with
  |none=>rfl
  |some t=>cases t<;>simp
 ·exact key _ _
theorem cW {r:List AOper}{d:Option Nat}{op:AOp}:wo call Q ks (⟨d,op,none⟩::r) σ=sj call Q ks r d σ op:=by
 rw[SY,Qq];rfl
theorem bY {r:List AOper}{d:Option Nat}{op:AOp}{g:Nat}{w:Bool}:wo call Q ks (⟨d,op,some (g,w)⟩::r) σ=match si σ.t g with
 | .one (.pv (.bool b))=>if _:b=w then sj call Q ks r d σ op else wo call Q ks r ⟨put σ.t d (.tup []),σ.h⟩
 | .tup []=>wo call Q ks r ⟨put σ.t d (.tup []),σ.h⟩
 |_=>False:=by
 rw[SY,←x5]
 unfold az
 simp only[aH]
 cases σ.t.getD g (.tup [])with
 |one l=>
  cases l with
  |pv p=>
   cases p with
   |bool b=>
    have e:=Qq (call:=call) (Q:=Q) (ks:=ks) (σ:=σ) (r:=r) (d:=d) (op:=op)
    cases b<;>cases w<;>simp only[e]<;>simp<;>rfl
   |_=>rfl
  |_=>rfl
 |agg ls=>rfl
 |tup xs=>cases xs<;>rfl
theorem cX {c:Opd}{a b:ACode}:wp call Q ks (aj call av (.cond c a b) σ)=match isBool (c.ev σ)with
 |some t=>if _:t=true then wp call Q ks (aj call av a σ)else wp call Q ks (aj call av b σ)
 |none=>False:=by
 rw[wp_cond]
 cases isBool (c.ev σ)with
 |none=>simp only[mB]
 |some t=>cases t<;>simp
theorem M3 {P:Ex→St→Prop}{x:Option (Ex×St)}(h:wp call P [] x):∃e τ,x=some (e,τ)∧P e τ:=by
 cases x with
 |none=>rw[mB]at h;exact h.elim
 |some x=>exact⟨_,_,rfl,h⟩
theorem OQ (hc:lq call)(hQ:Cl Q){c:ACode}(S:Nat→St)(n:Nat)(p:Nat→Bool)(hz:(c.zOk&&kz ks)=true)(kn:Kn (S 0) σ)
 (st:∀k,k<n→(∀j,j<k→p j=false)→wp call (fun e τ=>(p k=true→wp call Q (.sq mr::ks) (some (e,τ)))∧(p k=false→e= .normal∧Kn (S (k+1)) τ)) [] (aj call av c (S k)))
 (en:(∀k,k<n→p k=false)→wp call Q (.sq mr::ks) (aj call av c (S n))):wp call Q ks (aj call av (.loop c) σ):=by
 have key:∀m k,k+m=n→(∀j,j<k→p j=false)→wp call Q ks (aj call av (.loop c) (S k)):=by
  intro m
  induction m with
  |zero=>
   intro k hk hp
   obtain rfl:k=n:=by omega
   exact qH (en hp)
  |succ m ih=>
   intro k hk hp
   obtain⟨e,τ,h1,h2,h3⟩:=M3 (st k (by omega) hp)
   cases hpk:p k with
   |true=>exact qH (by rw[h1];exact h2 hpk)
   |false=>
    obtain⟨rfl,h4⟩:=h3 hpk
    refine zN hc hQ hz (by rw[h1,cG];exact⟨rfl,h4⟩) (ih (k+1) (by omega) fun j hj=> ?_)
    by_cases q:j=k
    ·rw[q];exact hpk
    ·exact hp j (by omega)
 have hz':kz (.sq (.loop c)::ks)=true:=by simpa only[kz,ACode.zOk]using hz
 exact Iu hc hQ (S 0) hz' kn (key n 0 (by omega) (fun j h=>by omega))
def fT (n:Nat)(p:Nat→Bool):Bool:=(List.range n).any p
theorem O6 {n k:Nat}{p:Nat→Bool}(hk:k<n)(h:p k=true):fT n p=true:=by
 unfold fT;rw[List.any_eq_true];exact⟨k,by simpa using hk,h⟩
theorem O4 {n:Nat}{p:Nat→Bool}(h:∀k,k<n→p k=false):fT n p=false:=by
 unfold fT;rw[List.any_eq_false];intro k hk;simp[h k (by simpa using hk)]
theorem O5 {n:Nat}{p:Nat→Bool}(h:fT n p=false){k:Nat}(hk:k<n):p k=false:=by
 unfold fT at h;rw[List.any_eq_false]at h;exact Bool.eq_false_iff.2 (h k (by simpa using hk))
theorem aA (hc:lq call)(hQ:Cl Q){c:ACode}{t:List V}{h:List AObj}(m:List Mk)(U:Nat→List (Nat×V))(n:Nat)(p:Nat→Bool)(hz:(c.zOk&&kz ks)=true)(kn:Kn ⟨fw (cY m t) (U 0),h⟩ ⟨t,h⟩)
 (st:∀k,k<n→(∀j,j<k→p j=false)→wp call (fun e τ=>if _:p k=true then fT n p=true→wp call Q (.sq mr::ks) (some (e,τ))else e= .normal∧Kn ⟨fw (cY m t) (U (k+1)),h⟩ τ) [] (aj call av c ⟨fw (cY m t) (U k),h⟩))
 (en:(∀k,k<n→p k=false)→fT n p=false→wp call Q (.sq mr::ks) (aj call av c ⟨fw (cY m t) (U n),h⟩)):wp call Q ks (aj call av (.loop c) ⟨t,h⟩):=by
 refine OQ hc hQ (fun k=>⟨fw (cY m t) (U k),h⟩) n p hz kn (fun k hk hp=> ?_) fun hp=>en hp (O4 hp)
 obtain⟨e,τ,h1,h2⟩:=M3 (st k hk hp)
 rw[h1,cG]
 split at h2
 ·rename_i q;exact⟨fun _=>h2 (O6 hk q),fun q'=>by rw[q]at q';cases q'⟩
 ·rename_i q;exact⟨fun q'=>absurd q' q,fun _=>h2⟩
end
end Gi
