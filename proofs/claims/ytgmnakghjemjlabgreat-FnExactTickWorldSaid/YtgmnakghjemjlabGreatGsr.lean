/- Of this proof. -/
import Derived.Test.YtgmnakghjemjlabGreatGsq
set_option linter.unusedSimpArgs false
set_option linter.unusedVariables false
namespace Gi
open Go
def rV :List V→Nat→V
 |[],_=> .tup []
 |v::_,0=>v
 |_::r,n+1=>rV r n
def xD :List V→Nat→V→List V
 |[],_,_=>[]
 |_::r,0,x=>x::r
 |v::r,n+1,x=>v::xD r n x
theorem xA :∀(t:List V)(n:Nat),t.getD n (.tup [])=rV t n
 |[],_=>by simp[rV]
 |v::r,0=>by simp[rV]
 |v::r,n+1=>by rw[List.getD_cons_succ,xA r n];rfl
theorem Hl :∀(t:List V)(n:Nat)(x:V),t.set n x=xD t n x
 |[],_,_=>rfl
 |v::r,0,_=>rfl
 |v::r,n+1,x=>by rw[List.set_cons_succ,Hl r n x];rfl
theorem dS {σ:St}{n:Nat}:(Opd.tmp n).ev σ=rV σ.t n:=xA _ _
theorem fY {σ:St}{p:PV}:(Opd.pv p).ev σ= .one (.pv p):=rfl
theorem dR {σ:St}:Opd.nil.ev σ= .one .nil:=rfl
theorem fX {σ:St}{k:Nat}:(Opd.fn k).ev σ= .one (.fn k []):=rfl
theorem f7 {t:List V}{d:Nat}{v:V}:put t (some d) v=xD t d v:=Hl _ _ _
theorem f6 {t:List V}{v:V}:put t none v=t:=rfl
theorem cX {σ:St}{n:Nat}:bz σ (.tmp n)=some (rV σ.t n):=by simp only[bz,xA]
theorem bZ {σ:St}{t n:Nat}:bz σ (.cell t n)=bo σ.h true n (rV σ.t t):=by simp only[bz,xA]
theorem dZ {t:List V}{i:Nat}{v:V}{r:List (Nat×V)}:fC t ((i,v)::r)=fC (xD t i v) r:=by rw[dY,Hl]
section
variable {a b c d e f g h v:V}{r:List V}{n:Nat}
theorem um :rV (v::r) 0=v:=rfl
theorem uB {x:V}:xD (v::r) 0 x=x::r:=rfl
theorem uo :rV (a::v::r) 1=v:=rfl
theorem uC {x:V}:xD (a::v::r) 1 x=a::x::r:=rfl
theorem uq :rV (a::b::v::r) 2=v:=rfl
theorem uD {x:V}:xD (a::b::v::r) 2 x=a::b::x::r:=rfl
theorem ur :rV (a::b::c::v::r) 3=v:=rfl
theorem uE {x:V}:xD (a::b::c::v::r) 3 x=a::b::c::x::r:=rfl
theorem ut :rV (a::b::c::d::v::r) 4=v:=rfl
theorem uF {x:V}:xD (a::b::c::d::v::r) 4 x=a::b::c::d::x::r:=rfl
theorem uu :rV (a::b::c::d::e::v::r) 5=v:=rfl
theorem uG {x:V}:xD (a::b::c::d::e::v::r) 5 x=a::b::c::d::e::x::r:=rfl
theorem uw :rV (a::b::c::d::e::f::v::r) 6=v:=rfl
theorem uH {x:V}:xD (a::b::c::d::e::f::v::r) 6 x=a::b::c::d::e::f::x::r:=rfl
theorem uy :rV (a::b::c::d::e::f::g::v::r) 7=v:=rfl
theorem uI {x:V}:xD (a::b::c::d::e::f::g::v::r) 7 x=a::b::c::d::e::f::g::x::r:=rfl
theorem uz :rV (a::b::c::d::e::f::g::h::r) (n+8)=rV r n:=rfl
theorem uJ {x:V}:xD (a::b::c::d::e::f::g::h::r) (n+8) x=a::b::c::d::e::f::g::h::xD r n x:=rfl
end
section
variable {call:Nat→List V→Option V}{Q:Ex→St→Prop}{ks:List Fr}{σ τ:St}
variable (call Q ks)in
def wo (ops:List AOper)(σ:St):Prop:=wp call Q ks (match ah call ops σ with
 |some σ'=>some (.normal,σ')
 |none=>none)
variable (call Q ks)in
def rW (r:List AOper)(d:Option Nat)(σ:St):AOp→Prop
 | .pick c a b=>match isBool (c.ev σ)with
  |some t=>if _:t=true then wo call Q ks r ⟨put σ.t d (a.ev σ),σ.h⟩else wo call Q ks r ⟨put σ.t d (b.ev σ),σ.h⟩
  |none=>False
 |op=>match bg call σ op with
  |some v=>wo call Q ks r ⟨put σ.t d v,σ.h⟩
  |none=>match bY call σ op with
   |some x=>wo call Q ks r ⟨put σ.t d x.1,x.2⟩
   |none=>False
theorem bA {ops:List AOper}:wp call Q ks (aj call av (.region ops) σ)=wo call Q ks ops σ:=n5
theorem ed :wo call Q ks [] σ=wp call Q ks (some (.normal,σ)):=rfl
theorem Ra {o:AOper}{r:List AOper}:wo call Q ks (o::r) σ=match aw call o σ with
 |some σ'=>wo call Q ks r σ'
 |none=>False:=by
 unfold wo
 simp only[ah]
 cases aw call o σ with
 |some x=>rfl
 |none=>simp only[mf]
theorem OY {r:List AOper}{d:Option Nat}{op:AOp}:rW call Q ks r d σ op=match(match bg call σ op with
 |some v=>some (⟨put σ.t d v,σ.h⟩:St)
 |none=>match bY call σ op with
  |some (v,h)=>some ⟨put σ.t d v,h⟩
  |none=>none)with
 |some σ'=>wo call Q ks r σ'
 |none=>False:=by
 have key:∀(f:Option V)(e:Option (V×List AObj)),(match f with
  |some v=>wo call Q ks r ⟨put σ.t d v,σ.h⟩
  |none=>match e with
   |some x=>wo call Q ks r ⟨put σ.t d x.1,x.2⟩
   |none=>False)=match(match f with
  |some v=>some (⟨put σ.t d v,σ.h⟩:St)
  |none=>match e with
   |some (v,h)=>some ⟨put σ.t d v,h⟩
   |none=>none)with
  |some σ'=>wo call Q ks r σ'
  |none=>False:=fun f e=>by
  cases f with
  |some v=>rfl
  |none=>cases e<;>rfl
 unfold rW
 split
 ·simp only[bg,bY]
  cases isBool (Opd.ev σ _)with
  |none=>rfl
  |some t=>cases t<;>simp
 ·exact key _ _
theorem cY {r:List AOper}{d:Option Nat}{op:AOp}:wo call Q ks (⟨d,op,none⟩::r) σ=rW call Q ks r d σ op:=by
 rw[Ra,OY];rfl
theorem ca {r:List AOper}{d:Option Nat}{op:AOp}{g:Nat}{w:Bool}:wo call Q ks (⟨d,op,some (g,w)⟩::r) σ=match rV σ.t g with
 | .one (.pv (.bool b))=>if _:b=w then rW call Q ks r d σ op else wo call Q ks r ⟨put σ.t d (.tup []),σ.h⟩
 | .tup []=>wo call Q ks r ⟨put σ.t d (.tup []),σ.h⟩
 |_=>False:=by
 rw[Ra,←xA]
 unfold aw
 simp only[aH]
 cases σ.t.getD g (.tup [])with
 |one l=>
  cases l with
  |pv p=>
   cases p with
   |bool b=>
    have e:=OY (call:=call) (Q:=Q) (ks:=ks) (σ:=σ) (r:=r) (d:=d) (op:=op)
    cases b<;>cases w<;>simp only[e]<;>simp<;>rfl
   |_=>rfl
  |_=>rfl
 |agg ls=>rfl
 |tup xs=>cases xs<;>rfl
theorem cZ {c:Opd}{a b:ACode}:wp call Q ks (aj call av (.cond c a b) σ)=match isBool (c.ev σ)with
 |some t=>if _:t=true then wp call Q ks (aj call av a σ)else wp call Q ks (aj call av b σ)
 |none=>False:=by
 rw[wp_cond]
 cases isBool (c.ev σ)with
 |none=>simp only[mf]
 |some t=>cases t<;>simp
theorem LI {P:Ex→St→Prop}{x:Option (Ex×St)}(h:wp call P [] x):∃e τ,x=some (e,τ)∧P e τ:=by
 cases x with
 |none=>rw[mf]at h;exact h.elim
 |some x=>exact⟨_,_,rfl,h⟩
theorem Ns (hc:k9 call)(hQ:Cl Q){c:ACode}(S:Nat→St)(n:Nat)(p:Nat→Bool)(hz:(c.zOk&&kz ks)=true)(kn:Kn (S 0) σ)
 (st:∀k,k<n→(∀j,j<k→p j=false)→wp call (fun e τ=>(p k=true→wp call Q (.sq mb::ks) (some (e,τ)))∧(p k=false→e= .normal∧Kn (S (k+1)) τ)) [] (aj call av c (S k)))
 (en:(∀k,k<n→p k=false)→wp call Q (.sq mb::ks) (aj call av c (S n))):wp call Q ks (aj call av (.loop c) σ):=by
 have key:∀m k,k+m=n→(∀j,j<k→p j=false)→wp call Q ks (aj call av (.loop c) (S k)):=by
  intro m
  induction m with
  |zero=>
   intro k hk hp
   obtain rfl:k=n:=by omega
   exact qp (en hp)
  |succ m ih=>
   intro k hk hp
   obtain⟨e,τ,h1,h2,h3⟩:=LI (st k (by omega) hp)
   cases hpk:p k with
   |true=>exact qp (by rw[h1];exact h2 hpk)
   |false=>
    obtain⟨rfl,h4⟩:=h3 hpk
    refine zd hc hQ hz (by rw[h1,cK];exact⟨rfl,h4⟩) (ih (k+1) (by omega) fun j hj=> ?_)
    by_cases q:j=k
    ·rw[q];exact hpk
    ·exact hp j (by omega)
 have hz':kz (.sq (.loop c)::ks)=true:=by simpa only[kz,ACode.zOk]using hz
 exact Ho hc hQ (S 0) hz' kn (key n 0 (by omega) (fun j h=>by omega))
def fA (n:Nat)(p:Nat→Bool):Bool:=(List.range n).any p
theorem Jx {n k:Nat}{p:Nat→Bool}(hk:k<n)(h:p k=true):fA n p=true:=by
 unfold fA;rw[List.any_eq_true];exact⟨k,by simpa using hk,h⟩
theorem Jw {n:Nat}{p:Nat→Bool}(h:∀k,k<n→p k=false):fA n p=false:=by
 unfold fA;rw[List.any_eq_false];intro k hk;simp[h k (by simpa using hk)]
theorem ND {n:Nat}{p:Nat→Bool}(h:fA n p=false){k:Nat}(hk:k<n):p k=false:=by
 unfold fA at h;rw[List.any_eq_false]at h;exact Bool.eq_false_iff.2 (h k (by simpa using hk))
theorem aC (hc:k9 call)(hQ:Cl Q){c:ACode}{t:List V}{h:List AObj}(m:List Mk)(U:Nat→List (Nat×V))(n:Nat)(p:Nat→Bool)(hz:(c.zOk&&kz ks)=true)(kn:Kn ⟨fC (da m t) (U 0),h⟩ ⟨t,h⟩)
 (st:∀k,k<n→(∀j,j<k→p j=false)→wp call (fun e τ=>if _:p k=true then fA n p=true→wp call Q (.sq mb::ks) (some (e,τ))else e= .normal∧Kn ⟨fC (da m t) (U (k+1)),h⟩ τ) [] (aj call av c ⟨fC (da m t) (U k),h⟩))
 (en:(∀k,k<n→p k=false)→fA n p=false→wp call Q (.sq mb::ks) (aj call av c ⟨fC (da m t) (U n),h⟩)):wp call Q ks (aj call av (.loop c) ⟨t,h⟩):=by
 refine Ns hc hQ (fun k=>⟨fC (da m t) (U k),h⟩) n p hz kn (fun k hk hp=> ?_) fun hp=>en hp (Jw hp)
 obtain⟨e,τ,h1,h2⟩:=LI (st k hk hp)
 rw[h1,cK]
 split at h2
 ·rename_i q;exact⟨fun _=>h2 (Jx hk q),fun q'=>by rw[q]at q';cases q'⟩
 ·rename_i q;exact⟨fun q'=>absurd q' q,fun _=>h2⟩
end
end Gi
