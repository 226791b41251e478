/- Of this proof. -/
import Derived.Test.YtbeaonmepfkmmaaGreatGipd
import Derived.Deep.LoopGhost
set_option linter.unusedSimpArgs false
set_option linter.unusedVariables false
namespace Gi
open Go Go.RowKit
variable {KI:KF}
section
variable {Γ:Ctx}{P:Program}{M0:Nat→Prop}{base:Nat}{σ:St}{a:Act}{w:World}{ρ:List (Option Nat)}{call:Nat→List V→Option V}
def SX [KF](Γ:Ctx)(z:Bool)(O:Nat→Prop)(base:Nat)(w0:World)(ρ0:List (Option Nat))(h0:List AObj)(σ:St)(a:Act)(w:World)(ρ:List (Option Nat)):Prop:=
 ∃M0,(∀b,O b→M0 b)∧(z=true→M0=O)∧SR Γ M0 base σ a w ρ∧Below base w0 w∧Ch (Mu O ρ0 h0) (Mu M0 ρ σ.h) w0 w ρ0 ρ h0 σ.h
variable {z:Bool}{O:Nat→Prop}{w0:World}{ρ0:List (Option Nat)}{h0:List AObj}
theorem zI (ok:CallOK Γ P kf call)(s:SX Γ z O base w0 ρ0 h0 σ a w ρ){ops:Array Oper}{o:Oper}{d:Md}{oo:AOper}{σ':St}{K:Act→World→Prop}{Q:Exit→Act→World→Prop}(hz:z=true→oo.op.noZ=true)
 (hc:t9 P kf d ops o=some oo) (he:aE call oo σ=some σ') (hK:∀a' w' ρ',SX Γ z O base w0 ρ0 h0 σ' a' w' ρ'→K a' w'):
 if Region.wanted o (yielded ops a.tmps)then o.wp P a w K Q else K (a.put o.dst undef) w:=by
 obtain⟨M0,i1,i2,s1,b1,c1⟩:=s
 exact Jz ok s1 hc he fun M0' a' w' ρ' g0 g1 g2 g3 g4=>hK a' w' ρ' ⟨M0',fun b h=>g0 b (i1 b h),fun hz'=>(g1 (hz hz')).trans (i2 hz'),g2,b1.trans g3,c1.trans g4⟩
theorem EX (ok:CallOK Γ P kf call){ops:Array Oper}{d:Md}{Q:Exit→Act→World→Prop}:∀{l:List Oper}{oos:List AOper}{σ σ':St}{a:Act}{w:World}{ρ:List (Option Nat)},SX Γ z O base w0 ρ0 h0 σ a w ρ→(z=true→∀oo∈oos,oo.op.noZ=true)→
 fx (t9 P kf d ops) l=some oos→ai call oos σ=some σ'→(∀a' w' ρ',SX Γ z O base w0 ρ0 h0 σ' a' w' ρ'→Q .normal a' w')→wpList P ops Q l a w
 |[],oos,σ,σ',a,w,ρ,s,hz,hc,he,hQ=>by
  simp[fx]at hc;subst hc
  simp[ai]at he;subst he
  exact wpList_nil (hQ a w ρ s)
 |o::l,oos,σ,σ',a,w,ρ,s,hz,hc,he,hQ=>by
  unfold fx at hc
  split at hc
  ·rename_i oo oos' h1 h2
   cases hc
   unfold ai at he
   split at he
   ·rename_i σ1 he1
    exact wpList_step fun K hK=>zI ok s (fun h=>hz h oo (by simp)) h1 he1 fun a' w' ρ' s'=>hK _ _ (EX ok s' (fun h o ho=>hz h o (by simp[ho])) h2 he hQ)
   ·cases he
  ·cases hc
theorem Opd.ev_set {x:Opd}{t:List V}{h h':List AObj}{d:Nat}{v:V}(hd:d∉x.tmps):x.ev ⟨t.set d v,h⟩=x.ev ⟨t,h'⟩:=by
 cases x with
 |tmp n=>
  simp only[Opd.tmps,List.mem_singleton]at hd
  simp only[Opd.ev,List.getD]
  rw[List.getElem?_set_ne hd]
 |_=>rfl
theorem N2 {σ σ':St}(hh:σ.h=σ'.h){ao:AOp}(hx:∀x∈ao.opds,x.ev σ=x.ev σ'):a9 call σ ao=a9 call σ' ao:=by
 cases ao with
 |build zero parts=>
  have:(parts.map fun x=>(x.1,x.2.1,x.2.2.ev σ))=(parts.map fun x=>(x.1,x.2.1,x.2.2.ev σ')):=by
   apply List.map_congr_left
   intro x hxm
   rw[hx x.2.2 (by simp only[AOp.opds];exact List.mem_map.2 ⟨x,hxm,rfl⟩)]
  simp only[a9,this]
 |call f xz fl fz=>
  have:xz.map (Opd.ev σ)=xz.map (Opd.ev σ'):=List.map_congr_left (fun x hxm=>hx x hxm)
  simp only[a9,this,hh]
 |callV x xz=>
  have h1:=hx x (by simp[AOp.opds])
  have:xz.map (Opd.ev σ)=xz.map (Opd.ev σ'):=List.map_congr_left (fun y hy=>hx y (by simp[AOp.opds,hy]))
  simp only[a9,this,hh,h1]
 |slcL z x lo hi=>rfl
 |buildF z parts=>
  have:parts.map (Opd.ev σ)=parts.map (Opd.ev σ'):=List.map_congr_left (fun x hxm=>hx x hxm)
  simp only[a9,this]
 |slcF z x lo hi=>
  have h1:=hx x (by simp[AOp.opds])
  have h2:∀d,bB σ d lo=bB σ' d lo:=by
   intro d
   cases lo with
   |none=>rfl
   |some o=>simp only[bB,hx o (by simp[AOp.opds])]
  have h3:∀d,bB σ d hi=bB σ' d hi:=by
   intro d
   cases hi with
   |none=>rfl
   |some o=>simp only[bB,hx o (by simp[AOp.opds])]
  simp only[a9,h1,h2,h3]
 |mkfn k cs=>rfl
 |callD k cs=>rfl
 |callF f xz=>
  have:xz.map (Opd.ev σ)=xz.map (Opd.ev σ'):=List.map_congr_left (fun x hxm=>hx x hxm)
  simp only[a9,this,hh]
 |mkmap=>rfl
 |mset x k v=>rfl
 |mget x k=>
  have h1:=hx x (by simp[AOp.opds])
  have h2:=hx k (by simp[AOp.opds])
  simp only[a9,h1,h2,hh]
 |slcS x lo hi=>
  have h1:=hx x (by simp[AOp.opds])
  have h2:∀d,bB σ d lo=bB σ' d lo:=by
   intro d
   cases lo with
   |none=>rfl
   |some o=>simp only[bB,hx o (by simp[AOp.opds])]
  have h3:∀d,bB σ d hi=bB σ' d hi:=by
   intro d
   cases hi with
   |none=>rfl
   |some o=>simp only[bB,hx o (by simp[AOp.opds])]
  simp only[a9,h1,h2,h3]
 |_=>simp_all[a9,AOp.opds]
theorem sp {σ σ':St}{d:Int}{x:Option Opd}(hx:∀y∈x.toList,y.ev σ=y.ev σ'):bB σ d x=bB σ' d x:=by
 cases x with
 |none=>rfl
 |some o=>simp only[bB,hx o (by simp)]
theorem NL {σ σ':St}(hh:σ.h=σ'.h){ao:AOp}(hx:∀x∈ao.opds,x.ev σ=x.ev σ'):b6 call σ ao=b6 call σ' ao:=by
 cases ao with
 |buildS z parts=>
  have:parts.map (Opd.ev σ)=parts.map (Opd.ev σ'):=List.map_congr_left (fun x hxm=>hx x hxm)
  simp only[b6,this,hh]
 |call f xz fl fz=>
  have:xz.map (Opd.ev σ)=xz.map (Opd.ev σ'):=List.map_congr_left (fun x hxm=>hx x hxm)
  cases fl<;>cases fz<;>first|rfl|simp only[b6,this,hh]
 |callD f xz=>
  have:xz.map (Opd.ev σ)=xz.map (Opd.ev σ'):=List.map_congr_left (fun x hxm=>hx x hxm)
  simp only[b6,this,hh]
 |mkfn k cs=>
  have:cs.map (Opd.ev σ)=cs.map (Opd.ev σ'):=List.map_congr_left (fun x hxm=>hx x hxm)
  simp only[b6,this,hh]
 |callC f xz=>
  have:xz.map (Opd.ev σ)=xz.map (Opd.ev σ'):=List.map_congr_left (fun x hxm=>hx x hxm)
  simp only[b6,this,hh]
 |callZ f xz=>
  have:xz.map (Opd.ev σ)=xz.map (Opd.ev σ'):=List.map_congr_left (fun x hxm=>hx x hxm)
  simp only[b6,this,hh]
 |buildD z parts=>
  have:parts.map (Opd.ev σ)=parts.map (Opd.ev σ'):=List.map_congr_left (fun x hxm=>hx x hxm)
  simp only[b6,this,hh]
 |slcL z x lo hi=>
  have h1:=hx x (by simp[AOp.opds])
  have h2:∀d,bB σ d lo=bB σ' d lo:=fun d=>sp fun y hy=>hx y (by simp only[AOp.opds];exact List.mem_cons_of_mem _ (List.mem_append_left _ hy))
  have h3:∀d,bB σ d hi=bB σ' d hi:=fun d=>sp fun y hy=>hx y (by simp only[AOp.opds];exact List.mem_cons_of_mem _ (List.mem_append_right _ hy))
  simp only[b6,h1,h2,h3,hh]
 |_=>simp_all[b6,AOp.opds]
def mb (call:Nat→List V→Option V)(o:AOper)(σ:St):Option (V×List AObj):=
 match aO σ o.guard with
 |some true=>match a9 call σ o.op with
  |some v=>some (v,σ.h)
  |none=>b6 call σ o.op
 |some false=>some (.tup [],σ.h)
 |none=>none
theorem yU (oo:AOper)(σ:St):aE call oo σ=(mb call oo σ).map fun x=>⟨put σ.t oo.dst x.1,x.2⟩:=by
 unfold aE mb
 cases hw:aO σ oo.guard with
 |none=>rfl
 |some b=>
  cases b with
  |false=>rfl
  |true=>
   simp only
   cases hf:a9 call σ oo.op with
   |some v=>rfl
   |none=>
    cases he:b6 call σ oo.op with
    |none=>rfl
    |some x=>rfl
theorem L1 {x y:AOper}(hap:so x y=true){t:List V}{h:List AObj}{v:V}:mb call y ⟨put t x.dst v,h⟩=mb call y ⟨t,h⟩:=by
 cases hd:x.dst with
 |none=>rfl
 |some d=>
  have hno:d∉y.reads:=by
   simp only[so,hd,Bool.and_eq_true,Bool.not_eq_true']at hap
   have:=hap.1.1
   simpa using this
  have hop:∀z∈y.op.opds,z.ev (⟨put t (some d) v,h⟩:St)=z.ev ⟨t,h⟩:=fun z hz=>Opd.ev_set (h':=h) (fun hm=>hno (List.mem_append_left _ (List.mem_flatMap.2 ⟨z,hz,hm⟩)))
  have hw:aO (⟨put t (some d) v,h⟩:St) y.guard=aO ⟨t,h⟩ y.guard:=by
   cases hg:y.guard with
   |none=>rfl
   |some gw=>
    obtain⟨g,b⟩:=gw
    have hne:d≠g:=fun e=>hno (List.mem_append_right _ (by simp[hg,e]))
    simp only[aO,put,List.getD]
    rw[List.getElem?_set_ne hne]
  unfold mb
  rw[hw,N2 (σ:=⟨put t (some d) v,h⟩) (σ':=⟨t,h⟩) rfl hop,NL (σ:=⟨put t (some d) v,h⟩) (σ':=⟨t,h⟩) rfl hop]
theorem vI {x:Opd}{t:List V}{h h':List AObj}:x.ev ⟨t,h⟩=x.ev ⟨t,h'⟩:=by cases x<;>rfl
theorem nZ {g:Option (Nat×Bool)}{t:List V}{h h':List AObj}:aO ⟨t,h⟩ g=aO ⟨t,h'⟩ g:=by
 cases g with
 |none=>rfl
 |some gw=>rfl
theorem Ri {t:List V}{h h':List AObj}{d:Int}{x:Option Opd}:bB ⟨t,h⟩ d x=bB ⟨t,h'⟩ d x:=sp fun y _=>vI
theorem Bv {ao:AOp}(hc:ao.cls≤1):b6 call σ ao=none:=by
 cases ao with
 |call f xz fl fz=>cases fl<;>cases fz<;>first|rfl|simp[AOp.cls]at hc
 |_=>first|rfl|simp[AOp.cls]at hc
theorem PS {ao:AOp}(hc:ao.cls=0){t:List V}{h h':List AObj}:a9 call ⟨t,h⟩ ao=a9 call ⟨t,h'⟩ ao:=by
 have e:∀x:Opd,x.ev ⟨t,h⟩=x.ev ⟨t,h'⟩:=fun x=>vI
 have e2:∀d x,bB ⟨t,h⟩ d x=bB ⟨t,h'⟩ d x:=fun d x=>Ri
 have e3:Opd.ev ⟨t,h⟩=Opd.ev ⟨t,h'⟩:=funext e
 cases ao with
 |buildF z ps=>simp only[a9,e3]
 |call f xz fl fz=>cases fl<;>cases fz<;>simp[AOp.cls]at hc
 |_=>first|(simp[AOp.cls]at hc;done)|(simp only[a9,e,e2];done)|rfl
def mU (h h':List AObj):Prop:=∀(o:Nat)(ob:AObj),h[o]? =some ob→ob≠ .res→h'[o]? =some ob∨∃z es,ob.isArrD z es∧h'[o]? =some (.froz z es)
theorem mU.refl (h:List AObj):mU h h:=fun _ _ e _=> .inl e
theorem mU.trans {a b c:List AObj}(h:mU a b)(k:mU b c):mU a c:=by
 intro o ob e hn
 rcases h o ob e hn with e1|⟨z,es,hD,e1⟩
 ·exact k o ob e1 hn
 ·rcases k o _ e1 (by simp)with e2|⟨_,_,e3,_⟩
  ·exact .inr ⟨z,es,hD,e2⟩
  ·rcases e3 with e3|e3<;>cases e3
theorem mU.append (h l:List AObj):mU h (h++l):=fun o ob e _=> .inl (by rw[List.getElem?_append_left (List.getElem?_eq_some_iff.1 e).1];exact e)
theorem mU.freezeL (h:List AObj)(l:L):mU h (Gi.freezeL h l):=by
 cases l with
 |arr o=>
  simp only[Gi.freezeL]
  split
  ·rename_i z es he
   intro o' ob e _
   by_cases q:o=o'
   ·subst q
    rw[he]at e;cases e
    exact .inr ⟨z,es, .inl rfl,by rw[List.getElem?_set_self (List.getElem?_eq_some_iff.1 he).1]⟩
   ·exact .inl (by rw[List.getElem?_set_ne q];exact e)
  ·rename_i z es he
   intro o' ob e _
   by_cases q:o=o'
   ·subst q
    rw[he]at e;cases e
    exact .inr ⟨z,es, .inr rfl,by rw[List.getElem?_set_self (List.getElem?_eq_some_iff.1 he).1]⟩
   ·exact .inl (by rw[List.getElem?_set_ne q];exact e)
  ·exact mU.refl h
 |_=>exact mU.refl h
theorem mU.freezeLs :∀(ls:List L)(h:List AObj),mU h (Gi.freezeLs h ls)
 |[],h=>mU.refl h
 |l::ls,h=>(mU.freezeL h l).trans (mU.freezeLs ls (Gi.freezeL h l))
theorem mU.freezeVs :∀(vs:List V)(h:List AObj),mU h (Gi.freezeVs h vs)
 |[],h=>mU.refl h
 |v::vs,h=>(mU.freezeLs v.cells h).trans (mU.freezeVs vs (Gi.freezeLs h v.cells))
theorem S0 {ao:AOp}(hc:ao.cls=2){v:V}{h':List AObj}(he:b6 call σ ao=some (v,h')):mU σ.h h':=by
 cases ao with
 |call f xz fl fz=>cases fl<;>cases fz<;>simp[AOp.cls]at hc
 |alloc zero=>simp only[b6]at he;cases he;exact mU.append _ _
 |mkmap=>simp only[b6]at he;cases he;exact mU.append _ _
 |allocT n=>simp only[b6]at he;cases he;exact mU.append _ _
 |allocW zero=>simp only[b6]at he;cases he;exact mU.append _ _
 |allocAt i zero=>
  simp only[b6]at he
  split at he
  ·rename_i hi
   cases he
   intro o ob e hn
   have q:i≠o:=by
    rintro rfl
    rw[hi]at e;cases e
    exact hn rfl
   exact .inl (by rw[List.getElem?_set_ne q];exact e)
  ·cases he
 |box x=>
  simp only[b6]at he
  split at he
  ·cases he;exact mU.append _ _
  ·cases he
 |buildS z parts=>
  simp only[b6]at he
  split at he
  ·split at he
   ·cases he;exact(mU.freezeVs _ _).trans (mU.append _ _)
   ·cases he
  ·cases he
 |make b zero n=>
  simp only[b6]at he
  split at he
  ·split at he
   ·cases he;exact mU.append _ _
   ·cases he
  ·cases he
 |slcL z x lo hi=>
  simp only[b6]at he
  split at he
  ·split at he
   ·split at he
    ·cases he;exact mU.freezeLs _ _
    ·cases he
   ·cases he
  ·cases he
 |_=>simp[AOp.cls]at hc
theorem Hw {h h':List AObj}(k:mU h h'){l:L}{p:PV}(e:l.view h=some p):l.view h'=some p:=by
 cases l with
 |arr o=>
  simp only[L.view]at e⊢
  split at e
  ·rename_i z es he
   rcases k o _ he (by simp)with e1|⟨z',es',e2,e1⟩
   ·rw[e1];exact e
   ·rcases e2 with e2|e2<;>cases e2;rw[e1];exact e
  ·rename_i z es he
   rcases k o _ he (by simp)with e1|⟨z',es',e2,e1⟩
   ·rw[e1];exact e
   ·rcases e2 with e2|e2<;>cases e2
  ·rename_i z es he
   rcases k o _ he (by simp)with e1|⟨z',es',e2,e1⟩
   ·rw[e1];exact e
   ·rcases e2 with e2|e2<;>cases e2;rw[e1];exact e
  ·cases e
 |_=>exact e
theorem J6 {h h':List AObj}(k:mU h h'):∀{ls:List L}{ps:List PV},viewL h ls=some ps→viewL h' ls=some ps
 |[],ps,e=>e
 |l::ls,ps,e=>by
  simp only[viewL]at e⊢
  split at e
  ·rename_i p qs e1 e2
   rw[Hw k e1,J6 k e2];exact e
  ·cases e
theorem Pl {h h':List AObj}(k:mU h h'){v u:V}(e:v.view h=some u):v.view h'=some u:=by
 unfold V.view at e⊢
 split at e
 ·exact e
 ·rename_i l hno
  split at e
  ·rename_i p e1
   rw[Hw k e1]
   simp only
   exact e
  ·cases e
 ·split at e
  ·rename_i ps e1
   rw[J6 k e1];exact e
  ·cases e
 ·cases e
theorem pA {h h':List AObj}(k:mU h h'):∀{vs us:List V},av h vs=some us→av h' vs=some us
 |[],us,e=>e
 |v::vs,us,e=>by
  simp only[av]at e⊢
  split at e
  ·rename_i p qs e1 e2
   rw[Pl k e1,pA k e2];exact e
  ·cases e
theorem xm {h h':List AObj}(k:mU h h'){v:V}{es:List (List PV)}(e:asList h v=some es):asList h' v=some es:=by
 unfold asList at e⊢
 split at e
 ·split at e
  ·rename_i es' e1
   simp only[Hw k e1];exact e
  ·cases e
 ·cases e
theorem My {h h':List AObj}(k:mU h h'){l:L}{p:PV}(e:l.view h=some p)(m:L.mut h l=false):L.mut h' l=false:=by
 cases l with
 |arr o=>
  simp only[L.view]at e
  simp only[L.mut]at m⊢
  split at e
  ·rename_i z es he
   rw[he]at m;simp at m
  ·rename_i z es he
   rcases k o _ he (by simp)with e1|⟨z',es',e2,e1⟩
   ·rw[e1]
   ·rcases e2 with e2|e2<;>cases e2
  ·rename_i z es he
   rw[he]at m;simp at m
  ·cases e
 |_=>rfl
theorem I1 {h h':List AObj}(k:mU h h'):∀{ls:List L}{ps:List PV},viewL h ls=some ps→ls.any (L.mut h)=false→ls.any (L.mut h')=false
 |[],_,_,_=>rfl
 |l::ls,ps,e,m=>by
  simp only[viewL]at e
  split at e
  ·rename_i p qs e1 e2
   simp only[List.any_cons,Bool.or_eq_false_iff]at m⊢
   exact⟨My k e1 m.1,I1 k e2 m.2⟩
  ·cases e
theorem RU {h h':List AObj}(k:mU h h'){v u:V}(e:v.view h=some u)(m:v.mut h=false):v.mut h'=false:=by
 unfold V.view at e
 unfold V.mut at m⊢
 split at e
 ·rfl
 ·rename_i l hno
  split at e
  ·rename_i p e1
   simp only[V.cells,List.any_cons,List.any_nil,Bool.or_false]at m⊢
   exact My k e1 m
  ·cases e
 ·split at e
  ·rename_i ps e1
   simp only[V.cells]at m⊢
   exact I1 k e1 m
  ·cases e
 ·cases e
theorem I2 {h h':List AObj}(k:mU h h'):∀{vs us:List V},av h vs=some us→vs.any (V.mut h)=false→vs.any (V.mut h')=false
 |[],_,_,_=>rfl
 |v::vs,us,e,m=>by
  simp only[av]at e
  split at e
  ·rename_i p qs e1 e2
   simp only[List.any_cons,Bool.or_eq_false_iff]at m⊢
   exact⟨RU k e1 m.1,I2 k e2 m.2⟩
  ·cases e
theorem qA {h h':List AObj}(k:mU h h'){g:Bool}{n:Nat}{a v:V}(e:bf h g n a=some v):bf h' g n a=some v:=by
 unfold bf at e⊢
 split at e
 ·rename_i o i j
  split at e
  ·rename_i cs he
   rcases k o _ he (by simp)with e1|⟨z',es',e2,e1⟩
   ·simp only[e1];exact e
   ·rcases e2 with e2|e2<;>cases e2
  ·rename_i z es he
   rcases k o _ he (by simp)with e1|⟨z',es',e2,e1⟩
   ·simp only[e1];exact e
   ·rcases e2 with e2|e2<;>cases e2;simp only[e1];exact e
  ·rename_i z es he
   rcases k o _ he (by simp)with e1|⟨z',es',e2,e1⟩
   ·simp only[e1];exact e
   ·rcases e2 with e2|e2<;>cases e2
  ·rename_i z es he
   rcases k o _ he (by simp)with e1|⟨z',es',e2,e1⟩
   ·simp only[e1];exact e
   ·rcases e2 with e2|e2<;>cases e2;simp only[e1];exact e
  ·rename_i ps he
   rcases k o _ he (by simp)with e1|⟨z',es',e2,e1⟩
   ·simp only[e1];exact e
   ·rcases e2 with e2|e2<;>cases e2
  ·cases e
 ·exact e
 ·cases e
theorem Bs {h h':List AObj}(k:mU h h'){z:Nat}{x v:V}{i:Nat}(e:aJ h z x i=some v):aJ h' z x i=some v:=by
 unfold aJ at e⊢
 split at e
 ·rename_i o
  split at e
  ·rename_i z' es he
   rcases k o _ he (by simp)with e1|⟨_,_,e2,e1⟩
   ·simp only[e1];exact e
   ·rcases e2 with e2|e2<;>cases e2;simp only[e1];exact e
  ·rename_i z' es he
   rcases k o _ he (by simp)with e1|⟨_,_,e2,e1⟩
   ·simp only[e1];exact e
   ·rcases e2 with e2|e2<;>cases e2
  ·rename_i z' es he
   rcases k o _ he (by simp)with e1|⟨_,_,e2,e1⟩
   ·simp only[e1];exact e
   ·rcases e2 with e2|e2<;>cases e2;simp only[e1];exact e
  ·cases e
 ·exact e
 ·cases e
theorem mU.lent {h h':List AObj}(k:mU h h'):mU (Gi.lent h) (Gi.lent h'):=by
 intro o x e hn
 obtain⟨ob,h1,rfl⟩:=lM e
 rcases k o ob h1 (by rintro rfl;exact hn rfl)with e1|⟨z,es,hD,e1⟩
 ·exact .inl (tF e1)
 ·refine .inr ⟨z,es,?_,tF e1⟩
  rcases hD with rfl|rfl
  ·exact .inl rfl
  ·exact .inr rfl
theorem Oo {h h':List AObj}(k:mU h h'){g:Bool}{n:Nat}{a v:V}(e:rt h g n a=some v):rt h' g n a=some v:=by
 unfold rt at e⊢
 split at e
 ·rename_i o i j
  split at e
  ·rename_i z es he
   rcases k o _ he (by simp)with e1|⟨_,_,e2,e1⟩
   ·simp only[e1];exact e
   ·rcases e2 with e2|e2<;>cases e2
  ·rename_i hno
   have hno':∀z es,h'[o]? ≠some (.zarr z es):=fun z es e1=>by
    have he:=e
    unfold bf at he
    simp only at he
    cases h2:h[o]? with
    |none=>rw[h2]at he;cases he
    |some ob=>
     have hn:ob≠ .res:=by
      rintro rfl
      rw[h2]at he
      cases he
     rcases k o ob h2 hn with e3|⟨_,_,_,e3⟩
     ·rw[e1]at e3;cases e3;exact hno z es h2
     ·rw[e1]at e3;cases e3
   split
   ·rename_i z es e1;exact absurd e1 (hno' z es)
   ·exact qA k e
 ·exact qA k e
theorem PR {ao:AOp}(hc:ao.cls=1){t:List V}{h h':List AObj}(k:mU h h'){v:V}(e:a9 call ⟨t,h⟩ ao=some v):a9 call ⟨t,h'⟩ ao=some v:=by
 have ev:∀x:Opd,x.ev ⟨t,h⟩=x.ev ⟨t,h'⟩:=fun x=>vI
 have evs:Opd.ev ⟨t,h⟩=Opd.ev ⟨t,h'⟩:=funext ev
 cases ao with
 |load g n a=>
  simp only[a9,ev]at e⊢
  exact qA k e
 |loadB g n a=>
  simp only[a9,ev]at e⊢
  split at e
  ·rename_i hq
   have hq':bF h' (a.ev ⟨t,h'⟩)=true:=by
    unfold bF at hq⊢
    split at hq
    ·rename_i o i j hv
     split at hq
     ·rename_i cs ho
      rcases k o _ ho (by simp)with e1|⟨z',es',e2,e1⟩
      ·rw[e1]
      ·rcases e2 with e2|e2<;>cases e2
     ·rename_i cs ho
      rcases k o _ ho (by simp)with e1|⟨z',es',e2,e1⟩
      ·rw[e1]
      ·rcases e2 with e2|e2<;>cases e2
     ·cases hq
    ·rfl
    ·cases hq
   rw[if_pos hq']
   exact qA k e
  ·cases e
 |loadN g n a r=>
  simp only[a9,ev]at e⊢
  split at e
  ·rename_i hq
   rw[if_pos hq]
   exact qA k e
  ·cases e
 |loadA g n a=>
  simp only[a9,ev]at e⊢
  split at e
  ·cases e
  ·rename_i hq
   have hq':¬bF h' (a.ev ⟨t,h'⟩)=true:=by
    intro hq2
    unfold bF at hq hq2
    unfold bf at e
    split at e
    ·rename_i o i j hv
     rw[hv]at hq hq2
     simp only at hq hq2
     split at e
     ·rename_i cs ho;rw[ho]at hq;exact hq rfl
     ·rename_i z es ho
      rcases k o _ ho (by simp)with e1|⟨z',es',e2,e1⟩
      ·rw[e1]at hq2;cases hq2
      ·rw[e1]at hq2;cases hq2
     ·rename_i z es ho
      rcases k o _ ho (by simp)with e1|⟨z',es',e2,e1⟩
      ·rw[e1]at hq2;cases hq2
      ·rcases e2 with e2|e2<;>cases e2
     ·rename_i z es ho
      rcases k o _ ho (by simp)with e1|⟨z',es',e2,e1⟩
      ·rw[e1]at hq2;cases hq2
      ·rw[e1]at hq2;cases hq2
     ·rename_i cs ho;rw[ho]at hq;exact hq rfl
     ·cases e
    ·rename_i e1 j hv
     rw[hv]at hq
     exact hq rfl
    ·cases e
   rw[if_neg hq']
   exact qA k e
 |b2s x=>
  simp only[a9,ev]at e⊢
  split at e
  ·rename_i es e1;rw[xm k e1];exact e
  ·cases e
 |len x=>
  simp only[a9,ev]at e⊢
  split at e
  ·rename_i es e1;rw[xm k e1];exact e
  ·cases e
 |indexA z x i=>
  simp only[a9,ev]at e⊢
  split at e
  ·split at e
   ·rename_i hn;simp only[if_pos hn];exact Bs k e
   ·cases e
  ·cases e
 |mget x kk=>
  simp only[a9,ev]at e⊢
  split at e
  ·rename_i o n hx hk
   split at e
   ·rename_i kvs he
    rcases k o _ he (by simp)with e1|⟨z',es',e2,e1⟩
    ·simp only[e1];exact e
    ·rcases e2 with e2|e2<;>cases e2
   ·cases e
  ·cases e
 |callV x xz=>
  simp only[a9,evs]at e⊢
  split at e
  ·split at e
   ·rename_i us e1;simp only[pA k e1];exact e
   ·cases e
  ·cases e
 |call f xz fl fz=>
  simp only[a9,evs]at e⊢
  split at e
  ·rename_i hfl
   rw[if_pos hfl]
   split at e
   ·rename_i hm
    split at e
    ·rename_i us e1
     have hm':(fl|| !((xz.map (Opd.ev ⟨t,h'⟩)).any (V.mut h')))=true:=by
      cases fl with
      |true=>rfl
      |false=>
       simp only[Bool.false_or,Bool.not_eq_true']at hm⊢
       exact I2 k e1 hm
     rw[if_pos hm',pA k e1];exact e
    ·cases e
   ·cases e
  ·cases e
 |lenZ x=>
  simp only[a9,ev]at e⊢
  split at e
  ·rename_i es e1;rw[xm k.lent e1];exact e
  ·cases e
 |indexZ z x i=>
  simp only[a9,ev]at e⊢
  split at e
  ·split at e
   ·rename_i hn;simp only[if_pos hn];exact Bs k.lent e
   ·cases e
  ·cases e
 |loadZ g n a=>
  simp only[a9,ev]at e⊢
  exact Oo k e
 |callF f xz=>
  simp only[a9,evs]at e⊢
  split at e
  ·rename_i us e1;simp only[pA k.lent e1];exact e
  ·cases e
 |_=>simp[AOp.cls]at hc
theorem Qt {x y:AOper}(hap:so x y=true)(t:List V)(v u:V):put (put t x.dst v) y.dst u=put (put t y.dst u) x.dst v:=by
 cases hd:x.dst with
 |none=>rfl
 |some d=>
  cases he:y.dst with
  |none=>rfl
  |some e=>
   have hne:d≠e:=by
    simp only[so,hd,he,Bool.and_eq_true,bne_iff_ne,ne_eq]at hap
    intro e'
    exact hap.1.2 (by rw[e'])
   simp only[put]
   exact List.set_comm v u hne
theorem HJ {x y:AOper}(h:so x y=true):so y x=true:=by
 unfold so at*
 cases hx:x.dst<;>cases hy:y.dst<;>simp_all
 exact fun e=>h.1.2 e.symm
theorem Br {x:AOper}(hc:x.op.cls=0){t:List V}{h h1 h':List AObj}{v:V}(e:mb call x ⟨t,h⟩=some (v,h1)):h1=h∧mb call x ⟨t,h'⟩=some (v,h'):=by
 unfold mb at e⊢
 rw[nZ (h:=h') (h':=h)]
 split at e
 ·rw[PS (h:=h') (h':=h) hc]
  split at e
  ·cases e;exact⟨rfl,rfl⟩
  ·rw[Bv (by omega)]at e;cases e
 ·cases e;exact⟨rfl,rfl⟩
 ·cases e
theorem Ih {x:AOper}(hc:x.op.cls=1){t:List V}{h h1 h':List AObj}(k:mU h h'){v:V}(e:mb call x ⟨t,h⟩=some (v,h1)):h1=h∧mb call x ⟨t,h'⟩=some (v,h'):=by
 unfold mb at e⊢
 rw[nZ (h:=h') (h':=h)]
 split at e
 ·split at e
  ·rename_i hf
   cases e
   rw[PR hc k hf]
   exact⟨rfl,rfl⟩
  ·rw[Bv (by omega)]at e;cases e
 ·cases e;exact⟨rfl,rfl⟩
 ·cases e
theorem SZ {x:AOper}(hc:x.op.cls≤2){σ:St}{h':List AObj}{v:V}(e:mb call x σ=some (v,h')):mU σ.h h':=by
 unfold mb at e
 split at e
 ·split at e
  ·cases e;exact mU.refl _
  ·by_cases h2:x.op.cls=2
   ·exact S0 h2 e
   ·rw[Bv (by omega)]at e;cases e
 ·cases e;exact mU.refl _
 ·cases e
theorem qM :∀(ls:List L)(h:List AObj),∃l,(thawL h ls).2=h++l∧nj l
 |[],h=>⟨[],by simp[thawL],fun ob hob=>by cases hob⟩
 |l::ls,h=>by
  have push:∀ob:AObj,ob.isArr→∃l,(thawL (h++[ob]) ls).2=h++l∧nj l:=fun ob ho=>by
   obtain⟨l,e,ha⟩:=qM ls (h++[ob])
   exact⟨ob::l,by rw[e];simp,fun x hx=>by
    rcases List.mem_cons.1 hx with rfl|hx
    ·exact ho
    ·exact ha x hx⟩
  cases l with
  |own z es=>exact push _ trivial
  |down z es=>exact push _ trivial
  |_=>exact qM ls h
theorem Fg :∀(xs:List (Bool×List L))(h:List AObj),∃l,(thawT h xs).2=h++l∧nj l
 |[],h=>⟨[],by simp[thawT],fun ob hob=>by cases hob⟩
 |(b,ls)::xs,h=>by
  obtain⟨l,e,ha⟩:=qM ls h
  obtain⟨l',e',ha'⟩:=Fg xs (thawL h ls).2
  refine⟨l++l',by simp only[thawT];rw[e',e,List.append_assoc],fun x hx=> ?_⟩
  rcases List.mem_append.1 hx with hx|hx
  ·exact ha x hx
  ·exact ha' x hx
theorem JP (h:List AObj)(r:V):∃l,(thaw h r).2=h++l∧nj l:=by
 cases r with
 |one l=>
  obtain⟨l',h',e'⟩:=ix h l
  obtain⟨x,e,ha⟩:=qM [l] h
  rw[e']at e
  exact⟨x,by simp only[thaw,e'];exact e,ha⟩
 |agg ls=>exact qM ls h
 |tup xs=>exact Fg xs h
def cD (h h':List AObj):Prop:=∀(o:Nat)(ob:AObj),(match ob with| .box _=>True| .fbox _=>True|_=>False)→(h[o]? =some ob↔h'[o]? =some ob)
theorem cD.refl (h:List AObj):cD h h:=fun _ _ _=>Iff.rfl
theorem cD.symm {h h':List AObj}(k:cD h h'):cD h' h:=fun o ob q=>(k o ob q).symm
theorem cD.trans {a b c:List AObj}(h:cD a b)(k:cD b c):cD a c:=fun o ob q=>(h o ob q).trans (k o ob q)
theorem cD.app {h l:List AObj}(ha:nj l):cD h (h++l):=fun o ob q=>by
 by_cases hlt:o<h.length
 ·rw[List.getElem?_append_left hlt]
 ·rw[List.getElem?_eq_none (by omega),List.getElem?_append_right (by omega)]
  constructor
  ·intro e;cases e
  ·intro e
   have:=ha ob (List.mem_of_getElem? e)
   cases ob<;>first|exact this.elim|exact q.elim
theorem cD.push (h:List AObj){z:Nat}{es:List (List PV)}:cD h (h++[.arr z es]):=fun o ob q=>by
 rcases Nat.lt_trichotomy o h.length with hlt|rfl|hgt
 ·rw[List.getElem?_append_left hlt]
 ·simp only[List.getElem?_append_right (Nat.le_refl _),Nat.sub_self,List.getElem?_cons_zero,List.getElem?_eq_none (Nat.le_refl _)]
  constructor
  ·intro e;cases e
  ·intro e;cases e;exact q.elim
 ·rw[List.getElem?_eq_none (by omega),List.getElem?_eq_none (by simp;omega)]
theorem cD.setArr {h:List AObj}{o z:Nat}{es:List (List PV)}{ob0:AObj}(ho:h[o]? =some ob0)(hD:ob0.isArrD z es){ob':AObj}(hb:match ob' with| .box _=>False| .fbox _=>False|_=>True):cD h (h.set o ob'):=fun i ob q=>by
 by_cases hi:o=i
 ·subst hi
  rw[List.getElem?_set_self (List.getElem?_eq_some_iff.1 ho).1,ho]
  constructor
  ·intro e;cases e;rcases hD with rfl|rfl<;>exact q.elim
  ·intro e;cases e;revert q hb;cases ob'<;>simp
 ·rw[List.getElem?_set_ne hi]
theorem cD.freezeL (h:List AObj)(l:L):cD h (Gi.freezeL h l):=by
 cases l with
 |arr o=>
  simp only[Gi.freezeL]
  split
  ·rename_i z es he
   exact cD.setArr he (.inl rfl) trivial
  ·rename_i z es he
   exact cD.setArr he (.inr rfl) trivial
  ·exact cD.refl h
 |_=>exact cD.refl h
theorem cD.freezeLs :∀(ls:List L)(h:List AObj),cD h (Gi.freezeLs h ls)
 |[],h=>cD.refl h
 |l::ls,h=>(cD.freezeL h l).trans (cD.freezeLs ls (Gi.freezeL h l))
theorem cD.freezeVs :∀(vs:List V)(h:List AObj),cD h (Gi.freezeVs h vs)
 |[],h=>cD.refl h
 |v::vs,h=>(cD.freezeLs v.cells h).trans (cD.freezeVs vs (Gi.freezeLs h v.cells))
theorem NM {σ:St}{ao:AOp}(hc:ao.arrT=true){v:V}{h':List AObj}(he:b6 call σ ao=some (v,h')):cD σ.h h':=by
 cases ao with
 |buildS z parts=>
  simp only[b6]at he
  split at he
  ·split at he
   ·cases he;exact(cD.freezeVs _ _).trans (cD.push _)
   ·cases he
  ·cases he
 |make b zero n=>
  simp only[b6]at he
  split at he
  ·split at he
   ·cases he;exact cD.push _
   ·cases he
  ·cases he
 |slcL z x lo hi=>
  simp only[b6]at he
  split at he
  ·split at he
   ·split at he
    ·cases he;exact cD.freezeLs _ _
    ·cases he
   ·cases he
  ·cases he
 |append z b x y=>
  simp only[b6]at he
  split at he
  ·split at he
   ·cases he;exact cD.push _
   ·cases he
  ·split at he
   ·rename_i z' es ho
    split at he
    ·cases he;exact(cD.setArr ho (.inl rfl) trivial).trans (cD.push _)
    ·cases he
   ·cases he
  ·cases he
 |appendS b x y=>
  simp only[b6]at he
  split at he
  ·split at he
   ·cases he;exact cD.push _
   ·cases he
  ·split at he
   ·rename_i z' es ho
    split at he
    ·cases he;exact(cD.setArr ho (.inl rfl) trivial).trans (cD.push _)
    ·cases he
   ·cases he
  ·cases he
 |buildD z parts=>
  simp only[b6]at he
  split at he
  ·split at he
   ·cases he;exact(cD.freezeVs _ _).trans (cD.app fun ob hob=>by simp at hob;subst hob;trivial)
   ·cases he
  ·cases he
 |appendD z b x y=>
  simp only[b6]at he
  split at he
  ·cases he
  ·rename_i sc hsc
   split at he
   ·cases he
   ·split at he
    ·cases he
     refine(cD.freezeLs (y.ev σ).cells _).trans (cD.trans ?_ (cD.app fun ob hob=>by simp at hob;subst hob;trivial))
     rcases Fa hsc with⟨_,rfl⟩|⟨o,es,_,rfl,hd⟩
     ·exact cD.refl _
     ·have hob:∃ob,σ.h[o]? =some ob∧ob.isArrD z es:=by
       unfold aT at hd
       split at hd
       ·rename_i z' es' ho
        split at hd
        ·cases hd;exact⟨_,ho, .inl rfl⟩
        ·cases hd
       ·rename_i z' es' ho;cases hd;exact⟨_,ho, .inr rfl⟩
       ·cases hd
      obtain⟨ob,ho,hD⟩:=hob
      rcases mU.freezeLs (y.ev σ).cells σ.h o ob ho (by rcases hD with rfl|rfl<;>simp)with e1|⟨z',es',_,e1⟩
      ·exact cD.setArr e1 hD trivial
      ·simp only[aU]
       intro i x q
       by_cases hi:o=i
       ·subst hi
        rw[List.getElem?_set_self (List.getElem?_eq_some_iff.1 e1).1,e1]
        constructor
        ·intro e;cases e;exact q.elim
        ·intro e;cases e;exact q.elim
       ·rw[List.getElem?_set_ne hi]
    ·cases he
 |callC f xz=>
  have th:∀(h:List AObj)(r:V),cD h (thaw h r).2:=fun h r=>by
   obtain⟨l,e,ha⟩:=JP h r
   rw[e]
   exact cD.app ha
  simp only[b6]at he
  split at he
  ·split at he
   ·rename_i r _
    have he':=Option.some.inj he
    have e2:=congrArg Prod.snd he'
    simp only at e2
    rw[←e2]
    refine cD.trans ?_ (th _ _)
    split
    ·exact cD.refl _
    ·exact cD.freezeVs _ _
   ·cases he
  ·cases he
 |_=>simp[AOp.arrT]at hc
theorem EO {x:AOper}(hc:x.op.arrT=true){σ:St}{h':List AObj}{v:V}(e:mb call x σ=some (v,h')):cD σ.h h':=by
 unfold mb at e
 split at e
 ·split at e
  ·cases e;exact cD.refl _
  ·exact NM hc e
 ·cases e;exact cD.refl _
 ·cases e
theorem IU {h h':List AObj}(k:cD h h')(v:V):bF h v=bF h' v:=by
 cases v with
 |one l=>
  cases l with
  |ptr o i j=>
   simp only[bF]
   cases e1:h[o]? with
   |none=>
    cases e2:h'[o]? with
    |none=>rfl
    |some ob'=>
     cases ob' with
     |box cs=>rw[(k o _ trivial).2 e2]at e1;cases e1
     |fbox cs=>rw[(k o _ trivial).2 e2]at e1;cases e1
     |_=>rfl
   |some ob=>
    cases ob with
    |box cs=>rw[(k o _ trivial).1 e1]
    |fbox cs=>rw[(k o _ trivial).1 e1]
    |_=>
     cases e2:h'[o]? with
     |none=>rfl
     |some ob'=>
      cases ob' with
      |box cs=>rw[(k o _ trivial).2 e2]at e1;cases e1
      |fbox cs=>rw[(k o _ trivial).2 e2]at e1;cases e1
      |_=>rfl
  |_=>rfl
 |_=>rfl
theorem On {h h':List AObj}(k:cD h h'){g:Bool}{n:Nat}(v:V)(q:bF h v=true):bf h g n v=bf h' g n v:=by
 unfold bF at q
 split at q
 ·rename_i o i j
  split at q
  ·rename_i cs e1
   simp only[bf,e1,(k o _ trivial).1 e1]
  ·rename_i cs e1
   simp only[bf,e1,(k o _ trivial).1 e1]
  ·cases q
 ·rfl
 ·cases q
theorem Qe {h h':List AObj}(k:cD h h'){g:Bool}{n:Nat}(v:V):(if bF h v then bf h g n v else none)=(if bF h' v then bf h' g n v else none):=by
 by_cases q:bF h v=true
 ·rw[if_pos q,if_pos (by rw[←IU k];exact q),On k v q]
 ·rw[if_neg q,if_neg (by rw[←IU k];exact q)]
theorem Bp {x:AOper}(hc:x.op.isLB=true){t:List V}{h h1 h':List AObj}(k:cD h h'){v:V}(e:mb call x ⟨t,h⟩=some (v,h1)):h1=h∧mb call x ⟨t,h'⟩=some (v,h'):=by
 unfold mb at e⊢
 rw[nZ (h:=h') (h':=h)]
 have hf:a9 call ⟨t,h⟩ x.op=a9 call ⟨t,h'⟩ x.op∧∀s,b6 call s x.op=none:=by
  cases hx:x.op with
  |loadB g n a=>
   refine⟨?_,fun _=>rfl⟩
   simp only[a9]
   rw[vI (h:=h) (h':=h')]
   exact Qe k _
  |_=>rw[hx]at hc;cases hc
 split at e
 ·rw[←hf.1]
  split at e
  ·cases e;exact⟨rfl,rfl⟩
  ·rw[hf.2]at e;cases e
 ·cases e;exact⟨rfl,rfl⟩
 ·cases e
theorem Lm {h h':List AObj}{n:Nat}{a v:V}(q:bF h a=true)(e:br h n a v=some h'):∃o cs cs',h[o]? =some (.box cs)∧h'=h.set o (.box cs'):=by
 simp only[br]at e
 split at e
 ·split at e
  ·rename_i o i j
   split at e
   ·rename_i cs ho
    split at e
    ·cases e;exact⟨o,cs,_,ho,rfl⟩
    ·cases e
   ·rename_i z es ho
    simp[bF,ho]at q
   ·cases e
  ·cases e
 ·cases e
theorem pt {h:List AObj}{o:Nat}{cs cs':List L}(ho:h[o]? =some (.box cs))(i:Nat):(h.set o (.box cs'))[i]? =h[i]? ∨(h[i]? =some (.box cs)∧(h.set o (.box cs'))[i]? =some (.box cs')):=by
 by_cases e:o=i
 ·subst e
  exact .inr ⟨ho,List.getElem?_set_self (List.getElem?_eq_some_iff.1 ho).1⟩
 ·exact .inl (List.getElem?_set_ne e)
theorem Of {h:List AObj}{o:Nat}{cs cs':List L}(ho:h[o]? =some (.box cs))(v:V):bF (h.set o (.box cs')) v=bF h v:=by
 cases v with
 |one l=>
  cases l with
  |ptr i a b=>
   simp only[bF]
   rcases pt (cs':=cs') ho i with e|⟨e1,e2⟩
   ·rw[e]
   ·rw[e1,e2]
  |_=>rfl
 |_=>rfl
theorem Om {h:List AObj}{o:Nat}{cs cs':List L}(ho:h[o]? =some (.box cs)){g:Bool}{n:Nat}(v:V):(if bF (h.set o (.box cs')) v then none else bf (h.set o (.box cs')) g n v)=(if bF h v then none else bf h g n v):=by
 rw[Of ho]
 by_cases q:bF h v=true
 ·rw[if_pos q,if_pos q]
 ·rw[if_neg q,if_neg q]
  cases v with
  |one l=>
   cases l with
   |ptr i a b=>
    simp only[bf]
    rcases pt (cs':=cs') ho i with e|⟨e1,e2⟩
    ·rw[e]
    ·simp[bF,e1]at q
   |_=>rfl
  |_=>rfl
theorem Ii {h:List AObj}{o:Nat}{cs cs':List L}(ho:h[o]? =some (.box cs)){z:Nat}(x:V)(i:Nat):aJ (h.set o (.box cs')) z x i=aJ h z x i:=by
 cases x with
 |one l=>
  cases l with
  |arr q=>
   simp only[aJ]
   rcases pt (cs':=cs') ho q with e|⟨e1,e2⟩
   ·rw[e]
   ·rw[e1,e2]
  |pv p=>cases p<;>rfl
  |_=>rfl
 |_=>rfl
theorem Kf {h:List AObj}{o:Nat}{cs cs':List L}(ho:h[o]? =some (.box cs))(x:V):asList (h.set o (.box cs')) x=asList h x:=by
 cases x with
 |one l=>
  cases l with
  |arr q=>
   simp only[asList,L.view]
   rcases pt (cs':=cs') ho q with e|⟨e1,e2⟩
   ·rw[e]
   ·rw[e1,e2]
  |pv p=>cases p<;>rfl
  |_=>rfl
 |_=>rfl
theorem If {nb:Bool}{x:AOper}(hc:x.op.isAR nb=true){t:List V}{h:List AObj}{o:Nat}{cs cs':List L}(ho:h[o]? =some (.box cs)):mb call x ⟨t,h.set o (.box cs')⟩=(mb call x ⟨t,h⟩).map fun y=>(y.1,h.set o (.box cs')):=by
 have hf:a9 call ⟨t,h.set o (.box cs')⟩ x.op=a9 call ⟨t,h⟩ x.op∧∀s,b6 call s x.op=none:=by
  cases hx:x.op with
  |loadA g n a=>
   refine⟨?_,fun _=>rfl⟩
   simp only[a9]
   rw[vI (h:=h.set o (.box cs')) (h':=h)]
   exact Om ho _
  |indexA z a i=>
   refine⟨?_,fun _=>rfl⟩
   simp only[a9]
   rw[vI (x:=a) (h:=h.set o (.box cs')) (h':=h),vI (x:=i) (h:=h.set o (.box cs')) (h':=h)]
   simp only[Ii ho]
  |len a=>
   refine⟨?_,fun _=>rfl⟩
   simp only[a9]
   rw[vI (x:=a) (h:=h.set o (.box cs')) (h':=h),Kf ho]
  |_=>rw[hx]at hc;cases hc
 unfold mb
 rw[nZ (h:=h.set o (.box cs')) (h':=h)]
 cases aO ⟨t,h⟩ x.guard with
 |none=>rfl
 |some b=>
  cases b with
  |false=>rfl
  |true=>
   simp only
   rw[hf.1,hf.2,hf.2]
   cases a9 call ⟨t,h⟩ x.op<;>rfl
theorem pC {nb:Bool}{x:AOper}(hc:x.op.isAR nb=true){t:List V}{h h1:List AObj}{v:V}(e:mb call x ⟨t,h⟩=some (v,h1)):h1=h:=by
 have he:∀s,b6 call s x.op=none:=by
  cases hx:x.op with
  |loadA g n a=>exact fun _=>rfl
  |indexA z a i=>exact fun _=>rfl
  |len a=>exact fun _=>rfl
  |_=>rw[hx]at hc;cases hc
 unfold mb at e
 split at e
 ·split at e
  ·cases e;rfl
  ·rw[he]at e;cases e
 ·cases e;rfl
 ·cases e
theorem Ig {x:AOper}(hc:x.op.isSB=true){t:List V}{h h1:List AObj}{v:V}(e:mb call x ⟨t,h⟩=some (v,h1)):h1=h∨∃o cs cs',h[o]? =some (.box cs)∧h1=h.set o (.box cs'):=by
 cases hx:x.op with
 |storeB n a y=>
  unfold mb at e
  rw[hx]at e
  split at e
  ·split at e
   ·rename_i hf;cases hf
   ·simp only[b6]at e
    split at e
    ·rename_i hq
     split at e
     ·rename_i h2 hs
      cases e
      exact .inr (Lm hq hs)
     ·cases e
    ·cases e
  ·cases e;exact .inl rfl
  ·cases e
 |_=>rw[hx]at hc;cases hc
theorem Bq {x:AOper}(hc:x.op.isST=true){t:List V}{h h1 h':List AObj}{v:V}(e:mb call x ⟨t,h⟩=some (v,h1)):h1=h∧mb call x ⟨t,h'⟩=some (v,h'):=by
 cases hx:x.op with
 |storeT n a y=>
  unfold mb at e⊢
  rw[nZ (h:=h') (h':=h)]
  rw[hx]at e⊢
  split at e
  ·split at e
   ·rename_i hf;cases hf
   ·simp only[b6]at e
    simp only[a9,b6]
    rw[vI (x:=a) (h:=h') (h':=h),vI (x:=y) (h:=h') (h':=h)]
    split at e
    ·rename_i m hev
     split at e
     ·rename_i hq
      cases e
      refine⟨rfl,?_⟩
      simp only[hev,if_pos hq]
     ·cases e
    ·cases e
  ·cases e;exact⟨rfl,rfl⟩
  ·cases e
 |_=>rw[hx]at hc;cases hc
theorem Bo {x:AOper}{n:Nat}(hx:x.op= .allocT n){t:List V}{h:List AObj}:(∀h',mb call x ⟨t,h'⟩=some (.one (.tp n),h'++[.tbox n]))∨(∀h',mb call x ⟨t,h'⟩=some (.tup [],h'))∨(∀h',mb call x ⟨t,h'⟩=none):=by
 have hw:∀h',aO ⟨t,h'⟩ x.guard=aO ⟨t,h⟩ x.guard:=fun h'=>nZ
 cases q:aO ⟨t,h⟩ x.guard with
 |none=>exact .inr (.inr fun h'=>by unfold mb;rw[hw,q])
 |some b=>
  cases b with
  |true=>exact .inl fun h'=>by unfold mb;rw[hw,q,hx];rfl
  |false=>exact .inr (.inl fun h'=>by unfold mb;rw[hw,q])
theorem Bl {h:List AObj}{i:Nat}{cs:List L}(hi:h[i]? =some .res)(o:Nat):aT (h.set i (.box cs)) o=aT h o:=by
 unfold aT
 by_cases q:i=o
 ·subst q
  rw[List.getElem?_set_self (List.getElem?_eq_some_iff.1 hi).1,hi]
 ·rw[List.getElem?_set_ne q]
theorem NG {h:List AObj}{i o:Nat}{r:Nat×List (List PV)}(hi:h[i]? =some .res)(e:aT h o=some r):o≠i:=by
 rintro rfl
 simp[aT,hi]at e
theorem QL {h:List AObj}{i z:Nat}{cs:List L}(hi:h[i]? =some .res)(v:V):eS (h.set i (.box cs)) z v=eS h z v:=by
 unfold eS
 split<;>simp only[Bl hi]
theorem Sj {h:List AObj}{i z:Nat}{cs:List L}(hi:h[i]? =some .res)(src:Option (Nat×List (List PV)))(v:V):mf (h.set i (.box cs)) z src v=mf h z src v:=by
 unfold mf
 split<;>simp only[Bl hi]
theorem IH {h:List AObj}{i:Nat}{cs:List L}(hi:h[i]? =some .res)(l:L):freezeL (h.set i (.box cs)) l=(freezeL h l).set i (.box cs)∧(freezeL h l)[i]? =some .res:=by
 have hlt:=(List.getElem?_eq_some_iff.1 hi).1
 cases l with
 |arr o=>
  by_cases q:i=o
  ·subst q
   simp only[freezeL,List.getElem?_set_self hlt,hi]
   exact⟨trivial,trivial⟩
  ·simp only[freezeL,List.getElem?_set_ne q]
   split
   ·exact⟨List.set_comm _ _ q,by rw[List.getElem?_set_ne (fun e=>q e.symm)];exact hi⟩
   ·exact⟨List.set_comm _ _ q,by rw[List.getElem?_set_ne (fun e=>q e.symm)];exact hi⟩
   ·exact⟨rfl,hi⟩
 |_=>exact⟨rfl,hi⟩
theorem we {i:Nat}{cs:List L}:∀(ls:List L){h:List AObj},h[i]? =some .res→freezeLs (h.set i (.box cs)) ls=(freezeLs h ls).set i (.box cs)∧(freezeLs h ls)[i]? =some .res
 |[],h,hi=>⟨rfl,hi⟩
 |l::ls,h,hi=>by
  obtain⟨e1,e2⟩:=IH (cs:=cs) hi l
  obtain⟨e3,e4⟩:=we (cs:=cs) ls e2
  simp only[freezeLs,List.foldl_cons]at e3 e4⊢
  rw[e1]
  exact⟨e3,e4⟩
theorem HL {h:List AObj}{i z b:Nat}{x y:Opd}{t:List V}{cs:List L}(hi:h[i]? =some .res):b6 call ⟨t,h.set i (.box cs)⟩ (.appendD z b x y)=(b6 call ⟨t,h⟩ (.appendD z b x y)).map (fun q=>(q.1,q.2.set i (.box cs)))∧
 ∀q,b6 call ⟨t,h⟩ (.appendD z b x y)=some q→q.2[i]? =some .res:=by
 have hlt:=(List.getElem?_eq_some_iff.1 hi).1
 simp only[b6]
 rw[vI (x:=x) (h:=h.set i (.box cs)) (h':=h),vI (x:=y) (h:=h.set i (.box cs)) (h':=h),QL hi]
 cases hs:eS h z (x.ev ⟨t,h⟩)with
 |none=>exact⟨rfl,fun q e=>by cases e⟩
 |some src=>
  simp only[Sj hi]
  cases hy:mf h z src (y.ev ⟨t,h⟩)with
  |none=>exact⟨rfl,fun q e=>by cases e⟩
  |some ys=>
   simp only
   obtain⟨f1,f2⟩:=we (cs:=cs) (y.ev ⟨t,h⟩).cells hi
   have hfl:i<(freezeLs h (y.ev ⟨t,h⟩).cells).length:=(List.getElem?_eq_some_iff.1 f2).1
   have g1:aU src ((freezeLs h (y.ev ⟨t,h⟩).cells).set i (.box cs))=(aU src (freezeLs h (y.ev ⟨t,h⟩).cells)).set i (.box cs)∧(aU src (freezeLs h (y.ev ⟨t,h⟩).cells))[i]? =some .res:=by
    cases src with
    |none=>exact⟨rfl,f2⟩
    |some x0=>
     have hne:x0.1≠i:=by
      unfold eS at hs
      split at hs
      ·cases hs
      ·rename_i o _
       split at hs
       ·rename_i z' es hd
        split at hs
        ·cases hs
         exact NG hi hd
        ·cases hs
       ·cases hs
      ·cases hs
     exact⟨List.set_comm _ _ fun e=>hne e.symm,by simp only[aU];rw[List.getElem?_set_ne hne];exact f2⟩
   have hgl:i<(aU src (freezeLs h (y.ev ⟨t,h⟩).cells)).length:=(List.getElem?_eq_some_iff.1 g1.2).1
   rw[f1,g1.1]
   split
   ·refine⟨?_,fun q e=> ?_⟩
    ·simp only[Option.map_some,List.length_set]
     rw[List.set_append_left _ _ hgl]
    ·cases e
     simp only
     rw[List.getElem?_append_left hgl]
     exact g1.2
   ·exact⟨rfl,fun q e=>by cases e⟩
theorem Ie {x:AOper}{z b:Nat}{p q:Opd}(hx:x.op= .appendD z b p q){t:List V}{h:List AObj}{i:Nat}{cs:List L}(hi:h[i]? =some .res):mb call x ⟨t,h.set i (.box cs)⟩=(mb call x ⟨t,h⟩).map (fun y=>(y.1,y.2.set i (.box cs)))∧∀y,mb call x ⟨t,h⟩=some y→y.2[i]? =some .res:=by
 obtain⟨e1,e2⟩:=HL (call:=call) (z:=z) (b:=b) (x:=p) (y:=q) (t:=t) (cs:=cs) hi
 unfold mb
 rw[nZ (h:=h.set i (.box cs)) (h':=h),hx]
 cases aO ⟨t,h⟩ x.guard with
 |none=>exact⟨rfl,fun y e=>by cases e⟩
 |some w=>
  cases w with
  |true=>simp only[a9];exact⟨e1,e2⟩
  |false=>exact⟨rfl,fun y e=>by cases e;exact hi⟩
theorem F9 {h:List AObj}{i:Nat}{l:L}(e:(freezeL h l)[i]? =some .res):h[i]? =some .res:=by
 cases l with
 |arr o=>
  simp only[freezeL]at e
  by_cases q:o=i
  ·subst q
   split at e
   ·rename_i ho;rw[List.getElem?_set_self (List.getElem?_eq_some_iff.1 ho).1]at e;cases e
   ·rename_i ho;rw[List.getElem?_set_self (List.getElem?_eq_some_iff.1 ho).1]at e;cases e
   ·exact e
  ·split at e
   ·rwa[List.getElem?_set_ne q]at e
   ·rwa[List.getElem?_set_ne q]at e
   ·exact e
 |_=>exact e
theorem ud {i:Nat}:∀(ls:List L){h:List AObj},(freezeLs h ls)[i]? =some .res→h[i]? =some .res
 |[],h,e=>e
 |l::ls,h,e=>F9 (ud ls (h:=freezeL h l) e)
theorem DG {x:AOper}{z b:Nat}{p q:Opd}(hx:x.op= .appendD z b p q){t:List V}{h h1:List AObj}{v:V}{i:Nat}(e:mb call x ⟨t,h⟩=some (v,h1))(hi:h1[i]? =some .res):h[i]? =some .res:=by
 unfold mb at e
 split at e
 ·rw[hx]at e
  simp only[a9,b6]at e
  split at e
  ·cases e
  ·rename_i src hs
   split at e
   ·cases e
   ·split at e
    ·cases e
     by_cases hl:i<(aU src (freezeLs h (q.ev ⟨t,h⟩).cells)).length
     ·rw[List.getElem?_append_left hl]at hi
      refine ud (q.ev ⟨t,h⟩).cells ?_
      cases src with
      |none=>exact hi
      |some x0=>
       simp only[aU]at hi hl⊢
       by_cases hq:x0.1=i
       ·rw[List.length_set]at hl
        rw[hq,List.getElem?_set_self hl]at hi
        cases hi
       ·rwa[List.getElem?_set_ne hq]at hi
     ·rw[List.getElem?_append_right (by omega)]at hi
      cases hk:i-(aU src (freezeLs h (q.ev ⟨t,h⟩).cells)).length with
      |zero=>rw[hk]at hi;simp at hi
      |succ n=>rw[hk]at hi;simp at hi
    ·cases e
 ·cases e;exact hi
 ·cases e
theorem zf {x:AOper}{i:Nat}{zero:List L}(hx:x.op= .allocAt i zero){t:List V}{h h1:List AObj}{v:V}(e:mb call x ⟨t,h⟩=some (v,h1)):
 (h[i]? =some .res∧v= .one (.ptr i 0 0)∧h1=h.set i (.box zero)∧∀h',h'[i]? =some .res→mb call x ⟨t,h'⟩=some (v,h'.set i (.box zero)))∨(h1=h∧∀h',mb call x ⟨t,h'⟩=some (v,h')):=by
 have hw:∀h',aO ⟨t,h'⟩ x.guard=aO ⟨t,h⟩ x.guard:=fun h'=>nZ
 cases q:aO ⟨t,h⟩ x.guard with
 |none=>unfold mb at e;rw[q]at e;cases e
 |some b=>
  cases b with
  |true=>
   unfold mb at e
   rw[q,hx]at e
   simp only[a9,b6]at e
   split at e
   ·rename_i hi
    cases e
    refine .inl ⟨hi,rfl,rfl,fun h' hi'=> ?_⟩
    unfold mb
    rw[hw,q,hx]
    simp only[a9,b6,hi']
   ·cases e
  |false=>
   unfold mb at e
   rw[q]at e
   cases e
   exact .inr ⟨rfl,fun h'=>by unfold mb;rw[hw,q]⟩
theorem OP {h h':List AObj}{n:Nat}{x v:V}(q:bF h x=true)(e:br h n x v=some h'):∃o i j cs cs',x= .one (.ptr o i j)∧h[o]? =some (.box cs)∧h'=h.set o (.box cs'):=by
 simp only[br]at e
 split at e
 ·split at e
  ·rename_i o i j
   split at e
   ·rename_i cs ho
    split at e
    ·cases e;exact⟨o,i,j,cs,_,rfl,ho,rfl⟩
    ·cases e
   ·rename_i z es ho
    simp[bF,ho]at q
   ·cases e
  ·cases e
 ·cases e
theorem FN {x y:AOper}{g:Bool}{n m r:Nat}{a w:Opd}(hx:x.op= .loadN g n a r)(hy:y.op= .storeB m (.tmp r) w){t:List V}{h h1:List AObj}{u:V}(e:mb call y ⟨t,h⟩=some (u,h1)):
 (∀{hh:List AObj}{v:V}{h2:List AObj},mb call x ⟨t,hh⟩=some (v,h2)→h2=hh)∧mb call x ⟨t,h1⟩=(mb call x ⟨t,h⟩).map fun q=>(q.1,h1):=by
 have hs:∀{hh:List AObj}{v:V}{h2:List AObj},mb call x ⟨t,hh⟩=some (v,h2)→h2=hh:=by
  intro hh v h2 e
  unfold mb at e
  rw[hx]at e
  split at e
  ·split at e
   ·cases e;rfl
   ·cases e
  ·cases e;rfl
  ·cases e
 refine⟨hs,?_⟩
 have key:a9 call ⟨t,h1⟩ x.op=a9 call ⟨t,h⟩ x.op:=by
  unfold mb at e
  rw[hy]at e
  split at e
  ·split at e
   ·rename_i hf;cases hf
   ·simp only[b6]at e
    split at e
    ·rename_i hq
     split at e
     ·rename_i h2 hst
      cases e
      obtain⟨o,i,j,cs,cs',ho,hb,rfl⟩:=OP hq hst
      rw[hx]
      simp only[a9]
      rw[vI (x:=a) (h:=h.set o (.box cs')) (h':=h),vI (x:= .tmp r) (h:=h.set o (.box cs')) (h':=h),ho]
      cases hv:a.ev ⟨t,h⟩with
      |one l=>
       cases l with
       |ptr i' b c=>
        simp only[nk]
        by_cases q:i'=o
        ·simp[q]
        ·have q2:(h.set o (AObj.box cs'))[i']? =h[i']? :=List.getElem?_set_ne (Ne.symm q)
         simp only[bf,q2]
         rfl
       |_=>rfl
      |_=>rfl
     ·cases e
    ·cases e
  ·cases e;rfl
  ·cases e
 unfold mb
 rw[nZ (h:=h1) (h':=h)]
 cases aO ⟨t,h⟩ x.guard with
 |none=>rfl
 |some b=>
  cases b with
  |false=>rfl
  |true=>
   simp only
   rw[key,hx]
   cases a9 call ⟨t,h⟩ (.loadN g n a r)<;>rfl
theorem Ko {nb:Bool}{x y:AOper}(hc:H6 nb x y=true){σ σ1 σ2:St}(h1:aE call x σ=some σ1)(h2:aE call y σ1=some σ2):∃σ3,aE call y σ=some σ3∧aE call x σ3=some σ2:=by
 obtain⟨t,h⟩:=σ
 simp only[H6,Bool.and_eq_true,Bool.or_eq_true,beq_iff_eq,Nat.ble_eq]at hc
 obtain⟨hap,hcc⟩:=hc
 rw[yU,Option.map_eq_some_iff]at h1 h2
 obtain⟨⟨v,hv⟩,e1,rfl⟩:=h1
 obtain⟨⟨u,hu⟩,e2,rfl⟩:=h2
 simp only at e1 e2
 rw[L1 hap]at e2
 have fin:∀{h3:List AObj},mb call y ⟨t,h⟩=some (u,h3)→mb call x ⟨t,h3⟩=some (v,hu)→∃σ3,aE call y ⟨t,h⟩=some σ3∧aE call x σ3=some ⟨put (put t x.dst v) y.dst u,hu⟩:=by
  intro h3 q1 q2
  refine⟨⟨put t y.dst u,h3⟩,by rw[yU,q1];rfl,?_⟩
  rw[yU,L1 (HJ hap),q2,Qt hap]
  rfl
 rcases hcc with((((((((((hx|hy)|⟨hx,hy⟩)|⟨hx,hy⟩)|⟨hx,hy⟩)|⟨hx,hy⟩)|⟨hx,hy⟩)|hx)|hy)|hxy)|hxy)|hxy
 ·obtain⟨rfl,_⟩:=Br (h':=h) hx e1
  exact fin e2 (Br hx e1).2
 ·obtain⟨rfl,q⟩:=Br (h':=h) hy e2
  exact fin q e1
 ·obtain⟨rfl,_⟩:=Ih hx (mU.refl _) e1
  exact fin e2 (Ih hx (SZ hy e2) e1).2
 ·obtain⟨rfl,_⟩:=Bp hx (cD.refl _) e1
  exact fin e2 (Bp hx (EO hy e2) e1).2
 ·obtain⟨rfl,q⟩:=Bp hy (EO hx e1).symm e2
  exact fin q e1
 ·obtain rfl:=pC hx e1
  refine fin e2 ?_
  rcases Ig hy e2 with rfl|⟨o,cs,cs',ho,rfl⟩
  ·exact e1
  ·rw[If hx ho,e1]
   rfl
 ·rcases Ig hx e1 with rfl|⟨o,cs,cs',ho,rfl⟩
  ·obtain rfl:=pC hy e2
   exact fin e2 e1
  ·rw[If hy ho,Option.map_eq_some_iff]at e2
   obtain⟨⟨u',h3⟩,q1,q2⟩:=e2
   obtain rfl:=pC hy q1
   cases q2
   exact fin q1 e1
 ·obtain⟨rfl,_⟩:=Bq (h':=h) hx e1
  exact fin e2 (Bq hx e1).2
 ·obtain⟨rfl,q⟩:=Bq (h':=h) hy e2
  exact fin q e1
 ·unfold QF at hxy
  split at hxy
  ·rename_i n m hx hy
   have hnm:n=m:=by simpa using hxy
   subst hnm
   rcases Bo (call:=call) hx (t:=t) (h:=h)with p|p|p
   ·rw[p]at e1
    cases e1
    rcases Bo (call:=call) hy (t:=t) (h:=h)with q|q|q
    ·rw[q]at e2
     cases e2
     exact fin (q h) (p _)
    ·rw[q]at e2
     cases e2
     exact fin (q h) (p _)
    ·rw[q]at e2;cases e2
   ·rw[p]at e1
    cases e1
    exact fin e2 (p _)
   ·rw[p]at e1;cases e1
  ·cases hxy
 ·unfold SB at hxy
  split at hxy
  ·rename_i i zero z b p q hx hy
   rcases zf hx e1 with⟨hi,rfl,rfl,hall⟩|⟨rfl,hall⟩
   ·obtain⟨a1,a2⟩:=Ie (call:=call) hy (t:=t) (cs:=zero) hi
    rw[a1,Option.map_eq_some_iff]at e2
    obtain⟨⟨u',h3⟩,q1,q2⟩:=e2
    cases q2
    exact fin q1 (hall _ (a2 _ q1))
   ·exact fin e2 (hall _)
  ·rename_i z b p q i zero hx hy
   rcases zf hy e2 with⟨hi,rfl,rfl,hall⟩|⟨rfl,hall⟩
   ·have hi0:h[i]? =some .res:=DG hx e1 hi
    obtain⟨a1,a2⟩:=Ie (call:=call) hx (t:=t) (cs:=zero) hi0
    exact fin (hall _ hi0) (by rw[a1,e1];rfl)
   ·exact fin (hall _) e1
  ·cases hxy
 ·unfold T2 at hxy
  split at hxy
  ·rename_i g n a r m t' w hx hy
   obtain rfl:r=t':=by simpa using hxy
   obtain rfl:=(FN hx hy e2).1 e1
   exact fin e2 (by rw[(FN hx hy e2).2,e1];rfl)
  ·rename_i m t' w g n a r hx hy
   obtain rfl:r=t':=by simpa using hxy
   rw[(FN hy hx e1).2,Option.map_eq_some_iff]at e2
   obtain⟨⟨u',h3⟩,q1,q2⟩:=e2
   obtain rfl:=(FN hy hx e1).1 q1
   cases q2
   exact fin q1 e1
  ·cases hxy
inductive Anc (ops:Array Oper) (listed:Array Bool) (k:Nat):Nat→Prop
 |dir {i:Nat} {o:Oper} {e:Edge}:ops[i]? =some o→e∈o.after→Region.binds .any e=true→listed.getD e.on true=false→e.on=k→Anc ops listed k i
 |via {i:Nat} {o:Oper} {e:Edge}:ops[i]? =some o→e∈o.after→Region.binds .any e=true→listed.getD e.on true=false→Anc ops listed k e.on→Anc ops listed k i
theorem ur {ops:Array Oper}{listed:Array Bool}{j:Nat}(hj:j∈Region.ready .any ops listed){o:Oper}{e:Edge}(ho:ops[j]? =some o)(he:e∈o.after)(hb:Region.binds .any e=true)(hu:listed.getD e.on true=false):False:=by
 obtain⟨_,o',ho',hall⟩:=mem_ready.1 hj
 rw[ho]at ho';cases ho'
 have h1:=hall e he hb
 rcases Nat.lt_or_ge e.on listed.size with h'|h'
 ·simp[h']at hu h1;rw[hu]at h1;cases h1
 ·simp[Array.getElem?_eq_none h']at h1
theorem uq {ops:Array Oper}{listed:Array Bool}{k j:Nat}(hj:j∈Region.ready .any ops listed)(h:Anc ops listed k j):False:=by
 cases h with
 |dir ho he hb hu _=>exact ur hj ho he hb hu
 |via ho he hb hu _=>exact ur hj ho he hb hu
theorem Po {ops:Array Oper}{listed:Array Bool}{k j:Nat}(hj:j∈Region.ready .any ops listed)(hjk:j≠k){i:Nat}(h:Anc ops listed k i):Anc ops (listed.setIfInBounds j true) k i:=by
 induction h with
 |dir ho he hb hu hk=>exact .dir ho he hb (by rw[hk]at hu⊢;rw[getD_set_ne true hjk];exact hu) hk
 |via ho he hb hu ha ih=>
  rename_i i o e
  by_cases q:j=e.on
  ·exact(uq (q▸hj) ha).elim
  ·exact .via ho he hb (by rw[getD_set_ne true q];exact hu) ih
theorem A7 {ops:Array Oper}{listed:Array Bool}{k:Nat}:∀(l:List Oper)(acc:Array Bool),(∀j,l[j]? =ops[acc.size+j]?)→(∀i,acc.getD i false=true→Anc ops listed k i)→∀i,(Ni listed k l acc).getD i false=true→Anc ops listed k i
 |[],acc,_,ha,i,h=>ha i h
 |o::l,acc,hl,ha,i,h=>by
  simp only[Ni]at h
  refine A7 l _ (fun j=> ?_) (fun i hi=> ?_) i h
  ·have:=hl (j+1)
   simp only[List.getElem?_cons_succ]at this
   rw[this,Array.size_push]
   congr 1
   omega
  ·by_cases q:i<acc.size
   ·refine ha i ?_
    simp only[Array.getD_eq_getD_getElem?]at hi⊢
    rwa[Array.getElem?_push_lt q,←Array.getElem?_eq_getElem q]at hi
   ·by_cases q2:i=acc.size
    ·subst q2
     simp only[Array.getD_eq_getD_getElem?,Array.getElem?_push_size,Option.getD_some,Array.any_eq_true]at hi
     obtain⟨x,hx,hq⟩:=hi
     simp only[Bool.and_eq_true,Bool.not_eq_true',Bool.or_eq_true,beq_iff_eq]at hq
     obtain⟨⟨hb,hu⟩,hq⟩:=hq
     have ho:ops[acc.size]? =some o:=by simpa using(hl 0).symm
     rcases hq with hk|hk
     ·exact .dir ho (Array.getElem_mem hx) hb (by simpa using hu) hk
     ·exact .via ho (Array.getElem_mem hx) hb (by simpa using hu) (ha _ (by simpa using hk))
    ·rw[Array.getD_eq_getD_getElem?,Array.getElem?_eq_none (by simp;omega)]at hi
     simp at hi
def zH (call:Nat→List V→Option V)(oos:List AOper)(i:Nat)(σ:St):Option St:=
 match oos[i]? with
 |none=>some σ
 |some oo=>aE call oo σ
def wN (call:Nat→List V→Option V)(oos:List AOper):List Nat→St→Option St
 |[],σ=>some σ
 |i::l,σ=>match zH call oos i σ with
  |some σ'=>wN call oos l σ'
  |none=>none
def Pm (call:Nat→List V→Option V)(ops:Array Oper)(oos:List AOper)(σ₁:St):Nat→Array Bool→St→Prop
 |0,listed,σ=>Region.ready .any ops listed=[]∧σ=σ₁
 |fuel+1,listed,σ=>(Region.ready .any ops listed=[]→σ=σ₁)∧∀i∈Region.ready .any ops listed,∃σ',zH call oos i σ=some σ'∧Pm call ops oos σ₁ fuel (listed.setIfInBounds i true) σ'
theorem Kc {ops:Array Oper}{oos:List AOper}{σ₁:St}:∀(fuel t:Nat)(listed:Array Bool)(σ:St),Pm call ops oos σ₁ fuel listed σ→wN call oos (Region.linearise.go .any ops fuel t listed []) σ=some σ₁:=by
 intro fuel
 induction fuel with
 |zero=>intro t listed σ h;simpa[Region.linearise.go,wN]using h.2
 |succ fuel ih=>
  intro t listed σ h
  obtain⟨h₀,h₁⟩:=h
  simp only[Region.linearise.go]
  change wN call oos (match(Region.ready .any ops listed)[t%(Region.ready .any ops listed).length]? with
   |some i=>Region.linearise.go .any ops fuel (t/(Region.ready .any ops listed).length) (listed.setIfInBounds i true) [i]
   |none=>[].reverse) σ=some σ₁
  cases hi:(Region.ready .any ops listed)[t%(Region.ready .any ops listed).length]? with
  |none=>
   have hnil:Region.ready .any ops listed=[]:=by
    cases hr:Region.ready .any ops listed with
    |nil=>rfl
    |cons x xs=>
     rw[hr]at hi
     have hlt:t%(x::xs).length<(x::xs).length:=Nat.mod_lt _ (by simp)
     simp at hi
     simp at hlt
     omega
   simp[wN,h₀ hnil]
  |some i=>
   simp only[]
   rw[linearise_go_acc,List.reverse_singleton,List.singleton_append]
   obtain⟨σ',e1,e2⟩:=h₁ i (List.mem_of_getElem? hi)
   simp only[wN,e1]
   exact ih _ _ _ e2
theorem Kb {nb:Bool}{ops:Array Oper}{oos:List AOper}{σ₁:St}(hlen:oos.length=ops.size){i:Nat}{oi:AOper}(hi:oos[i]? =some oi):
 ∀(fuel:Nat)(listed:Array Bool)(σ σ':St),(∀j oj,oos[j]? =some oj→j≠i→listed.getD j true=false→¬Anc ops listed i j→H6 nb oi oj=true)→
  i∈Region.ready .any ops listed→aE call oi σ=some σ'→Pm call ops oos σ₁ fuel (listed.setIfInBounds i true) σ'→Pm call ops oos σ₁ (fuel+1) listed σ:=by
 have stepi:∀{σ σ':St},aE call oi σ=some σ'→zH call oos i σ=some σ':=fun{σ σ'}h=>by
  simp only[zH,hi,h]
 intro fuel
 induction fuel with
 |zero=>
  intro listed σ σ' _ hr hy H
  refine⟨fun h=>(by rw[h]at hr;cases hr),fun j hj=> ?_⟩
  by_cases hji:j=i
  ·subst hji;exact⟨_,stepi hy,H⟩
  ·have:=ready_mono (md:= .any) hj hji
   rw[H.1]at this
   cases this
 |succ fuel ih=>
  intro listed σ σ' hfree hr hy H
  refine⟨fun h=>(by rw[h]at hr;cases hr),fun j hj=> ?_⟩
  by_cases hji:j=i
  ·subst hji;exact⟨_,stepi hy,H⟩
  ·obtain⟨σj,e1,e2⟩:=H.2 j (ready_mono hj hji)
   obtain⟨hjun,o,ho,hall⟩:=mem_ready.1 hj
   have hjl:j<oos.length:=by rw[hlen];exact(Array.getElem?_eq_some_iff.1 ho).1
   have hoj:oos[j]? =some oos[j]:=by simp[hjl]
   have hc:=hfree j _ hoj hji hjun (fun h=>uq hj h)
   simp only[zH,hoj]at e1
   obtain⟨σ3,q1,q2⟩:=Ko hc hy e1
   refine⟨σ3,by simp only[zH,hoj,q1],?_⟩
   refine ih (listed.setIfInBounds j true) σ3 σj (fun k ok hk hki hun hno=> ?_) (ready_mono hr (Ne.symm hji)) q2 ?_
   ·refine hfree k ok hk hki ?_ (fun h=>hno (Po hj hji h))
    by_cases hjk:j=k
    ·subst hjk;exact hjun
    ·rw[getD_set_ne true hjk]at hun;exact hun
   ·rw[Array.setIfInBounds_comm _ _ hji]
    exact e2
theorem N4 {nb:Bool}{ops:Array Oper}{oos:List AOper}{listed:Array Bool}{k:Nat}{ok:AOper}(hk:oos[k]? =some ok)(h:PU nb ops oos listed k=true):
 ∀j oj,oos[j]? =some oj→j≠k→listed.getD j true=false→¬Anc ops listed k j→H6 nb ok oj=true:=by
 intro j oj hj hne hun hw
 have hjl:j<oos.length:=(List.getElem?_eq_some_iff.1 hj).1
 simp only[PU,List.all_eq_true,List.mem_range]at h
 have:=h j hjl
 have ha:(Ni listed k ops.toList #[]).getD j false=false:=by
  cases q:(Ni listed k ops.toList #[]).getD j false with
  |false=>rfl
  |true=>exact(hw (A7 ops.toList #[] (fun j=>by simp) (fun i hi=>by simp at hi) j q)).elim
 simp only[hk,hj,hun,ha,Bool.or_false,Bool.or_eq_true,beq_iff_eq,hne,false_or]at this
 exact this
theorem HH {nb:Bool}{ops:Array Oper}{oos:List AOper}{σ₁:St}(hlen:oos.length=ops.size):∀(l:List AOper)(k:Nat)(listed:Array Bool)(σ:St),(∀j,l[j]? =oos[k+j]?)→
 lN nb ops oos l.length k listed=true→ai call l σ=some σ₁→Pm call ops oos σ₁ l.length listed σ
 |[],_,_,_,_,hB,h=>⟨by simpa[lN]using hB,by simpa[ai]using h⟩
 |o::l,k,listed,σ,hl,hB,h=>by
  have h0:oos[k]? =some o:=by simpa using(hl 0).symm
  simp only[List.length_cons,lN,Bool.and_eq_true]at hB
  obtain⟨⟨hr,hf⟩,hB'⟩:=hB
  unfold ai at h
  split at h
  ·rename_i σ' he
   exact Kb hlen h0 l.length listed σ σ' (N4 h0 hf) (by simpa using hr) he
    (HH hlen l (k+1) _ _ (fun j=>by have:=hl (j+1);simpa[Nat.add_assoc,Nat.add_comm 1 j]using this) hB' h)
  ·cases h
theorem tk (ok:CallOK Γ P kf call){ops:Array Oper}{d:Md}{oos:List AOper}(hc:fx (t9 P kf d ops) ops.toList=some oos){Q:Exit→Act→World→Prop}:∀{l:List Nat}{σ σ':St}{a:Act}{w:World}{ρ:List (Option Nat)},SX Γ z O base w0 ρ0 h0 σ a w ρ→(z=true→∀oo∈oos,oo.op.noZ=true)→
 wN call oos l σ=some σ'→(∀a' w' ρ',SX Γ z O base w0 ρ0 h0 σ' a' w' ρ'→Q .normal a' w')→wpOps P ops Q l a w
 |[],σ,σ',a,w,ρ,s,hz,he,hQ=>by
  simp[wN]at he;subst he
  exact hQ a w ρ s
 |i::l,σ,σ',a,w,ρ,s,hz,he,hQ=>by
  simp only[wN]at he
  split at he
  ·rename_i σ1 he1
   rw[wpOps_cons]
   unfold wpOp
   cases ho:ops[i]? with
   |none=>
    have:oos[i]? =none:=by
     have hl:=eh hc
     have:¬i<ops.size:=by intro hlt;simp[hlt]at ho
     exact List.getElem?_eq_none (by rw[hl];simp;omega)
    simp only[zH,this]at he1
    cases he1
    exact tk ok hc s hz he hQ
   |some o=>
    obtain⟨oo,hoo,hco⟩:=gO hc i o (by simpa using ho)
    simp only[zH,hoo]at he1
    have key:=zI (Q:=Q) ok s (fun h=>hz h oo (List.mem_of_getElem? hoo)) hco he1 (K:=wpOps P ops Q l) (fun a' w' ρ' s'=>tk ok hc s' hz he hQ)
    simp only
    split
    ·rename_i hw;rw[if_pos hw]at key;exact .inl key
    ·rename_i hw;rw[if_neg hw]at key;exact key
  ·cases he
theorem PG (s:SR Γ M0 base σ a w ρ):SR Γ M0 base σ a {w with drawn:=w.drawn+1} ρ:=by
 obtain⟨k1,c1⟩:=s.hr.world (w':={w with drawn:=w.drawn+1}) (Nat.le_refl _) (fun _ _=>rfl)
 exact⟨k1,s.fr.ch c1,Γ.keep _ _ s.inv ⟨rfl,rfl,rfl,Nat.le_refl _,fun _ _=>rfl⟩,s.b0⟩
theorem PH (s:SX Γ z O base w0 ρ0 h0 σ a w ρ):SX Γ z O base w0 ρ0 h0 σ a {w with drawn:=w.drawn+1} ρ:=by
 obtain⟨M0,i1,i2,s1,b1,c1⟩:=s
 obtain⟨_,c2⟩:=s1.hr.world (w':={w with drawn:=w.drawn+1}) (Nat.le_refl _) (fun _ _=>rfl)
 exact⟨M0,i1,i2,PG s1,b1.trans ⟨rfl,rfl,rfl,Nat.le_refl _,fun _ _=>rfl⟩,c1.trans c2⟩
def QE [KF](Γ:Ctx)(z:Bool)(O:Nat→Prop)(base:Nat)(w0:World)(ρ0:List (Option Nat))(h0:List AObj)(e:Ex)(σ':St)(Q:Exit→Act→World→Prop):Prop:=
 ∀a' w' ρ',SX Γ z O base w0 ρ0 h0 σ' a' w' ρ'→Q (match e with| .normal=> .normal| .exit id=> .exit id| .ret=> .ret) a' w'
theorem Bi (ok:CallOK Γ P kf call)(hm:P.follows .mixedOrders=true)(n:Nat){dt dp zn:Bool}{zl tr:List Nat}:∀(c:Code){ac:ACode}{σ σ':St}{e:Ex}{a:Act}{w:World}{ρ:List (Option Nat)}{Q:Exit→Act→World→Prop},pm P kf dt dp zn zl tr c=some ac→(z=true→ac.noZ=true)→
 au call (dU n) ac σ=some (e,σ')→SX Γ z O base w0 ρ0 h0 σ a w ρ→QE Γ z O base w0 ρ0 h0 e σ' Q→c.wp P Q a w:=by
 intro c
 induction c with
 |skip=>
  intro ac σ σ' e a w ρ Q hc hz he s hQ
  cases hc
  simp only[au]at he;cases he
  exact wp_skip (hQ a w ρ s)
 |region id ops draw=>
  intro ac σ σ' e a w ρ Q hc hz he s hQ
  simp only[pm]at hc
  split at hc
  ·rename_i oos hoos
   have hrun:∀{oos:List AOper}{σ2},au call (dU n) (.region oos) σ=some (e,σ2)→ai call oos σ=some σ2∧e= .normal:=by
    intro oos σ2 h
    simp only[au]at h
    split at h
    ·rename_i σ3 h3;cases h;exact⟨h3,rfl⟩
    ·cases h
   have drw:∀{nb:Bool}{md:Md}{oos:List AOper},fx (t9 P kf md ops) ops.toList=some oos→lN nb ops oos ops.size 0 (Array.replicate ops.size false)=true→∀{σ2},ai call oos σ=some σ2→
    (z=true→(ACode.region oos).noZ=true)→QE Γ z O base w0 ρ0 h0 .normal σ2 Q→(Code.region id ops true).wp P Q a w:=by
    intro nb md oos hoos hchk σ2 hx hz hQ
    have hlen:oos.length=ops.size:=by rw[eh hoos];simp
    refine wp_region_draw fun t=> ?_
    simp only[Region.schedule,hm,Bool.true_or,if_true]
    have hany:=HH hlen oos 0 (Array.replicate ops.size false) σ (by simp) (by rw[hlen];exact hchk) hx
    rw[hlen]at hany
    have hr:=Kc ops.size t _ σ hany
    exact tk ok hoos (PH s) (fun h=>List.all_eq_true.1 (hz h)) hr hQ
   split at hc
   ·rename_i hd
    subst hd
    split at hc
    ·rename_i hchk
     cases hc
     obtain⟨hx,rfl⟩:=hrun he
     exact drw hoos hchk hx hz hQ
    ·split at hc
     ·rename_i oos' oos2 hoos' hoos2
      split at hc
      ·rename_i hchk
       cases hc
       obtain⟨hx,rfl⟩:=hrun he
       exact drw hoos' hchk hx hz hQ
      ·split at hc
       ·rename_i hchk
        cases hc
        obtain⟨hx,rfl⟩:=hrun he
        exact drw hoos2 hchk hx hz hQ
       ·split at hc
        ·rename_i oos3 hoos3
         split at hc
         ·rename_i hchk
          cases hc
          obtain⟨hx,rfl⟩:=hrun he
          exact drw hoos3 hchk hx hz hQ
         ·cases hc
        ·cases hc
     ·cases hc
   ·rename_i hd
    cases hc
    obtain⟨hx,rfl⟩:=hrun he
    have:draw=false:=by simpa using hd
    subst this
    exact wp_region_list (EX ok s (fun h=>List.all_eq_true.1 (hz h)) hoos hx hQ)
  ·cases hc
 |seq x y ihx ihy=>
  intro ac σ σ' e a w ρ Q hc hz he s hQ
  simp only[pm]at hc
  split at hc
  ·rename_i ax ay hx hy
   cases hc
   simp only[au]at he
   refine wp_seq ?_
   split at he
   ·rename_i σ1 he1
    exact ihx hx (fun h=>(Bool.and_eq_true _ _▸hz h).1) he1 s (fun a' w' ρ' s'=>ihy hy (fun h=>(Bool.and_eq_true _ _▸hz h).2) he s' hQ)
   ·rename_i hne
    refine ihx hx (fun h=>(Bool.and_eq_true _ _▸hz h).1) he s (fun a' w' ρ' s'=> ?_)
    cases e with
    |normal=>exact absurd he (hne σ')
    |exit id=>exact hQ a' w' ρ' s'
    |ret=>exact hQ a' w' ρ' s'
  ·cases hc
 |cond c x y ihx ihy=>
  intro ac σ σ' e a w ρ Q hc hz he s hQ
  simp only[pm]at hc
  split at hc
  ·rename_i oc ax ay h1 hx hy
   cases hc
   simp only[au]at he
   split at he
   ·rename_i t ht
    have hb:a.eval c= .bool t:=by
     obtain⟨M0,_,_,s1,_,_⟩:=s
     exact(aA s1 h1).bool ht
    refine wp_cond hb ?_
    cases t with
    |true=>exact ihx hx (fun h=>(Bool.and_eq_true _ _▸hz h).1) he s hQ
    |false=>exact ihy hy (fun h=>(Bool.and_eq_true _ _▸hz h).2) he s hQ
   ·cases he
  ·cases hc
 |block id c ih=>
  intro ac σ σ' e a w ρ Q hc hz he s hQ
  simp only[pm,Option.map_eq_some_iff]at hc
  obtain⟨ax,hx,rfl⟩:=hc
  simp only[au]at he
  refine wp_block ?_
  split at he
  ·rename_i i σ1 he1
   refine ih hx hz he1 s (fun a' w' ρ' s'=> ?_)
   simp only[Exit.inBlock]
   split at he
   ·rename_i e1;cases he;rw[if_pos e1];exact hQ a' w' ρ' s'
   ·rename_i e1;cases he;rw[if_neg e1];exact hQ a' w' ρ' s'
  ·rename_i hne
   refine ih hx hz he s (fun a' w' ρ' s'=> ?_)
   cases e with
   |normal=>exact hQ a' w' ρ' s'
   |exit i=>exact absurd he (hne i σ')
   |ret=>exact hQ a' w' ρ' s'
 |loop c ih=>
  intro ac σ σ' e a w ρ Q hc hz he s hQ
  simp only[pm,Option.map_eq_some_iff]at hc
  obtain⟨ax,hx,rfl⟩:=hc
  simp only[au]at he
  refine wp_loop_ghost (fun k a1 w1=>∃σ1 ρ1,SX Γ z O base w0 ρ0 h0 σ1 a1 w1 ρ1∧dU k (au call (dU n) ax) σ1=some (e,σ')) n ⟨σ,ρ,s,he⟩ ?_
  intro k a1 w1 ⟨σ1,ρ1,s1,he1⟩
  cases k with
  |zero=>simp[dU]at he1
  |succ k=>
   simp only[dU]at he1
   split at he1
   ·rename_i σ2 he2
    refine ih hx hz he2 s1 (fun a' w' ρ' s'=> ?_)
    exact⟨k,Nat.lt_succ_self k,σ2,ρ',s',he1⟩
   ·rename_i hne
    refine ih hx hz he1 s1 (fun a' w' ρ' s'=> ?_)
    cases e with
    |normal=>exact absurd he1 (hne σ')
    |exit id=>exact hQ a' w' ρ' s'
    |ret=>exact hQ a' w' ρ' s'
 |exit id=>
  intro ac σ σ' e a w ρ Q hc hz he s hQ
  cases hc
  simp only[au]at he;cases he
  exact wp_exit (hQ a w ρ s)
 |ret=>
  intro ac σ σ' e a w ρ Q hc hz he s hQ
  cases hc
  simp only[au]at he;cases he
  exact wp_ret (hQ a w ρ s)
 |_=>
  intro ac σ σ' e a w ρ Q hc
  cases hc
structure Impl [KI:KF] (Γ:Ctx) (P:Program) (kf:FuncId→Option Nat) (Φ:Nat→Option AFn) (ext:Nat→List V→Option V):Prop where
 prog:KI.pr=P
 mixed:P.follows .mixedOrders=true
 fns:∀f k,kf f=some k→(∃fn af,P.funcs[f]? =some fn∧TL P kf k fn=some af∧Φ k=some af)∨
  (Φ k=none∧(∃fn,P.funcs[f]? =some fn∧fn.body.isNone=false∧(fn.name== "runtime.NumGoroutine")=false)∧∀xz r,ext k xz=some r→vw Γ P f xz r)
 small:∀f k,kf f=some k→k<mM∧Φ (k+mM)=none
 ins:∀f k fn t e z b,kf f=some k→P.funcs[f]? =some fn→fn.origin= "slices.Insert" →fn.params.toList.head? =some t→iA P t=some e→pe P e=some z→LW P e=some b→A5 P f z b
 del:∀f k fn t e z,kf f=some k→P.funcs[f]? =some fn→fn.origin= "slices.DeleteFunc" →fn.params.toList.head? =some t→iA P t=some e→pe P e=some z→Ra Γ P f z
theorem Impl.there {Φ:Nat→Option AFn}{ext:Nat→List V→Option V}(im:Impl Γ P kf Φ ext):∀f k,kf f=some k→∃fn,P.funcs[f]? =some fn∧fn.body.isNone=false∧(fn.name== "runtime.NumGoroutine")=false:=by
 intro f k hk
 rcases im.fns f k hk with⟨fn,af,h1,h2,h3⟩|⟨_,h,_⟩
 ·refine⟨fn,h1,?_,?_⟩
  ·rw[FG]at h2
   split at h2
   ·rename_i c hb;rw[hb];rfl
   ·cases h2
  ·rw[FG]at h2
   split at h2
   ·split at h2
    ·split at h2
     ·cases h2
     ·rename_i hn;simpa using hn
    ·cases h2
   ·cases h2
 ·exact h
theorem LR.weak {M M':Nat→Prop}{h:List AObj}(mu:∀b,M' b→M b){l:L}{v:Value}(r:LR M w ρ h l v):LR M' w ρ h l v:=
 r.ch (M':=M') ⟨⟨Nat.le_refl _,fun b _ hm=>mu b hm,fun _ _ _=>rfl⟩,fun _ cur hr=>⟨cur,hr,rfl⟩,fun _ _ ob hr ho _=>⟨ob,hr,ho,qQ.refl ob⟩,fun _ _ _ _ _ _ _ _ _ h=>h⟩
theorem VR.weak {M M':Nat→Prop}{h:List AObj}(mu:∀b,M' b→M b){x:V}{v:Value}(r:VR M w ρ h x v):VR M' w ρ h x v:=
 r.ch (M':=M') ⟨⟨Nat.le_refl _,fun b _ hm=>mu b hm,fun _ _ _=>rfl⟩,fun _ cur hr=>⟨cur,hr,rfl⟩,fun _ _ ob hr ho _=>⟨ob,hr,ho,qQ.refl ob⟩,fun _ _ _ _ _ _ _ _ _ h=>h⟩
theorem tO.less {M M':Nat→Prop}{b0:Nat}{r:V}{v:Value}(hM:∀b,M b→M' b)(rr:tO M' b0 w r v):tO M b0 w r v:=by
 obtain⟨ρr,k,vr⟩:=rr
 have mu:∀b,Mu M ρr (thaw [] r).2 b→Mu M' ρr (thaw [] r).2 b:=fun b hm=>hm.elim (fun h=> .inl (hM b h)) .inr
 obtain⟨κ,d,n⟩:=k.deep
 have C:Ch (Mu M' ρr (thaw [] r).2) (Mu M ρr (thaw [] r).2) w w ρr ρr (thaw [] r).2 (thaw [] r).2:=⟨⟨Nat.le_refl _,fun b _ hm=>mu b hm,fun _ _ _=>rfl⟩,fun _ cur hr=>⟨cur,hr,rfl⟩,fun _ _ ob hr ho _=>⟨ob,hr,ho,qQ.refl ob⟩,fun _ _ _ _ _ _ _ _ _ h=>h⟩
 refine⟨ρr,⟨⟨k.len,fun b hm=>k.old b (hM b hm),k.le,fun o ob q ho hq=>(k.objs o ob q ho hq).keep C (fun _ _ _=>rfl),k.apart⟩,κ,d,n.new,fun b o c τ z es e ho=> ?_⟩,vr.weak mu⟩
 exact(JQ r _ (List.mem_of_getElem? ho)).elim
theorem GZ {M0:Nat→Prop}{fn:AFn}{xz:List V}{vals:Array Value}(hG:Γ.G w)(hB:Γ.B0≤base)(k:HR M0 base w ρ ((du [] xz).2.map AObj.zone))(hl:(du [] xz).1.length=vals.size)(hal:xz.length=vals.size)
 (hv:∀(i:Nat)(x:V)(u:Value),(du [] xz).1[i]? =some x→vals.toList[i]? =some u→VR (Mu M0 ρ ((du [] xz).2.map AObj.zone)) w ρ ((du [] xz).2.map AObj.zone) x u):
 SR Γ M0 base (hJ fn xz) {tmps:=vals++Array.replicate (fn.ntmps-vals.size) undef,defers:=[]} w ρ:=by
 refine⟨k,⟨rfl,by simp[hJ,hl,hal],fun i v u hx hu=> ?_⟩,hG,hB⟩
 simp only[hJ]at hx
 by_cases hi:i<(du [] xz).1.length
 ·rw[List.getElem?_append_left hi]at hx
  rw[Array.getElem?_append_left (by omega)]at hu
  exact hv i v u hx (by simpa using hu)
 ·rw[List.getElem?_append_right (by omega)]at hx
  rw[Array.getElem?_append_right (by omega)]at hu
  have e1:v= .tup []:=by
   have:=(List.getElem?_eq_some_iff.1 hx).2
   simp at this;exact this.symm
  have e2:u=undef:=by
   have:=(Array.getElem?_eq_some_iff.1 hu).2
   simp at this;exact this.symm
  rw[e1,e2]
  exact VR.undef
theorem Fe :∀(vs:List V)(h:List AObj),(du h vs).1.length=vs.length
 |[],h=>rfl
 |v::vs,h=>by simp only[du,List.length_cons,Fe vs]
theorem zA :∀{h:List AObj}{os:List (Bool×List L)},gu h=some os→∀ob∈h,∃z es,ob= .zarr z es
 |[],os,e,ob,hm=>by cases hm
 |x::h,os,e,ob,hm=>by
  unfold gu at e
  split at e
  ·rename_i h2;cases h2
  ·rename_i z es h' h2
   cases h2
   split at e
   ·rename_i xs hxs
    rcases List.mem_cons.1 hm with rfl|hm
    ·exact⟨z,es,rfl⟩
    ·exact zA hxs ob hm
   ·cases e
  ·cases e
theorem HR.first {h':List AObj}{ρ':List (Option Nat)}(k:HR M0 base w ρ' h'){m:Nat}{os:List (Bool×List L)}(ho:gu (h'.take m)=some os):HR M0 base w (ρ'.take m) (h'.take m):=by
 obtain⟨κ,d,n⟩:=k.deep
 have get:∀{i:Nat}{x:AObj},(h'.take m)[i]? =some x→h'[i]? =some x:=fun{i x}e=>by
  rw[List.getElem?_take]at e
  split at e
  ·exact e
  ·cases e
 have getr:∀{i:Nat}{x:Option Nat},(ρ'.take m)[i]? =some x→ρ'[i]? =some x:=fun{i x}e=>by
  rw[List.getElem?_take]at e
  split at e
  ·exact e
  ·cases e
 refine⟨⟨by simp[k.len],fun b hm=>⟨(k.old b hm).1,fun i x hi hx hr=>(k.old b hm).2 i x (get hi) hx (getr hr)⟩,k.le,fun i x r hi hr=> ?_,fun i i' x x' b h1 h2 m1 m2 r1 r2=>k.apart i i' x x' b (get h1) (get h2) m1 m2 (getr r1) (getr r2)⟩,
  κ,⟨fun i x b hi hx hr=>d.root i x b (get hi) hx (getr hr),fun i x z es b hi hd hr=>d.tree i x z es b (get hi) hd (getr hr)⟩,n.new,fun b o c τ z es e hi=>n.zone b o c τ z es e (get hi)⟩
 obtain⟨z,es,rfl⟩:=zA ho x (List.mem_of_getElem? hi)
 exact k.objs i _ r (get hi) (getr hr)
theorem F7 {σ':St}{rs:List ARes}{r:V}(hfin:aR σ' rs=some r):r.clean=true:=by
 unfold aR at hfin
 split at hfin
 ·cases hfin
 ·split at hfin
  ·rename_i xs _ _
   have cl:∀{ys},bE σ'.h xs=some ys→(ys.all fun x=>x.2.all L.clean)=true:=fun h=>(qW xs _ [] h).1
   split at hfin
   ·rename_i ls hys;cases hfin;simpa[V.clean]using cl hys
   ·rename_i l hys;cases hfin;simpa[V.clean]using cl hys
   ·rename_i ys _ _ hys
    split at hfin
    ·cases hfin
    ·cases hfin;simpa[V.clean]using cl hys
   ·cases hfin
  ·cases hfin
theorem Ff :∀(vs:List V)(h:List AObj),(∀ob∈h,ob≠ .res)→∀ob∈(du h vs).2,ob≠ .res
 |[],h,k=>k
 |v::vs,h,k=>by
  simp only[du]
  refine Ff vs _ fun ob m=> ?_
  obtain⟨l,e,ha⟩:=JP h v
  rw[e]at m
  rcases List.mem_append.1 m with m|m
  ·exact k ob m
  ·have:=ha ob m
   rintro rfl
   exact this
theorem JM (xz:List V)(ob:AObj)(h:ob∈(du [] xz).2.map AObj.zone):ob≠ .res:=by
 obtain⟨x,hx,rfl⟩:=List.mem_map.1 h
 have:=Ff xz [] (by simp) x hx
 cases x<;>simp_all[AObj.zone]
theorem QC {Φ:Nat→Option AFn}{ext:Nat→List V→Option V}(im:Impl Γ P kf Φ ext):∀(n:Nat),(∀(f k:Nat)(xz:List V)(r:V),kf f=some k→run Φ ext n k xz=some r→vw Γ P f xz r)∧
 ∀(f k:Nat)(xz:List V)(r:V),kf f=some k→run Φ ext n (k+mM) xz=some r→xk Γ P f xz r:=by
 intro n
 induction n with
 |zero=>exact⟨fun f k xz r _ h=>by simp[run]at h,fun f k xz r _ h=>by simp[run]at h⟩
 |succ n ih=>
  have ok:CallOK Γ P kf (run Φ ext n):=⟨im.prog,im.there,fun f k xz r hk hr=>ih.1 f k xz r hk hr,fun f k xz r hk hr=>ih.2 f k xz r hk hr,im.ins,im.del⟩
  refine⟨fun f k xz r hk h=> ?_,fun f k xz r hk h=> ?_⟩
  ·rcases im.fns f k hk with⟨fn,af,h1,h2,h3⟩|⟨h1,_,h2⟩
   case inr=>
    simp only[run,h1]at h
    rw[if_neg (by have:=(im.small f k hk).1;omega)]at h
    exact h2 xz r h
   simp only[run,h3]at h
   rw[FG]at h2
   split at h2
   ·rename_i c hb
    split at h2
    ·rename_i ac rs hc hrs
     split at h2
     ·cases h2
     ·cases h2
      have key:∀{e:Ex}{σ':St},au (run Φ ext n) (dU n) ac (start ⟨fn.ntmps,rs,ac⟩ xz)=some (e,σ')→(e= .normal∨e= .ret)→aR σ' rs=some r→vw Γ P f xz r:=by
       intro e σ' he hee hfin
       refine⟨F7 hfin,fun M0 w vals hG hM ha=>calls_of_wp h1 hb ?_⟩
       refine Bi (z:=false) (O:=M0) (w0:=w) (ρ0:=[]) (h0:=[]) ok im.mixed n c hc nofun he ⟨M0,fun _ h=>h,nofun,Jy (fn:=⟨fn.ntmps,rs,ac⟩) hG hM ha,Below.refl _ _,Ch.refl _ _ _ _⟩ (fun a' w' ρ' s'=> ?_)
       obtain⟨M0',i1,_,s1,hbl,_⟩:=s'
       obtain⟨_,v,hv,hrr⟩:=wc s1 hrs hfin
       have hrr':=hrr.less i1
       rcases hee with rfl|rfl
       ·exact bodyPost_end hv s1.fr.defers ⟨v,rfl,hbl,hrr'⟩
       ·exact bodyPost_ret hv s1.fr.defers ⟨v,rfl,hbl,hrr'⟩
      unfold done at h
      split at h
      ·rename_i σ' he;exact key he (.inl rfl) h
      ·rename_i σ' he;exact key he (.inr rfl) h
      ·cases h
    ·cases h2
   ·cases h2
  ·obtain⟨_,hn⟩:=im.small f k hk
   simp only[run,hn]at h
   rw[if_pos (by omega),show k+mM-mM=k by omega]at h
   rcases im.fns f k hk with⟨fn,af,h1,h2,h3⟩|⟨h1,_,h2⟩
   case inr=>simp only[h1]at h;cases h
   simp only[h3]at h
   split at h
   case isFalse=>cases h
   rename_i hnz
   rw[FG]at h2
   split at h2
   ·rename_i c hb
    split at h2
    ·rename_i ac rs hc hrs
     split at h2
     ·cases h2
     ·cases h2
      have key:∀{e:Ex}{σ':St},au (run Φ ext n) (dU n) ac (hJ ⟨fn.ntmps,rs,ac⟩ xz)=some (e,σ')→(e= .normal∨e= .ret)→Ce (du [] xz).2.length ⟨fn.ntmps,rs,ac⟩ σ'=some r→xk Γ P f xz r:=by
       intro e σ' he hee hfin
       unfold Ce at hfin
       split at hfin
       ·rename_i l os hf ho
        split at hfin
        ·rename_i hfl
         cases hfin
         refine⟨l,os,rfl,hfl,fun M0 base w ρ vals hG hB k0 hl hv=>calls_of_wp h1 hb ?_⟩
         have hal:xz.length=vals.size:=by rw[←hl,Fe]
         refine Bi (z:=true) (O:=M0) (w0:=w) (ρ0:=ρ) (h0:=(du [] xz).2.map AObj.zone) ok im.mixed n c hc (fun _=>hnz) he ⟨M0,fun _ h=>h,fun _=>rfl,GZ (fn:=⟨fn.ntmps,rs,ac⟩) hG hB k0 hl hal hv,Below.refl _ _,Ch.refl _ _ _ _⟩ (fun a' w' ρ' s'=> ?_)
         obtain⟨M0',i1,i2,s1,hbl,c1⟩:=s'
         have e0:M0'=M0:=i2 rfl
         rw[e0]at s1 c1
         obtain⟨_,v,hv,hrr⟩:=wc s1 hrs hf
         have hm:ρ.length=(du [] xz).2.length:=by rw[k0.len];simp
         have hρ:ρ'.take (du [] xz).2.length=ρ:=by
          apply List.ext_getElem?
          intro i
          rw[List.getElem?_take]
          by_cases hi:i<(du [] xz).2.length
          ·rw[if_pos hi]
           have h5:ρ[i]? =some ρ[i]:=by simp[hm,hi]
           obtain⟨ob',h6,_⟩:=c1.obj i ρ[i] _ h5 (by rw[List.getElem?_eq_getElem (by simpa using hi)]) (JM xz _ (List.getElem_mem _))
           rw[h6,h5]
          ·rw[if_neg hi,List.getElem?_eq_none (by omega)]
         have k1:=s1.hr.first ho
         rw[hρ]at k1
         have hsub:∀{i:Nat}{x:AObj},(σ'.h.take (du [] xz).2.length)[i]? =some x→σ'.h[i]? =some x:=fun{i x}e=>by
          rw[List.getElem?_take]at e
          split at e
          ·exact e
          ·cases e
         have c2:Ch (Mu M0 ρ ((du [] xz).2.map AObj.zone)) (Mu M0 ρ (σ'.h.take (du [] xz).2.length)) w w' ρ ρ ((du [] xz).2.map AObj.zone) (σ'.h.take (du [] xz).2.length):=by
          refine⟨⟨c1.go.size,fun b hb' hm'=>c1.go.cls b hb' ?_,c1.go.block⟩,c1.row,fun i q x hq hx hxn=> ?_,c1.zar⟩
          ·rcases hm' with hm'|⟨i,x,hi,hx,hr⟩
           ·exact .inl hm'
           ·refine .inr ⟨i,x,hsub hi,hx,?_⟩
            have hil:i<ρ.length:=(List.getElem?_eq_some_iff.1 hr).1
            obtain⟨ob',h6,_⟩:=c1.obj i _ _ hr (List.getElem?_eq_getElem (by rw[k0.len]at hil;exact hil)) (JM xz _ (List.getElem_mem _))
            exact h6
          ·obtain⟨ob',h5,h6,h7⟩:=c1.obj i q x hq hx hxn
           have hil:i<(du [] xz).2.length:=by
            have:=(List.getElem?_eq_some_iff.1 hx).1
            simpa using this
           exact⟨ob',hq,by rw[List.getElem?_take,if_pos hil];exact h6,h7⟩
         have hlr:∀M ρ h,LR M w' ρ h l v:=fun M ρ h=>by
          have:=wd (M':=M) (ρ:=ρ) (h:=h) (by simpa[V.flat]using hfl) hrr
          have e:cN l=l:=by cases l<;>first|rfl|cases hfl
          simpa[cX,e,VR]using this
         rcases hee with rfl|rfl
         ·exact bodyPost_end hv s1.fr.defers ⟨v,_,rfl,hbl,hlr,ho,k1,c2⟩
         ·exact bodyPost_ret hv s1.fr.defers ⟨v,_,rfl,hbl,hlr,ho,k1,c2⟩
        ·cases hfin
       ·cases hfin
      unfold sy at h
      split at h
      ·rename_i σ' he;exact key he (.inl rfl) h
      ·rename_i σ' he;exact key he (.inr rfl) h
      ·cases h
    ·cases h2
   ·cases h2
theorem OK {Φ:Nat→Option AFn}{ext:Nat→List V→Option V}(im:Impl Γ P kf Φ ext)(n:Nat)(f k:Nat)(xz:List V)(r:V):kf f=some k→run Φ ext n k xz=some r→vw Γ P f xz r:=(QC im n).1 f k xz r
end
end Gi
