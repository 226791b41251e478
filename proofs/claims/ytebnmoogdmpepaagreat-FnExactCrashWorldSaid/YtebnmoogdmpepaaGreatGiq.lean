/- Of this proof. -/
import Derived.Test.YtebnmoogdmpepaaGreatGip
import Derived.Deep.LoopGhost
set_option linter.unusedSimpArgs false
set_option linter.unusedVariables false
namespace Gi
open Go Go.RowKit
variable {KI:KF}
section
variable {Γ:Ctx}{P:Program}{M0:Nat→Prop}{base:Nat}{σ:St}{a:Act}{w:World}{ρ:List (Option Nat)}{call:Nat→List V→Option V}
def SX [KF](Γ:Ctx)(z:Bool)(O:Nat→Prop)(base:Nat)(w0:World)(ρ0:List (Option Nat))(h0:List AObj)(σ:St)(a:Act)(w:World)(ρ:List (Option Nat)):Prop:=
 ∃M0,(∀b,O b→M0 b)∧(z=true→M0=O)∧SR Γ M0 base σ a w ρ∧Below base w0 w∧Ch (Mu O ρ0 h0) (Mu M0 ρ σ.h) w0 w ρ0 ρ h0 σ.h
variable {z:Bool}{O:Nat→Prop}{w0:World}{ρ0:List (Option Nat)}{h0:List AObj}
theorem Cc (ok:CallOK Γ P kf call)(s:SX Γ z O base w0 ρ0 h0 σ a w ρ){ops:Array Oper}{o:Oper}{d:Md}{oo:AOper}{σ':St}{K:Act→World→Prop}{Q:Exit→Act→World→Prop}(hz:z=true→oo.op.noZ=true)
 (hc:vZ P kf d ops o=some oo) (he:az call oo σ=some σ') (hK:∀a' w' ρ',SX Γ z O base w0 ρ0 h0 σ' a' w' ρ'→K a' w'):
 if Region.wanted o (yielded ops a.tmps)then o.wp P a w K Q else K (a.put o.dst undef) w:=by
 obtain⟨M0,i1,i2,s1,b1,c1⟩:=s
 exact LC ok s1 hc he fun M0' a' w' ρ' g0 g1 g2 g3 g4=>hK a' w' ρ' ⟨M0',fun b h=>g0 b (i1 b h),fun hz'=>(g1 (hz hz')).trans (i2 hz'),g2,b1.trans g3,c1.trans g4⟩
theorem HT (ok:CallOK Γ P kf call){ops:Array Oper}{d:Md}{Q:Exit→Act→World→Prop}:∀{l:List Oper}{oos:List AOper}{σ σ':St}{a:Act}{w:World}{ρ:List (Option Nat)},SX Γ z O base w0 ρ0 h0 σ a w ρ→(z=true→∀oo∈oos,oo.op.noZ=true)→
 fy (vZ P kf d ops) l=some oos→ai call oos σ=some σ'→(∀a' w' ρ',SX Γ z O base w0 ρ0 h0 σ' a' w' ρ'→Q .normal a' w')→wpList P ops Q l a w
 |[],oos,σ,σ',a,w,ρ,s,hz,hc,he,hQ=>by
  simp[fy]at hc;subst hc
  simp[ai]at he;subst he
  exact wpList_nil (hQ a w ρ s)
 |o::l,oos,σ,σ',a,w,ρ,s,hz,hc,he,hQ=>by
  unfold fy at hc
  split at hc
  ·rename_i oo oos' h1 h2
   cases hc
   unfold ai at he
   split at he
   ·rename_i σ1 he1
    exact wpList_step fun K hK=>Cc ok s (fun h=>hz h oo (by simp)) h1 he1 fun a' w' ρ' s'=>hK _ _ (HT ok s' (fun h o ho=>hz h o (by simp[ho])) h2 he hQ)
   ·cases he
  ·cases hc
theorem Opd.ev_set {x:Opd}{t:List V}{h h':List AObj}{d:Nat}{v:V}(hd:d∉x.tmps):x.ev ⟨t.set d v,h⟩=x.ev ⟨t,h'⟩:=by
 cases x with
 |tmp n=>
  simp only[Opd.tmps,List.mem_singleton]at hd
  simp only[Opd.ev,List.getD]
  rw[Za hd]
 |_=>rfl
theorem PE {σ σ':St}(hh:σ.h=σ'.h){ao:AOp}(hx:∀x∈ao.opds,x.ev σ=x.ev σ'):bj call σ ao=bj call σ' ao:=by
 cases ao with
 |build zero parts=>
  have:(parts.map fun x=>(x.1,x.2.1,x.2.2.ev σ))=(parts.map fun x=>(x.1,x.2.1,x.2.2.ev σ')):=by
   apply Yf
   intro x hxm
   rw[hx x.2.2 (by simp only[AOp.opds];exact Yo.2 ⟨x,hxm,rfl⟩)]
  simp only[bj,this]
 |call f xz fl fz=>
  have:xz.map (Opd.ev σ)=xz.map (Opd.ev σ'):=Yf (fun x hxm=>hx x hxm)
  simp only[bj,this,hh]
 |callV x xz=>
  have h1:=hx x (by simp[AOp.opds])
  have:xz.map (Opd.ev σ)=xz.map (Opd.ev σ'):=Yf (fun y hy=>hx y (by simp[AOp.opds,hy]))
  simp only[bj,this,hh,h1]
 |slcL z x lo hi=>rfl
 |buildF z parts=>
  have:parts.map (Opd.ev σ)=parts.map (Opd.ev σ'):=Yf (fun x hxm=>hx x hxm)
  simp only[bj,this]
 |slcF z x lo hi=>
  have h1:=hx x (by simp[AOp.opds])
  have h2:∀d,bh σ d lo=bh σ' d lo:=by
   intro d
   cases lo with
   |none=>rfl
   |some o=>simp only[bh,hx o (by simp[AOp.opds])]
  have h3:∀d,bh σ d hi=bh σ' d hi:=by
   intro d
   cases hi with
   |none=>rfl
   |some o=>simp only[bh,hx o (by simp[AOp.opds])]
  simp only[bj,h1,h2,h3]
 |slcW z x lo hi=>
  have h1:=hx x (by simp[AOp.opds])
  have h2:∀d,bh σ d lo=bh σ' d lo:=by
   intro d
   cases lo with
   |none=>rfl
   |some o=>simp only[bh,hx o (by simp[AOp.opds])]
  have h3:∀d,bh σ d hi=bh σ' d hi:=by
   intro d
   cases hi with
   |none=>rfl
   |some o=>simp only[bh,hx o (by simp[AOp.opds])]
  simp only[bj,h1,h2,h3,hh]
 |mkfn k cs=>rfl
 |callD k cs=>rfl
 |callF f xz=>
  have:xz.map (Opd.ev σ)=xz.map (Opd.ev σ'):=Yf (fun x hxm=>hx x hxm)
  simp only[bj,this,hh]
 |slcS x lo hi=>
  have h1:=hx x (by simp[AOp.opds])
  have h2:∀d,bh σ d lo=bh σ' d lo:=by
   intro d
   cases lo with
   |none=>rfl
   |some o=>simp only[bh,hx o (by simp[AOp.opds])]
  have h3:∀d,bh σ d hi=bh σ' d hi:=by
   intro d
   cases hi with
   |none=>rfl
   |some o=>simp only[bh,hx o (by simp[AOp.opds])]
  simp only[bj,h1,h2,h3]
 |_=>simp_all[bj,AOp.opds]
theorem uh {σ σ':St}{d:Int}{x:Option Opd}(hx:∀y∈x.toList,y.ev σ=y.ev σ'):bh σ d x=bh σ' d x:=by
 cases x with
 |none=>rfl
 |some o=>simp only[bh,hx o (by simp)]
theorem Pn {σ σ':St}(hh:σ.h=σ'.h){ao:AOp}(hx:∀x∈ao.opds,x.ev σ=x.ev σ'):cf call σ ao=cf call σ' ao:=by
 cases ao with
 |buildS z parts=>
  have:parts.map (Opd.ev σ)=parts.map (Opd.ev σ'):=Yf (fun x hxm=>hx x hxm)
  simp only[cf,this,hh]
 |call f xz fl fz=>
  have:xz.map (Opd.ev σ)=xz.map (Opd.ev σ'):=Yf (fun x hxm=>hx x hxm)
  cases fl<;>cases fz<;>first|rfl|simp only[cf,this,hh]
 |callD f xz=>
  have:xz.map (Opd.ev σ)=xz.map (Opd.ev σ'):=Yf (fun x hxm=>hx x hxm)
  simp only[cf,this,hh]
 |mkfn k cs=>
  have:cs.map (Opd.ev σ)=cs.map (Opd.ev σ'):=Yf (fun x hxm=>hx x hxm)
  simp only[cf,this,hh]
 |callC f xz=>
  have:xz.map (Opd.ev σ)=xz.map (Opd.ev σ'):=Yf (fun x hxm=>hx x hxm)
  simp only[cf,this,hh]
 |callZ f xz=>
  have:xz.map (Opd.ev σ)=xz.map (Opd.ev σ'):=Yf (fun x hxm=>hx x hxm)
  simp only[cf,this,hh]
 |buildD z parts=>
  have:parts.map (Opd.ev σ)=parts.map (Opd.ev σ'):=Yf (fun x hxm=>hx x hxm)
  simp only[cf,this,hh]
 |slcL z x lo hi=>
  have h1:=hx x (by simp[AOp.opds])
  have h2:∀d,bh σ d lo=bh σ' d lo:=fun d=>uh fun y hy=>hx y (by simp only[AOp.opds];exact Y5 _ (List.mem_append_left _ hy))
  have h3:∀d,bh σ d hi=bh σ' d hi:=fun d=>uh fun y hy=>hx y (by simp only[AOp.opds];exact Y5 _ (List.mem_append_right _ hy))
  simp only[cf,h1,h2,h3,hh]
 |_=>simp_all[cf,AOp.opds]
def k9 (call:Nat→List V→Option V)(o:AOper)(σ:St):Option (V×List AObj):=
 match aK σ o.guard with
 |some true=>match bj call σ o.op with
  |some v=>some (v,σ.h)
  |none=>cf call σ o.op
 |some false=>some (.tup [],σ.h)
 |none=>none
theorem BB (oo:AOper)(σ:St):az call oo σ=(k9 call oo σ).map fun x=>⟨put σ.t oo.dst x.1,x.2⟩:=by
 unfold az k9
 cases hw:aK σ oo.guard with
 |none=>rfl
 |some b=>
  cases b with
  |false=>rfl
  |true=>
   simp only
   cases hf:bj call σ oo.op with
   |some v=>rfl
   |none=>
    cases he:cf call σ oo.op with
    |none=>rfl
    |some x=>rfl
theorem NU {x y:AOper}(hap:uf x y=true){t:List V}{h:List AObj}{v:V}:k9 call y ⟨put t x.dst v,h⟩=k9 call y ⟨t,h⟩:=by
 cases hd:x.dst with
 |none=>rfl
 |some d=>
  have hno:d∉y.reads:=by
   simp only[uf,hd,Zm,Yk]at hap
   have:=hap.1.1
   simpa using this
  have hop:∀z∈y.op.opds,z.ev (⟨put t (some d) v,h⟩:St)=z.ev ⟨t,h⟩:=fun z hz=>Opd.ev_set (h':=h) (fun hm=>hno (List.mem_append_left _ (List.mem_flatMap.2 ⟨z,hz,hm⟩)))
  have hw:aK (⟨put t (some d) v,h⟩:St) y.guard=aK ⟨t,h⟩ y.guard:=by
   cases hg:y.guard with
   |none=>rfl
   |some gw=>
    obtain⟨g,b⟩:=gw
    have hne:d≠g:=fun e=>hno (List.mem_append_right _ (by simp[hg,e]))
    simp only[aK,put,List.getD]
    rw[Za hne]
  unfold k9
  rw[hw,PE (σ:=⟨put t (some d) v,h⟩) (σ':=⟨t,h⟩) rfl hop,Pn (σ:=⟨put t (some d) v,h⟩) (σ':=⟨t,h⟩) rfl hop]
theorem wD {x:Opd}{t:List V}{h h':List AObj}:x.ev ⟨t,h⟩=x.ev ⟨t,h'⟩:=by cases x<;>rfl
theorem nX {g:Option (Nat×Bool)}{t:List V}{h h':List AObj}:aK ⟨t,h⟩ g=aK ⟨t,h'⟩ g:=by
 cases g with
 |none=>rfl
 |some gw=>rfl
theorem NN {t:List V}{h h':List AObj}{d:Int}{x:Option Opd}:bh ⟨t,h⟩ d x=bh ⟨t,h'⟩ d x:=uh fun y _=>wD
theorem Ea {ao:AOp}(hc:ao.cls≤1):cf call σ ao=none:=by
 cases ao with
 |call f xz fl fz=>cases fl<;>cases fz<;>first|rfl|simp[AOp.cls]at hc
 |_=>first|rfl|simp[AOp.cls]at hc
theorem Rl {ao:AOp}(hc:ao.cls=0){t:List V}{h h':List AObj}:bj call ⟨t,h⟩ ao=bj call ⟨t,h'⟩ ao:=by
 have e:∀x:Opd,x.ev ⟨t,h⟩=x.ev ⟨t,h'⟩:=fun x=>wD
 have e2:∀d x,bh ⟨t,h⟩ d x=bh ⟨t,h'⟩ d x:=fun d x=>NN
 have e3:Opd.ev ⟨t,h⟩=Opd.ev ⟨t,h'⟩:=funext e
 cases ao with
 |buildF z ps=>simp only[bj,e3]
 |call f xz fl fz=>cases fl<;>cases fz<;>simp[AOp.cls]at hc
 |_=>first|(simp[AOp.cls]at hc;done)|(simp only[bj,e,e2];done)|rfl
def nc (h h':List AObj):Prop:=∀(o:Nat)(ob:AObj),h[o]? =some ob→ob≠ .res→h'[o]? =some ob∨∃z es,ob.isArrD z es∧h'[o]? =some (.froz z es)
theorem nc.refl (h:List AObj):nc h h:=fun _ _ e _=> .inl e
theorem nc.trans {a b c:List AObj}(h:nc a b)(k:nc b c):nc a c:=by
 intro o ob e hn
 rcases h o ob e hn with e1|⟨z,es,hD,e1⟩
 ·exact k o ob e1 hn
 ·rcases k o _ e1 (by simp)with e2|⟨_,_,e3,_⟩
  ·exact .inr ⟨z,es,hD,e2⟩
  ·rcases e3 with e3|e3<;>cases e3
theorem nc.append (h l:List AObj):nc h (h++l):=fun o ob e _=> .inl (by rw[Ze (Zb.1 e).1];exact e)
theorem nc.freezeL (h:List AObj)(l:L):nc h (Gi.freezeL h l):=by
 cases l with
 |arr o=>
  simp only[Gi.freezeL]
  split
  ·rename_i z es he
   intro o' ob e _
   by_cases q:o=o'
   ·subst q
    rw[he]at e;cases e
    exact .inr ⟨z,es, .inl rfl,by rw[Zd (Zb.1 he).1]⟩
   ·exact .inl (by rw[Za q];exact e)
  ·rename_i z es he
   intro o' ob e _
   by_cases q:o=o'
   ·subst q
    rw[he]at e;cases e
    exact .inr ⟨z,es, .inr rfl,by rw[Zd (Zb.1 he).1]⟩
   ·exact .inl (by rw[Za q];exact e)
  ·exact nc.refl h
 |_=>exact nc.refl h
theorem nc.freezeLs :∀(ls:List L)(h:List AObj),nc h (Gi.freezeLs h ls)
 |[],h=>nc.refl h
 |l::ls,h=>(nc.freezeL h l).trans (nc.freezeLs ls (Gi.freezeL h l))
theorem nc.freezeVs :∀(vs:List V)(h:List AObj),nc h (Gi.freezeVs h vs)
 |[],h=>nc.refl h
 |v::vs,h=>(nc.freezeLs v.cells h).trans (nc.freezeVs vs (Gi.freezeLs h v.cells))
theorem T0 {ao:AOp}(hc:ao.cls=2){v:V}{h':List AObj}(he:cf call σ ao=some (v,h')):nc σ.h h':=by
 cases ao with
 |call f xz fl fz=>cases fl<;>cases fz<;>simp[AOp.cls]at hc
 |alloc zero=>simp only[cf]at he;cases he;exact nc.append _ _
 |allocT n=>simp only[cf]at he;cases he;exact nc.append _ _
 |allocW zero=>simp only[cf]at he;cases he;exact nc.append _ _
 |boxW n x=>
  simp only[cf]at he
  split at he
  ·cases he;exact nc.append _ _
  ·cases he
 |allocAt i zero=>
  simp only[cf]at he
  split at he
  ·rename_i hi
   cases he
   intro o ob e hn
   have q:i≠o:=by
    rintro rfl
    rw[hi]at e;cases e
    exact hn rfl
   exact .inl (by rw[Za q];exact e)
  ·cases he
 |box x=>
  simp only[cf]at he
  split at he
  ·cases he;exact nc.append _ _
  ·cases he
 |buildS z parts=>
  simp only[cf]at he
  split at he
  ·split at he
   ·cases he;exact(nc.freezeVs _ _).trans (nc.append _ _)
   ·cases he
  ·cases he
 |make b zero n=>
  simp only[cf]at he
  split at he
  ·split at he
   ·cases he;exact nc.append _ _
   ·cases he
  ·cases he
 |slcL z x lo hi=>
  simp only[cf]at he
  split at he
  ·split at he
   ·split at he
    ·cases he;exact nc.freezeLs _ _
    ·cases he
   ·cases he
  ·cases he
 |_=>simp[AOp.cls]at hc
theorem JS {h h':List AObj}(k:nc h h'){l:L}{p:PV}(e:l.view h=some p):l.view h'=some p:=by
 cases l with
 |arr o=>
  simp only[L.view]at e⊢
  split at e
  ·rename_i z es he
   rcases k o _ he (by simp)with e1|⟨z',es',e2,e1⟩
   ·rw[e1];exact e
   ·rcases e2 with e2|e2<;>cases e2;rw[e1];exact e
  ·rename_i z es he
   rcases k o _ he (by simp)with e1|⟨z',es',e2,e1⟩
   ·rw[e1];exact e
   ·rcases e2 with e2|e2<;>cases e2
  ·rename_i z es he
   rcases k o _ he (by simp)with e1|⟨z',es',e2,e1⟩
   ·rw[e1];exact e
   ·rcases e2 with e2|e2<;>cases e2;rw[e1];exact e
  ·cases e
 |_=>exact e
theorem Mc {h h':List AObj}(k:nc h h'):∀{ls:List L}{ps:List PV},viewL h ls=some ps→viewL h' ls=some ps
 |[],ps,e=>e
 |l::ls,ps,e=>by
  simp only[viewL]at e⊢
  split at e
  ·rename_i p qs e1 e2
   rw[JS k e1,Mc k e2];exact e
  ·cases e
theorem QM {h h':List AObj}(k:nc h h'){v u:V}(e:v.view h=some u):v.view h'=some u:=by
 unfold V.view at e⊢
 split at e
 ·exact e
 ·rename_i l hno
  split at e
  ·rename_i p e1
   rw[JS k e1]
   simp only
   exact e
  ·cases e
 ·split at e
  ·rename_i ps e1
   rw[Mc k e1];exact e
  ·cases e
 ·cases e
theorem qP {h h':List AObj}(k:nc h h'):∀{vs us:List V},am h vs=some us→am h' vs=some us
 |[],us,e=>e
 |v::vs,us,e=>by
  simp only[am]at e⊢
  split at e
  ·rename_i p qs e1 e2
   rw[QM k e1,qP k e2];exact e
  ·cases e
theorem zS {h h':List AObj}(k:nc h h'){v:V}{es:List (List PV)}(e:asList h v=some es):asList h' v=some es:=by
 unfold asList at e⊢
 split at e
 ·split at e
  ·rename_i es' e1
   simp only[JS k e1];exact e
  ·cases e
 ·cases e
theorem Om {h h':List AObj}(k:nc h h'){l:L}{p:PV}(e:l.view h=some p)(m:L.mut h l=false):L.mut h' l=false:=by
 cases l with
 |arr o=>
  simp only[L.view]at e
  simp only[L.mut]at m⊢
  split at e
  ·rename_i z es he
   rw[he]at m;simp at m
  ·rename_i z es he
   rcases k o _ he (by simp)with e1|⟨z',es',e2,e1⟩
   ·rw[e1]
   ·rcases e2 with e2|e2<;>cases e2
  ·rename_i z es he
   rw[he]at m;simp at m
  ·cases e
 |_=>rfl
theorem K9 {h h':List AObj}(k:nc h h'):∀{ls:List L}{ps:List PV},viewL h ls=some ps→ls.any (L.mut h)=false→ls.any (L.mut h')=false
 |[],_,_,_=>rfl
 |l::ls,ps,e,m=>by
  simp only[viewL]at e
  split at e
  ·rename_i p qs e1 e2
   simp only[List.any_cons,Xe]at m⊢
   exact⟨Om k e1 m.1,K9 k e2 m.2⟩
  ·cases e
theorem S9 {h h':List AObj}(k:nc h h'){v u:V}(e:v.view h=some u)(m:v.mut h=false):v.mut h'=false:=by
 unfold V.view at e
 unfold V.mut at m⊢
 split at e
 ·rfl
 ·rename_i l hno
  split at e
  ·rename_i p e1
   simp only[V.cells,List.any_cons,List.any_nil,Bool.or_false]at m⊢
   exact Om k e1 m
  ·cases e
 ·split at e
  ·rename_i ps e1
   simp only[V.cells]at m⊢
   exact K9 k e1 m
  ·cases e
 ·cases e
theorem La {h h':List AObj}(k:nc h h'):∀{vs us:List V},am h vs=some us→vs.any (V.mut h)=false→vs.any (V.mut h')=false
 |[],_,_,_=>rfl
 |v::vs,us,e,m=>by
  simp only[am]at e
  split at e
  ·rename_i p qs e1 e2
   simp only[List.any_cons,Xe]at m⊢
   exact⟨S9 k e1 m.1,La k e2 m.2⟩
  ·cases e
theorem se {h h':List AObj}(k:nc h h'){g:Bool}{n:Nat}{a v:V}(e:bo h g n a=some v):bo h' g n a=some v:=by
 unfold bo at e⊢
 split at e
 ·rename_i o i j
  split at e
  ·rename_i cs he
   rcases k o _ he (by simp)with e1|⟨z',es',e2,e1⟩
   ·simp only[e1];exact e
   ·rcases e2 with e2|e2<;>cases e2
  ·rename_i z es he
   rcases k o _ he (by simp)with e1|⟨z',es',e2,e1⟩
   ·simp only[e1];exact e
   ·rcases e2 with e2|e2<;>cases e2;simp only[e1];exact e
  ·rename_i z es he
   rcases k o _ he (by simp)with e1|⟨z',es',e2,e1⟩
   ·simp only[e1];exact e
   ·rcases e2 with e2|e2<;>cases e2
  ·rename_i z es he
   rcases k o _ he (by simp)with e1|⟨z',es',e2,e1⟩
   ·simp only[e1];exact e
   ·rcases e2 with e2|e2<;>cases e2;simp only[e1];exact e
  ·rename_i ps he
   rcases k o _ he (by simp)with e1|⟨z',es',e2,e1⟩
   ·simp only[e1];exact e
   ·rcases e2 with e2|e2<;>cases e2
  ·cases e
 ·exact e
 ·cases e
theorem D7 {h h':List AObj}(k:nc h h'){z:Nat}{x v:V}{i:Nat}(e:aG h z x i=some v):aG h' z x i=some v:=by
 unfold aG at e⊢
 split at e
 ·rename_i o
  split at e
  ·rename_i z' es he
   rcases k o _ he (by simp)with e1|⟨_,_,e2,e1⟩
   ·simp only[e1];exact e
   ·rcases e2 with e2|e2<;>cases e2;simp only[e1];exact e
  ·rename_i z' es he
   rcases k o _ he (by simp)with e1|⟨_,_,e2,e1⟩
   ·simp only[e1];exact e
   ·rcases e2 with e2|e2<;>cases e2
  ·rename_i z' es he
   rcases k o _ he (by simp)with e1|⟨_,_,e2,e1⟩
   ·simp only[e1];exact e
   ·rcases e2 with e2|e2<;>cases e2;simp only[e1];exact e
  ·cases e
 ·exact e
 ·cases e
theorem nc.lent {h h':List AObj}(k:nc h h'):nc (Gi.lent h) (Gi.lent h'):=by
 intro o x e hn
 obtain⟨ob,h1,rfl⟩:=mP e
 rcases k o ob h1 (by rintro rfl;exact hn rfl)with e1|⟨z,es,hD,e1⟩
 ·exact .inl (vx e1)
 ·refine .inr ⟨z,es,?_,vx e1⟩
  rcases hD with rfl|rfl
  ·exact .inl rfl
  ·exact .inr rfl
theorem PX {h h':List AObj}(k:nc h h'){g:Bool}{n:Nat}{a v:V}(e:qc h g n a=some v):qc h' g n a=some v:=by
 unfold qc at e⊢
 split at e
 ·rename_i o i j
  split at e
  ·rename_i z es he
   rcases k o _ he (by simp)with e1|⟨_,_,e2,e1⟩
   ·simp only[e1];exact e
   ·rcases e2 with e2|e2<;>cases e2
  ·rename_i hno
   have hno':∀z es,h'[o]? ≠some (.zarr z es):=fun z es e1=>by
    have he:=e
    unfold bo at he
    simp only at he
    cases h2:h[o]? with
    |none=>rw[h2]at he;cases he
    |some ob=>
     have hn:ob≠ .res:=by
      rintro rfl
      rw[h2]at he
      cases he
     rcases k o ob h2 hn with e3|⟨_,_,_,e3⟩
     ·rw[e1]at e3;cases e3;exact hno z es h2
     ·rw[e1]at e3;cases e3
   split
   ·rename_i z es e1;exact absurd e1 (hno' z es)
   ·exact se k e
 ·exact se k e
theorem R3 {h h':List AObj}(k:nc h h'){o:Nat}{x:Nat×List (List PV)}(e:tA h o=some x):tA h' o=some x:=by
 unfold tA at e
 split at e
 ·rename_i z es e1
  cases e
  rcases k o _ e1 (by simp)with e2|⟨z',es',e2,e3⟩
  ·simp only[tA,e2]
  ·rcases e2 with e2|e2<;>cases e2
   simp only[tA,e3]
 ·rename_i z es e1
  cases e
  rcases k o _ e1 (by simp)with e2|⟨z',es',e2,e3⟩
  ·simp only[tA,e2]
  ·rcases e2 with e2|e2<;>cases e2
 ·rename_i z es e1
  cases e
  rcases k o _ e1 (by simp)with e2|⟨z',es',e2,e3⟩
  ·simp only[tA,e2]
  ·rcases e2 with e2|e2<;>cases e2
   simp only[tA,e3]
 ·cases e
theorem Rk {ao:AOp}(hc:ao.cls=1){t:List V}{h h':List AObj}(k:nc h h'){v:V}(e:bj call ⟨t,h⟩ ao=some v):bj call ⟨t,h'⟩ ao=some v:=by
 have ev:∀x:Opd,x.ev ⟨t,h⟩=x.ev ⟨t,h'⟩:=fun x=>wD
 have evs:Opd.ev ⟨t,h⟩=Opd.ev ⟨t,h'⟩:=funext ev
 cases ao with
 |load g n a=>
  simp only[bj,ev]at e⊢
  exact se k e
 |loadB g n a=>
  simp only[bj,ev]at e⊢
  split at e
  ·rename_i hq
   have hq':bO h' (a.ev ⟨t,h'⟩)=true:=by
    unfold bO at hq⊢
    split at hq
    ·rename_i o i j hv
     split at hq
     ·rename_i cs ho
      rcases k o _ ho (by simp)with e1|⟨z',es',e2,e1⟩
      ·rw[e1]
      ·rcases e2 with e2|e2<;>cases e2
     ·rename_i cs ho
      rcases k o _ ho (by simp)with e1|⟨z',es',e2,e1⟩
      ·rw[e1]
      ·rcases e2 with e2|e2<;>cases e2
     ·cases hq
    ·rfl
    ·cases hq
   rw[if_pos hq']
   exact se k e
  ·cases e
 |loadN g n a r=>
  simp only[bj,ev]at e⊢
  split at e
  ·rename_i hq
   rw[if_pos hq]
   exact se k e
  ·cases e
 |loadA g n a=>
  simp only[bj,ev]at e⊢
  split at e
  ·cases e
  ·rename_i hq
   have hq':¬bO h' (a.ev ⟨t,h'⟩)=true:=by
    intro hq2
    unfold bO at hq hq2
    unfold bo at e
    split at e
    ·rename_i o i j hv
     rw[hv]at hq hq2
     simp only at hq hq2
     split at e
     ·rename_i cs ho;rw[ho]at hq;exact hq rfl
     ·rename_i z es ho
      rcases k o _ ho (by simp)with e1|⟨z',es',e2,e1⟩
      ·rw[e1]at hq2;cases hq2
      ·rw[e1]at hq2;cases hq2
     ·rename_i z es ho
      rcases k o _ ho (by simp)with e1|⟨z',es',e2,e1⟩
      ·rw[e1]at hq2;cases hq2
      ·rcases e2 with e2|e2<;>cases e2
     ·rename_i z es ho
      rcases k o _ ho (by simp)with e1|⟨z',es',e2,e1⟩
      ·rw[e1]at hq2;cases hq2
      ·rw[e1]at hq2;cases hq2
     ·rename_i cs ho;rw[ho]at hq;exact hq rfl
     ·cases e
    ·rename_i e1 j hv
     rw[hv]at hq
     exact hq rfl
    ·cases e
   rw[if_neg hq']
   exact se k e
 |b2s x=>
  simp only[bj,ev]at e⊢
  split at e
  ·rename_i es e1;rw[zS k e1];exact e
  ·cases e
 |len x=>
  simp only[bj,ev]at e⊢
  split at e
  ·rename_i es e1;rw[zS k e1];exact e
  ·cases e
 |indexA z x i=>
  simp only[bj,ev]at e⊢
  split at e
  ·split at e
   ·rename_i hn;simp only[if_pos hn];exact D7 k e
   ·cases e
  ·cases e
 |callV x xz=>
  simp only[bj,evs]at e⊢
  split at e
  ·split at e
   ·rename_i us e1;simp only[qP k e1];exact e
   ·cases e
  ·cases e
 |call f xz fl fz=>
  simp only[bj,evs]at e⊢
  split at e
  ·rename_i hfl
   rw[if_pos hfl]
   split at e
   ·rename_i hm
    split at e
    ·rename_i us e1
     have hm':(fl|| !((xz.map (Opd.ev ⟨t,h'⟩)).any (V.mut h')))=true:=by
      cases fl with
      |true=>rfl
      |false=>
       simp only[Bool.false_or,Yk]at hm⊢
       exact La k e1 hm
     rw[if_pos hm',qP k e1];exact e
    ·cases e
   ·cases e
  ·cases e
 |lenZ x=>
  simp only[bj,ev]at e⊢
  split at e
  ·rename_i es e1;rw[zS k.lent e1];exact e
  ·cases e
 |slcW z x lo hi=>
  have hb:∀d o,bh ⟨t,h⟩ d o=bh ⟨t,h'⟩ d o:=fun d o=>NN
  simp only[bj,ev,hb]at e⊢
  split at e
  ·split at e
   ·rename_i es e1
    rw[show tA h' _=_ from R3 k e1]
    exact e
   ·cases e
  ·cases e
 |indexZ z x i=>
  simp only[bj,ev]at e⊢
  split at e
  ·split at e
   ·rename_i hn;simp only[if_pos hn];exact D7 k.lent e
   ·cases e
  ·cases e
 |loadZ g n a=>
  simp only[bj,ev]at e⊢
  exact PX k e
 |callF f xz=>
  simp only[bj,evs]at e⊢
  split at e
  ·rename_i us e1;simp only[qP k.lent e1];exact e
  ·cases e
 |_=>simp[AOp.cls]at hc
theorem RU {x y:AOper}(hap:uf x y=true)(t:List V)(v u:V):put (put t x.dst v) y.dst u=put (put t y.dst u) x.dst v:=by
 cases hd:x.dst with
 |none=>rfl
 |some d=>
  cases he:y.dst with
  |none=>rfl
  |some e=>
   have hne:d≠e:=by
    simp only[uf,hd,he,Zm,bne_iff_ne,ne_eq]at hap
    intro e'
    exact hap.1.2 (by rw[e'])
   simp only[put]
   exact List.set_comm v u hne
theorem J4 {x y:AOper}(h:uf x y=true):uf y x=true:=by
 unfold uf at*
 cases hx:x.dst<;>cases hy:y.dst<;>simp_all
 exact fun e=>h.1.2 e.symm
theorem D6 {x:AOper}(hc:x.op.cls=0){t:List V}{h h1 h':List AObj}{v:V}(e:k9 call x ⟨t,h⟩=some (v,h1)):h1=h∧k9 call x ⟨t,h'⟩=some (v,h'):=by
 unfold k9 at e⊢
 rw[nX (h:=h') (h':=h)]
 split at e
 ·rw[Rl (h:=h') (h':=h) hc]
  split at e
  ·cases e;exact⟨rfl,rfl⟩
  ·rw[Ea (by omega)]at e;cases e
 ·cases e;exact⟨rfl,rfl⟩
 ·cases e
theorem Kv {x:AOper}(hc:x.op.cls=1){t:List V}{h h1 h':List AObj}(k:nc h h'){v:V}(e:k9 call x ⟨t,h⟩=some (v,h1)):h1=h∧k9 call x ⟨t,h'⟩=some (v,h'):=by
 unfold k9 at e⊢
 rw[nX (h:=h') (h':=h)]
 split at e
 ·split at e
  ·rename_i hf
   cases e
   rw[Rk hc k hf]
   exact⟨rfl,rfl⟩
  ·rw[Ea (by omega)]at e;cases e
 ·cases e;exact⟨rfl,rfl⟩
 ·cases e
theorem TZ {x:AOper}(hc:x.op.cls≤2){σ:St}{h':List AObj}{v:V}(e:k9 call x σ=some (v,h')):nc σ.h h':=by
 unfold k9 at e
 split at e
 ·split at e
  ·cases e;exact nc.refl _
  ·by_cases h2:x.op.cls=2
   ·exact T0 h2 e
   ·rw[Ea (by omega)]at e;cases e
 ·cases e;exact nc.refl _
 ·cases e
theorem sv :∀(ls:List L)(h:List AObj),∃l,(thawL h ls).2=h++l∧ou l
 |[],h=>⟨[],by simp[thawL],fun ob hob=>by cases hob⟩
 |l::ls,h=>by
  have push:∀ob:AObj,ob.isArr→∃l,(thawL (h++[ob]) ls).2=h++l∧ou l:=fun ob ho=>by
   obtain⟨l,e,ha⟩:=sv ls (h++[ob])
   exact⟨ob::l,by rw[e];simp,fun x hx=>by
    rcases Yh.1 hx with rfl|hx
    ·exact ho
    ·exact ha x hx⟩
  cases l with
  |own z es=>exact push _ trivial
  |down z es=>exact push _ trivial
  |_=>exact sv ls h
theorem Ia :∀(xs:List (Bool×List L))(h:List AObj),∃l,(thawT h xs).2=h++l∧ou l
 |[],h=>⟨[],by simp[thawT],fun ob hob=>by cases hob⟩
 |(b,ls)::xs,h=>by
  obtain⟨l,e,ha⟩:=sv ls h
  obtain⟨l',e',ha'⟩:=Ia xs (thawL h ls).2
  refine⟨l++l',by simp only[thawT];rw[e',e,Zo],fun x hx=> ?_⟩
  rcases Yw.1 hx with hx|hx
  ·exact ha x hx
  ·exact ha' x hx
theorem LV (h:List AObj)(r:V):∃l,(thaw h r).2=h++l∧ou l:=by
 cases r with
 |one l=>
  obtain⟨l',h',e'⟩:=iS h l
  obtain⟨x,e,ha⟩:=sv [l] h
  rw[e']at e
  exact⟨x,by simp only[thaw,e'];exact e,ha⟩
 |agg ls=>exact sv ls h
 |tup xs=>exact Ia xs h
def cR (h h':List AObj):Prop:=∀(o:Nat)(ob:AObj),(match ob with| .box _=>True| .fbox _=>True|_=>False)→(h[o]? =some ob↔h'[o]? =some ob)
theorem cR.refl (h:List AObj):cR h h:=fun _ _ _=>Iff.rfl
theorem cR.symm {h h':List AObj}(k:cR h h'):cR h' h:=fun o ob q=>(k o ob q).symm
theorem cR.trans {a b c:List AObj}(h:cR a b)(k:cR b c):cR a c:=fun o ob q=>(h o ob q).trans (k o ob q)
theorem cR.app {h l:List AObj}(ha:ou l):cR h (h++l):=fun o ob q=>by
 by_cases hlt:o<h.length
 ·rw[Ze hlt]
 ·rw[Yt (by omega),Zh (by omega)]
  constructor
  ·intro e;cases e
  ·intro e
   have:=ha ob (Zk e)
   cases ob<;>first|exact this.elim|exact q.elim
theorem cR.push (h:List AObj){z:Nat}{es:List (List PV)}:cR h (h++[.arr z es]):=fun o ob q=>by
 rcases Nat.lt_trichotomy o h.length with hlt|rfl|hgt
 ·rw[Ze hlt]
 ·simp only[Zh (Zl _),Y4,Yz,Yt (Zl _)]
  constructor
  ·intro e;cases e
  ·intro e;cases e;exact q.elim
 ·rw[Yt (by omega),Yt (by simp;omega)]
theorem cR.setArr {h:List AObj}{o z:Nat}{es:List (List PV)}{ob0:AObj}(ho:h[o]? =some ob0)(hD:ob0.isArrD z es){ob':AObj}(hb:match ob' with| .box _=>False| .fbox _=>False|_=>True):cR h (h.set o ob'):=fun i ob q=>by
 by_cases hi:o=i
 ·subst hi
  rw[Zd (Zb.1 ho).1,ho]
  constructor
  ·intro e;cases e;rcases hD with rfl|rfl<;>exact q.elim
  ·intro e;cases e;revert q hb;cases ob'<;>simp
 ·rw[Za hi]
theorem cR.freezeL (h:List AObj)(l:L):cR h (Gi.freezeL h l):=by
 cases l with
 |arr o=>
  simp only[Gi.freezeL]
  split
  ·rename_i z es he
   exact cR.setArr he (.inl rfl) trivial
  ·rename_i z es he
   exact cR.setArr he (.inr rfl) trivial
  ·exact cR.refl h
 |_=>exact cR.refl h
theorem cR.freezeLs :∀(ls:List L)(h:List AObj),cR h (Gi.freezeLs h ls)
 |[],h=>cR.refl h
 |l::ls,h=>(cR.freezeL h l).trans (cR.freezeLs ls (Gi.freezeL h l))
theorem cR.freezeVs :∀(vs:List V)(h:List AObj),cR h (Gi.freezeVs h vs)
 |[],h=>cR.refl h
 |v::vs,h=>(cR.freezeLs v.cells h).trans (cR.freezeVs vs (Gi.freezeLs h v.cells))
theorem Po {σ:St}{ao:AOp}(hc:ao.arrT=true){v:V}{h':List AObj}(he:cf call σ ao=some (v,h')):cR σ.h h':=by
 cases ao with
 |buildS z parts=>
  simp only[cf]at he
  split at he
  ·split at he
   ·cases he;exact(cR.freezeVs _ _).trans (cR.push _)
   ·cases he
  ·cases he
 |make b zero n=>
  simp only[cf]at he
  split at he
  ·split at he
   ·cases he;exact cR.push _
   ·cases he
  ·cases he
 |slcL z x lo hi=>
  simp only[cf]at he
  split at he
  ·split at he
   ·split at he
    ·cases he;exact cR.freezeLs _ _
    ·cases he
   ·cases he
  ·cases he
 |append z b x y=>
  simp only[cf]at he
  split at he
  ·split at he
   ·cases he;exact cR.push _
   ·cases he
  ·split at he
   ·rename_i z' es ho
    split at he
    ·cases he;exact(cR.setArr ho (.inl rfl) trivial).trans (cR.push _)
    ·cases he
   ·cases he
  ·cases he
 |appendS b x y=>
  simp only[cf]at he
  split at he
  ·split at he
   ·cases he;exact cR.push _
   ·cases he
  ·split at he
   ·rename_i z' es ho
    split at he
    ·cases he;exact(cR.setArr ho (.inl rfl) trivial).trans (cR.push _)
    ·cases he
   ·cases he
  ·cases he
 |buildD z parts=>
  simp only[cf]at he
  split at he
  ·split at he
   ·cases he;exact(cR.freezeVs _ _).trans (cR.app fun ob hob=>by simp at hob;subst hob;trivial)
   ·cases he
  ·cases he
 |appendD z b x y=>
  simp only[cf]at he
  split at he
  ·cases he
  ·rename_i sc hsc
   split at he
   ·cases he
   ·split at he
    ·cases he
     refine(cR.freezeLs (y.ev σ).cells _).trans (cR.trans ?_ (cR.app fun ob hob=>by simp at hob;subst hob;trivial))
     rcases H5 hsc with⟨_,rfl⟩|⟨o,es,_,rfl,hd⟩
     ·exact cR.refl _
     ·have hob:∃ob,σ.h[o]? =some ob∧ob.isArrD z es:=by
       unfold aX at hd
       split at hd
       ·rename_i z' es' ho
        split at hd
        ·cases hd;exact⟨_,ho, .inl rfl⟩
        ·cases hd
       ·rename_i z' es' ho;cases hd;exact⟨_,ho, .inr rfl⟩
       ·cases hd
      obtain⟨ob,ho,hD⟩:=hob
      rcases nc.freezeLs (y.ev σ).cells σ.h o ob ho (by rcases hD with rfl|rfl<;>simp)with e1|⟨z',es',_,e1⟩
      ·exact cR.setArr e1 hD trivial
      ·simp only[bd]
       intro i x q
       by_cases hi:o=i
       ·subst hi
        rw[Zd (Zb.1 e1).1,e1]
        constructor
        ·intro e;cases e;exact q.elim
        ·intro e;cases e;exact q.elim
       ·rw[Za hi]
    ·cases he
 |callC f xz=>
  have th:∀(h:List AObj)(r:V),cR h (thaw h r).2:=fun h r=>by
   obtain⟨l,e,ha⟩:=LV h r
   rw[e]
   exact cR.app ha
  simp only[cf]at he
  split at he
  ·split at he
   ·rename_i r _
    have he':=Option.some.inj he
    have e2:=congrArg Prod.snd he'
    simp only at e2
    rw[←e2]
    refine cR.trans ?_ (th _ _)
    split
    ·exact cR.refl _
    ·exact cR.freezeVs _ _
   ·cases he
  ·cases he
 |_=>simp[AOp.arrT]at hc
theorem HJ {x:AOper}(hc:x.op.arrT=true){σ:St}{h':List AObj}{v:V}(e:k9 call x σ=some (v,h')):cR σ.h h':=by
 unfold k9 at e
 split at e
 ·split at e
  ·cases e;exact cR.refl _
  ·exact Po hc e
 ·cases e;exact cR.refl _
 ·cases e
theorem K3 {h h':List AObj}(k:cR h h')(v:V):bO h v=bO h' v:=by
 cases v with
 |one l=>
  cases l with
  |ptr o i j=>
   simp only[bO]
   cases e1:h[o]? with
   |none=>
    cases e2:h'[o]? with
    |none=>rfl
    |some ob'=>
     cases ob' with
     |box cs=>rw[(k o _ trivial).2 e2]at e1;cases e1
     |fbox cs=>rw[(k o _ trivial).2 e2]at e1;cases e1
     |_=>rfl
   |some ob=>
    cases ob with
    |box cs=>rw[(k o _ trivial).1 e1]
    |fbox cs=>rw[(k o _ trivial).1 e1]
    |_=>
     cases e2:h'[o]? with
     |none=>rfl
     |some ob'=>
      cases ob' with
      |box cs=>rw[(k o _ trivial).2 e2]at e1;cases e1
      |fbox cs=>rw[(k o _ trivial).2 e2]at e1;cases e1
      |_=>rfl
  |_=>rfl
 |_=>rfl
theorem PW {h h':List AObj}(k:cR h h'){g:Bool}{n:Nat}(v:V)(q:bO h v=true):bo h g n v=bo h' g n v:=by
 unfold bO at q
 split at q
 ·rename_i o i j
  split at q
  ·rename_i cs e1
   simp only[bo,e1,(k o _ trivial).1 e1]
  ·rename_i cs e1
   simp only[bo,e1,(k o _ trivial).1 e1]
  ·cases q
 ·rfl
 ·cases q
theorem RE {h h':List AObj}(k:cR h h'){g:Bool}{n:Nat}(v:V):(if bO h v then bo h g n v else none)=(if bO h' v then bo h' g n v else none):=by
 by_cases q:bO h v=true
 ·rw[if_pos q,if_pos (by rw[←K3 k];exact q),PW k v q]
 ·rw[if_neg q,if_neg (by rw[←K3 k];exact q)]
theorem D4 {x:AOper}(hc:x.op.isLB=true){t:List V}{h h1 h':List AObj}(k:cR h h'){v:V}(e:k9 call x ⟨t,h⟩=some (v,h1)):h1=h∧k9 call x ⟨t,h'⟩=some (v,h'):=by
 unfold k9 at e⊢
 rw[nX (h:=h') (h':=h)]
 have hf:bj call ⟨t,h⟩ x.op=bj call ⟨t,h'⟩ x.op∧∀s,cf call s x.op=none:=by
  cases hx:x.op with
  |loadB g n a=>
   refine⟨?_,fun _=>rfl⟩
   simp only[bj]
   rw[wD (h:=h) (h':=h')]
   exact RE k _
  |_=>rw[hx]at hc;cases hc
 split at e
 ·rw[←hf.1]
  split at e
  ·cases e;exact⟨rfl,rfl⟩
  ·rw[hf.2]at e;cases e
 ·cases e;exact⟨rfl,rfl⟩
 ·cases e
theorem Nk {h h':List AObj}{n:Nat}{a v:V}(q:bO h a=true)(e:bv h n a v=some h'):∃o cs cs',h[o]? =some (.box cs)∧h'=h.set o (.box cs'):=by
 simp only[bv]at e
 split at e
 ·split at e
  ·rename_i o i j
   split at e
   ·rename_i cs ho
    split at e
    ·cases e;exact⟨o,cs,_,ho,rfl⟩
    ·cases e
   ·rename_i z es ho
    simp[bO,ho]at q
   ·cases e
  ·cases e
 ·cases e
theorem qG {h:List AObj}{o:Nat}{cs cs':List L}(ho:h[o]? =some (.box cs))(i:Nat):(h.set o (.box cs'))[i]? =h[i]? ∨(h[i]? =some (.box cs)∧(h.set o (.box cs'))[i]? =some (.box cs')):=by
 by_cases e:o=i
 ·subst e
  exact .inr ⟨ho,Zd (Zb.1 ho).1⟩
 ·exact .inl (Za e)
theorem PR {h:List AObj}{o:Nat}{cs cs':List L}(ho:h[o]? =some (.box cs))(v:V):bO (h.set o (.box cs')) v=bO h v:=by
 cases v with
 |one l=>
  cases l with
  |ptr i a b=>
   simp only[bO]
   rcases qG (cs':=cs') ho i with e|⟨e1,e2⟩
   ·rw[e]
   ·rw[e1,e2]
  |_=>rfl
 |_=>rfl
theorem PU {h:List AObj}{o:Nat}{cs cs':List L}(ho:h[o]? =some (.box cs)){g:Bool}{n:Nat}(v:V):(if bO (h.set o (.box cs')) v then none else bo (h.set o (.box cs')) g n v)=(if bO h v then none else bo h g n v):=by
 rw[PR ho]
 by_cases q:bO h v=true
 ·rw[if_pos q,if_pos q]
 ·rw[if_neg q,if_neg q]
  cases v with
  |one l=>
   cases l with
   |ptr i a b=>
    simp only[bo]
    rcases qG (cs':=cs') ho i with e|⟨e1,e2⟩
    ·rw[e]
    ·simp[bO,e1]at q
   |_=>rfl
  |_=>rfl
theorem Kw {h:List AObj}{o:Nat}{cs cs':List L}(ho:h[o]? =some (.box cs)){z:Nat}(x:V)(i:Nat):aG (h.set o (.box cs')) z x i=aG h z x i:=by
 cases x with
 |one l=>
  cases l with
  |arr q=>
   simp only[aG]
   rcases qG (cs':=cs') ho q with e|⟨e1,e2⟩
   ·rw[e]
   ·rw[e1,e2]
  |pv p=>cases p<;>rfl
  |_=>rfl
 |_=>rfl
theorem Mm {h:List AObj}{o:Nat}{cs cs':List L}(ho:h[o]? =some (.box cs))(x:V):asList (h.set o (.box cs')) x=asList h x:=by
 cases x with
 |one l=>
  cases l with
  |arr q=>
   simp only[asList,L.view]
   rcases qG (cs':=cs') ho q with e|⟨e1,e2⟩
   ·rw[e]
   ·rw[e1,e2]
  |pv p=>cases p<;>rfl
  |_=>rfl
 |_=>rfl
theorem Kt {nb:Bool}{x:AOper}(hc:x.op.isAR nb=true){t:List V}{h:List AObj}{o:Nat}{cs cs':List L}(ho:h[o]? =some (.box cs)):k9 call x ⟨t,h.set o (.box cs')⟩=(k9 call x ⟨t,h⟩).map fun y=>(y.1,h.set o (.box cs')):=by
 have hf:bj call ⟨t,h.set o (.box cs')⟩ x.op=bj call ⟨t,h⟩ x.op∧∀s,cf call s x.op=none:=by
  cases hx:x.op with
  |loadA g n a=>
   refine⟨?_,fun _=>rfl⟩
   simp only[bj]
   rw[wD (h:=h.set o (.box cs')) (h':=h)]
   exact PU ho _
  |indexA z a i=>
   refine⟨?_,fun _=>rfl⟩
   simp only[bj]
   rw[wD (x:=a) (h:=h.set o (.box cs')) (h':=h),wD (x:=i) (h:=h.set o (.box cs')) (h':=h)]
   simp only[Kw ho]
  |len a=>
   refine⟨?_,fun _=>rfl⟩
   simp only[bj]
   rw[wD (x:=a) (h:=h.set o (.box cs')) (h':=h),Mm ho]
  |_=>rw[hx]at hc;cases hc
 unfold k9
 rw[nX (h:=h.set o (.box cs')) (h':=h)]
 cases aK ⟨t,h⟩ x.guard with
 |none=>rfl
 |some b=>
  cases b with
  |false=>rfl
  |true=>
   simp only
   rw[hf.1,hf.2,hf.2]
   cases bj call ⟨t,h⟩ x.op<;>rfl
theorem qR {nb:Bool}{x:AOper}(hc:x.op.isAR nb=true){t:List V}{h h1:List AObj}{v:V}(e:k9 call x ⟨t,h⟩=some (v,h1)):h1=h:=by
 have he:∀s,cf call s x.op=none:=by
  cases hx:x.op with
  |loadA g n a=>exact fun _=>rfl
  |indexA z a i=>exact fun _=>rfl
  |len a=>exact fun _=>rfl
  |_=>rw[hx]at hc;cases hc
 unfold k9 at e
 split at e
 ·split at e
  ·cases e;rfl
  ·rw[he]at e;cases e
 ·cases e;rfl
 ·cases e
theorem Ku {x:AOper}(hc:x.op.isSB=true){t:List V}{h h1:List AObj}{v:V}(e:k9 call x ⟨t,h⟩=some (v,h1)):h1=h∨∃o cs cs',h[o]? =some (.box cs)∧h1=h.set o (.box cs'):=by
 cases hx:x.op with
 |storeB n a y=>
  unfold k9 at e
  rw[hx]at e
  split at e
  ·split at e
   ·rename_i hf;cases hf
   ·simp only[cf]at e
    split at e
    ·rename_i hq
     split at e
     ·rename_i h2 hs
      cases e
      exact .inr (Nk hq hs)
     ·cases e
    ·cases e
  ·cases e;exact .inl rfl
  ·cases e
 |_=>rw[hx]at hc;cases hc
theorem D5 {x:AOper}(hc:x.op.isST=true){t:List V}{h h1 h':List AObj}{v:V}(e:k9 call x ⟨t,h⟩=some (v,h1)):h1=h∧k9 call x ⟨t,h'⟩=some (v,h'):=by
 cases hx:x.op with
 |storeT n a y=>
  unfold k9 at e⊢
  rw[nX (h:=h') (h':=h)]
  rw[hx]at e⊢
  split at e
  ·split at e
   ·rename_i hf;cases hf
   ·simp only[cf]at e
    simp only[bj,cf]
    rw[wD (x:=a) (h:=h') (h':=h),wD (x:=y) (h:=h') (h':=h)]
    split at e
    ·rename_i m hev
     split at e
     ·rename_i hq
      cases e
      refine⟨rfl,?_⟩
      simp only[hev,if_pos hq]
     ·cases e
    ·cases e
  ·cases e;exact⟨rfl,rfl⟩
  ·cases e
 |_=>rw[hx]at hc;cases hc
theorem D2 {x:AOper}{n:Nat}(hx:x.op= .allocT n){t:List V}{h:List AObj}:(∀h',k9 call x ⟨t,h'⟩=some (.one (.tp n),h'++[.tbox n]))∨(∀h',k9 call x ⟨t,h'⟩=some (.tup [],h'))∨(∀h',k9 call x ⟨t,h'⟩=none):=by
 have hw:∀h',aK ⟨t,h'⟩ x.guard=aK ⟨t,h⟩ x.guard:=fun h'=>nX
 cases q:aK ⟨t,h⟩ x.guard with
 |none=>exact .inr (.inr fun h'=>by unfold k9;rw[hw,q])
 |some b=>
  cases b with
  |true=>exact .inl fun h'=>by unfold k9;rw[hw,q,hx];rfl
  |false=>exact .inr (.inl fun h'=>by unfold k9;rw[hw,q])
theorem DY {h:List AObj}{i:Nat}{cs:List L}(hi:h[i]? =some .res)(o:Nat):aX (h.set i (.box cs)) o=aX h o:=by
 unfold aX
 by_cases q:i=o
 ·subst q
  rw[Zd (Zb.1 hi).1,hi]
 ·rw[Za q]
theorem Pl {h:List AObj}{i o:Nat}{r:Nat×List (List PV)}(hi:h[i]? =some .res)(e:aX h o=some r):o≠i:=by
 rintro rfl
 simp[aX,hi]at e
theorem R8 {h:List AObj}{i z:Nat}{cs:List L}(hi:h[i]? =some .res)(v:V):fD (h.set i (.box cs)) z v=fD h z v:=by
 unfold fD
 split<;>simp only[DY hi]
theorem To {h:List AObj}{i z:Nat}{cs:List L}(hi:h[i]? =some .res)(src:Option (Nat×List (List PV)))(v:V):m9 (h.set i (.box cs)) z src v=m9 h z src v:=by
 unfold m9
 split<;>simp only[DY hi]
theorem KV {h:List AObj}{i:Nat}{cs:List L}(hi:h[i]? =some .res)(l:L):freezeL (h.set i (.box cs)) l=(freezeL h l).set i (.box cs)∧(freezeL h l)[i]? =some .res:=by
 have hlt:=(Zb.1 hi).1
 cases l with
 |arr o=>
  by_cases q:i=o
  ·subst q
   simp only[freezeL,Zd hlt,hi]
   exact⟨trivial,trivial⟩
  ·simp only[freezeL,Za q]
   split
   ·exact⟨List.set_comm _ _ q,by rw[Za (fun e=>q e.symm)];exact hi⟩
   ·exact⟨List.set_comm _ _ q,by rw[Za (fun e=>q e.symm)];exact hi⟩
   ·exact⟨rfl,hi⟩
 |_=>exact⟨rfl,hi⟩
theorem sR {i:Nat}{cs:List L}:∀(ls:List L){h:List AObj},h[i]? =some .res→freezeLs (h.set i (.box cs)) ls=(freezeLs h ls).set i (.box cs)∧(freezeLs h ls)[i]? =some .res
 |[],h,hi=>⟨rfl,hi⟩
 |l::ls,h,hi=>by
  obtain⟨e1,e2⟩:=KV (cs:=cs) hi l
  obtain⟨e3,e4⟩:=sR (cs:=cs) ls e2
  simp only[freezeLs,List.foldl_cons]at e3 e4⊢
  rw[e1]
  exact⟨e3,e4⟩
theorem J6 {h:List AObj}{i z b:Nat}{x y:Opd}{t:List V}{cs:List L}(hi:h[i]? =some .res):cf call ⟨t,h.set i (.box cs)⟩ (.appendD z b x y)=(cf call ⟨t,h⟩ (.appendD z b x y)).map (fun q=>(q.1,q.2.set i (.box cs)))∧
 ∀q,cf call ⟨t,h⟩ (.appendD z b x y)=some q→q.2[i]? =some .res:=by
 have hlt:=(Zb.1 hi).1
 simp only[cf]
 rw[wD (x:=x) (h:=h.set i (.box cs)) (h':=h),wD (x:=y) (h:=h.set i (.box cs)) (h':=h),R8 hi]
 cases hs:fD h z (x.ev ⟨t,h⟩)with
 |none=>exact⟨rfl,fun q e=>by cases e⟩
 |some src=>
  simp only[To hi]
  cases hy:m9 h z src (y.ev ⟨t,h⟩)with
  |none=>exact⟨rfl,fun q e=>by cases e⟩
  |some ys=>
   simp only
   obtain⟨f1,f2⟩:=sR (cs:=cs) (y.ev ⟨t,h⟩).cells hi
   have hfl:i<(freezeLs h (y.ev ⟨t,h⟩).cells).length:=(Zb.1 f2).1
   have g1:bd src ((freezeLs h (y.ev ⟨t,h⟩).cells).set i (.box cs))=(bd src (freezeLs h (y.ev ⟨t,h⟩).cells)).set i (.box cs)∧(bd src (freezeLs h (y.ev ⟨t,h⟩).cells))[i]? =some .res:=by
    cases src with
    |none=>exact⟨rfl,f2⟩
    |some x0=>
     have hne:x0.1≠i:=by
      unfold fD at hs
      split at hs
      ·cases hs
      ·rename_i o _
       split at hs
       ·rename_i z' es hd
        split at hs
        ·cases hs
         exact Pl hi hd
        ·cases hs
       ·cases hs
      ·cases hs
     exact⟨List.set_comm _ _ fun e=>hne e.symm,by simp only[bd];rw[Za hne];exact f2⟩
   have hgl:i<(bd src (freezeLs h (y.ev ⟨t,h⟩).cells)).length:=(Zb.1 g1.2).1
   rw[f1,g1.1]
   split
   ·refine⟨?_,fun q e=> ?_⟩
    ·simp only[Option.map_some,Ym]
     rw[List.set_append_left _ _ hgl]
    ·cases e
     simp only
     rw[Ze hgl]
     exact g1.2
   ·exact⟨rfl,fun q e=>by cases e⟩
theorem Kr {x:AOper}{z b:Nat}{p q:Opd}(hx:x.op= .appendD z b p q){t:List V}{h:List AObj}{i:Nat}{cs:List L}(hi:h[i]? =some .res):k9 call x ⟨t,h.set i (.box cs)⟩=(k9 call x ⟨t,h⟩).map (fun y=>(y.1,y.2.set i (.box cs)))∧∀y,k9 call x ⟨t,h⟩=some y→y.2[i]? =some .res:=by
 obtain⟨e1,e2⟩:=J6 (call:=call) (z:=z) (b:=b) (x:=p) (y:=q) (t:=t) (cs:=cs) hi
 unfold k9
 rw[nX (h:=h.set i (.box cs)) (h':=h),hx]
 cases aK ⟨t,h⟩ x.guard with
 |none=>exact⟨rfl,fun y e=>by cases e⟩
 |some w=>
  cases w with
  |true=>simp only[bj];exact⟨e1,e2⟩
  |false=>exact⟨rfl,fun y e=>by cases e;exact hi⟩
theorem IV {h:List AObj}{i:Nat}{l:L}(e:(freezeL h l)[i]? =some .res):h[i]? =some .res:=by
 cases l with
 |arr o=>
  simp only[freezeL]at e
  by_cases q:o=i
  ·subst q
   split at e
   ·rename_i ho;rw[Zd (Zb.1 ho).1]at e;cases e
   ·rename_i ho;rw[Zd (Zb.1 ho).1]at e;cases e
   ·exact e
  ·split at e
   ·rwa[Za q]at e
   ·rwa[Za q]at e
   ·exact e
 |_=>exact e
theorem ro {i:Nat}:∀(ls:List L){h:List AObj},(freezeLs h ls)[i]? =some .res→h[i]? =some .res
 |[],h,e=>e
 |l::ls,h,e=>IV (ro ls (h:=freezeL h l) e)
theorem Gx {x:AOper}{z b:Nat}{p q:Opd}(hx:x.op= .appendD z b p q){t:List V}{h h1:List AObj}{v:V}{i:Nat}(e:k9 call x ⟨t,h⟩=some (v,h1))(hi:h1[i]? =some .res):h[i]? =some .res:=by
 unfold k9 at e
 split at e
 ·rw[hx]at e
  simp only[bj,cf]at e
  split at e
  ·cases e
  ·rename_i src hs
   split at e
   ·cases e
   ·split at e
    ·cases e
     by_cases hl:i<(bd src (freezeLs h (q.ev ⟨t,h⟩).cells)).length
     ·rw[Ze hl]at hi
      refine ro (q.ev ⟨t,h⟩).cells ?_
      cases src with
      |none=>exact hi
      |some x0=>
       simp only[bd]at hi hl⊢
       by_cases hq:x0.1=i
       ·rw[Ym]at hl
        rw[hq,Zd hl]at hi
        cases hi
       ·rwa[Za hq]at hi
     ·rw[Zh (by omega)]at hi
      cases hk:i-(bd src (freezeLs h (q.ev ⟨t,h⟩).cells)).length with
      |zero=>rw[hk]at hi;simp at hi
      |succ n=>rw[hk]at hi;simp at hi
    ·cases e
 ·cases e;exact hi
 ·cases e
theorem Me {h:List AObj}{i:Nat}{cs:List L}(hi:h[i]? =some .res)(l:L):l.view (h.set i (.box cs))=l.view h:=by
 cases l with
 |arr o=>
  by_cases q:i=o
  ·subst q
   simp only[L.view,Zd (Zb.1 hi).1,hi]
  ·simp only[L.view,Za q]
 |_=>rfl
theorem Ih {h:List AObj}{i:Nat}{cs:List L}(hi:h[i]? =some .res):∀ls:List L,viewL (h.set i (.box cs)) ls=viewL h ls
 |[]=>rfl
 |l::ls=>by simp only[viewL,Me hi,Ih hi ls]
theorem QA {h:List AObj}{i:Nat}{cs:List L}(hi:h[i]? =some .res)(v:V):v.view (h.set i (.box cs))=v.view h:=by
 cases v with
 |one l=>cases l<;>simp only[V.view,Me hi]
 |agg ls=>simp only[V.view,Ih hi]
 |tup vs=>rfl
theorem zP {h:List AObj}{i:Nat}{cs:List L}(hi:h[i]? =some .res):∀vs:List V,am (h.set i (.box cs)) vs=am h vs
 |[]=>rfl
 |v::vs=>by simp only[am,QA hi,zP hi vs]
theorem yB {i:Nat}{cs:List L}:∀(vs:List V){h:List AObj},h[i]? =some .res→freezeVs (h.set i (.box cs)) vs=(freezeVs h vs).set i (.box cs)∧(freezeVs h vs)[i]? =some .res
 |[],h,hi=>⟨rfl,hi⟩
 |v::vs,h,hi=>by
  obtain⟨e1,e2⟩:=sR (cs:=cs) v.cells hi
  obtain⟨e3,e4⟩:=yB (cs:=cs) vs e2
  simp only[freezeVs,List.foldl_cons]at e3 e4⊢
  rw[e1]
  exact⟨e3,e4⟩
theorem sA {i:Nat}{ob:AObj}:∀(ls:List L){h:List AObj},i<h.length→thawL (h.set i ob) ls=((thawL h ls).1,(thawL h ls).2.set i ob)∧(thawL h ls).2[i]? =h[i]? ∧i<(thawL h ls).2.length
 |[],h,hi=>⟨rfl,rfl,hi⟩
 |l::ls,h,hi=>by
  have key:∀x:AObj,thawL (h.set i ob++[x]) ls=((thawL (h++[x]) ls).1,(thawL (h++[x]) ls).2.set i ob)∧(thawL (h++[x]) ls).2[i]? =h[i]? ∧i<(thawL (h++[x]) ls).2.length:=fun x=>by
   obtain⟨e1,e2,e3⟩:=sA (i:=i) (ob:=ob) ls (h:=h++[x]) (by simp;omega)
   rw[List.set_append_left _ _ hi]at e1
   rw[Ze hi]at e2
   exact⟨e1,e2,e3⟩
  cases l with
  |own z es=>
   obtain⟨e1,e2,e3⟩:=key (.arr z es)
   simp only[thawL]
   rw[e1]
   exact⟨by simp,e2,e3⟩
  |down z es=>
   obtain⟨e1,e2,e3⟩:=key (.darr z es)
   simp only[thawL]
   rw[e1]
   exact⟨by simp,e2,e3⟩
  |_=>
   obtain⟨e1,e2,e3⟩:=sA (ob:=ob) ls hi
   simp only[thawL]
   rw[e1]
   exact⟨rfl,e2,e3⟩
theorem Ie {i:Nat}{ob:AObj}:∀(vs:List (Bool×List L)){h:List AObj},i<h.length→thawT (h.set i ob) vs=((thawT h vs).1,(thawT h vs).2.set i ob)∧(thawT h vs).2[i]? =h[i]? ∧i<(thawT h vs).2.length
 |[],h,hi=>⟨rfl,rfl,hi⟩
 |(b,ls)::vs,h,hi=>by
  obtain⟨e1,e2,e3⟩:=sA (ob:=ob) ls hi
  obtain⟨f1,f2,f3⟩:=Ie (ob:=ob) vs e3
  simp only[thawT]
  rw[e1]
  simp only
  rw[f1]
  exact⟨rfl,f2.trans e2,f3⟩
theorem LX {i:Nat}{ob:AObj}{h:List AObj}(hi:i<h.length)(r:V):thaw (h.set i ob) r=((thaw h r).1,(thaw h r).2.set i ob)∧(thaw h r).2[i]? =h[i]? :=by
 cases r with
 |one l=>
  obtain⟨e1,e2,e3⟩:=sA (ob:=ob) [l] hi
  simp only[thaw]
  rw[e1]
  cases q:thawL h [l]with
  |mk a b=>
   rw[q]at e2
   cases a with
   |nil=>exact⟨rfl,rfl⟩
   |cons x xs=>cases xs with
    |nil=>exact⟨rfl,e2⟩
    |cons _ _=>exact⟨rfl,rfl⟩
 |agg ls=>
  obtain⟨e1,e2,e3⟩:=sA (ob:=ob) ls hi
  simp only[thaw]
  rw[e1]
  exact⟨rfl,e2⟩
 |tup vs=>
  obtain⟨e1,e2,e3⟩:=Ie (ob:=ob) vs hi
  simp only[thaw]
  rw[e1]
  exact⟨rfl,e2⟩
theorem O7 {h:List AObj}{i f:Nat}{xz:List Opd}{t:List V}{cs:List L}(hi:h[i]? =some .res):cf call ⟨t,h.set i (.box cs)⟩ (.callC f xz)=(cf call ⟨t,h⟩ (.callC f xz)).map (fun q=>(q.1,q.2.set i (.box cs)))∧
 ∀q,cf call ⟨t,h⟩ (.callC f xz)=some q→q.2[i]? =some .res:=by
 have hlt:=(Zb.1 hi).1
 have hev:xz.map (Opd.ev ⟨t,h.set i (.box cs)⟩)=xz.map (Opd.ev ⟨t,h⟩):=Yf fun x _=>wD
 simp only[cf]
 rw[hev,zP hi]
 cases am h (xz.map (Opd.ev ⟨t,h⟩))with
 |none=>exact⟨rfl,fun q e=>by cases e⟩
 |some vs=>
  simp only
  cases call f vs with
  |none=>exact⟨rfl,fun q e=>by cases e⟩
  |some r=>
   simp only
   cases r.closed with
   |true=>
    simp only[if_true]
    obtain⟨e1,e2⟩:=LX (ob:= .box cs) hlt r
    refine⟨by rw[e1];rfl,fun q e=> ?_⟩
    cases e
    exact e2.trans hi
   |false=>
    simp only[Z0,if_false]
    obtain⟨f1,f2⟩:=yB (cs:=cs) (xz.map (Opd.ev ⟨t,h⟩)) hi
    obtain⟨e1,e2⟩:=LX (ob:= .box cs) (Zb.1 f2).1 r
    refine⟨by rw[f1,e1];rfl,fun q e=> ?_⟩
    cases e
    exact e2.trans f2
theorem HI {x:AOper}{f:Nat}{xz:List Opd}(hx:x.op= .callC f xz){t:List V}{h:List AObj}{i:Nat}{cs:List L}(hi:h[i]? =some .res):k9 call x ⟨t,h.set i (.box cs)⟩=(k9 call x ⟨t,h⟩).map (fun y=>(y.1,y.2.set i (.box cs)))∧∀y,k9 call x ⟨t,h⟩=some y→y.2[i]? =some .res:=by
 obtain⟨e1,e2⟩:=O7 (call:=call) (f:=f) (xz:=xz) (t:=t) (cs:=cs) hi
 unfold k9
 rw[nX (h:=h.set i (.box cs)) (h':=h),hx]
 cases aK ⟨t,h⟩ x.guard with
 |none=>exact⟨rfl,fun y e=>by cases e⟩
 |some w=>
  cases w with
  |true=>simp only[bj];exact⟨e1,e2⟩
  |false=>exact⟨rfl,fun y e=>by cases e;exact hi⟩
theorem wa {i:Nat}:∀(vs:List V){h:List AObj},(freezeVs h vs)[i]? =some .res→h[i]? =some .res
 |[],h,e=>e
 |v::vs,h,e=>ro v.cells (wa vs (h:=freezeLs h v.cells) e)
theorem nP {i:Nat}:∀(ls:List L){h:List AObj},(thawL h ls).2[i]? =some .res→h[i]? =some .res
 |[],h,e=>e
 |l::ls,h,e=>by
  have key:∀x:AObj,x≠ .res→(h++[x])[i]? =some .res→h[i]? =some .res:=fun x hx q=>by
   by_cases hl:i<h.length
   ·rwa[Ze hl]at q
   ·rw[Zh (by omega)]at q
    cases hk:i-h.length with
    |zero=>rw[hk]at q;simp at q;exact absurd q hx
    |succ n=>rw[hk]at q;simp at q
  cases l with
  |own z es=>exact key _ (by simp) (nP ls e)
  |down z es=>exact key _ (by simp) (nP ls e)
  |_=>exact nP ls e
theorem Gd {i:Nat}:∀(vs:List (Bool×List L)){h:List AObj},(thawT h vs).2[i]? =some .res→h[i]? =some .res
 |[],h,e=>e
 |(b,ls)::vs,h,e=>nP ls (Gd vs e)
theorem Qp {i:Nat}{h:List AObj}{r:V}(e:(thaw h r).2[i]? =some .res):h[i]? =some .res:=by
 cases r with
 |one l=>
  simp only[thaw]at e
  split at e
  ·rename_i l' h' q
   have:=nP [l] (h:=h) (i:=i)
   rw[q]at this
   exact this e
  ·exact e
 |agg ls=>exact nP ls e
 |tup vs=>exact Gd vs e
theorem D3 {x:AOper}{f:Nat}{xz:List Opd}(hx:x.op= .callC f xz){t:List V}{h h1:List AObj}{v:V}{i:Nat}(e:k9 call x ⟨t,h⟩=some (v,h1))(hi:h1[i]? =some .res):h[i]? =some .res:=by
 unfold k9 at e
 split at e
 ·rw[hx]at e
  simp only[bj,cf]at e
  split at e
  ·split at e
   ·rename_i r hr
    simp only[Option.some.injEq]at e
    have hq:(thaw (if r.closed=true then h else freezeVs h (xz.map (Opd.ev ⟨t,h⟩))) r).2[i]? =some .res:=by rw[e];exact hi
    have:=Qp hq
    split at this
    ·exact this
    ·exact wa _ this
   ·cases e
  ·cases e
 ·cases e;exact hi
 ·cases e
theorem qE {x:AOper}{i:Nat}{zero:List L}(hx:x.op= .allocAt i zero){t:List V}{h h1:List AObj}{v:V}(e:k9 call x ⟨t,h⟩=some (v,h1)):
 (h[i]? =some .res∧v= .one (.ptr i 0 0)∧h1=h.set i (.box zero)∧∀h',h'[i]? =some .res→k9 call x ⟨t,h'⟩=some (v,h'.set i (.box zero)))∨(h1=h∧∀h',k9 call x ⟨t,h'⟩=some (v,h')):=by
 have hw:∀h',aK ⟨t,h'⟩ x.guard=aK ⟨t,h⟩ x.guard:=fun h'=>nX
 cases q:aK ⟨t,h⟩ x.guard with
 |none=>unfold k9 at e;rw[q]at e;cases e
 |some b=>
  cases b with
  |true=>
   unfold k9 at e
   rw[q,hx]at e
   simp only[bj,cf]at e
   split at e
   ·rename_i hi
    cases e
    refine .inl ⟨hi,rfl,rfl,fun h' hi'=> ?_⟩
    unfold k9
    rw[hw,q,hx]
    simp only[bj,cf,hi']
   ·cases e
  |false=>
   unfold k9 at e
   rw[q]at e
   cases e
   exact .inr ⟨rfl,fun h'=>by unfold k9;rw[hw,q]⟩
theorem Qh {h h':List AObj}{n:Nat}{x v:V}(q:bO h x=true)(e:bv h n x v=some h'):∃o i j cs cs',x= .one (.ptr o i j)∧h[o]? =some (.box cs)∧h'=h.set o (.box cs'):=by
 simp only[bv]at e
 split at e
 ·split at e
  ·rename_i o i j
   split at e
   ·rename_i cs ho
    split at e
    ·cases e;exact⟨o,i,j,cs,_,rfl,ho,rfl⟩
    ·cases e
   ·rename_i z es ho
    simp[bO,ho]at q
   ·cases e
  ·cases e
 ·cases e
theorem ID {x y:AOper}{g:Bool}{n m r:Nat}{a w:Opd}(hx:x.op= .loadN g n a r)(hy:y.op= .storeB m (.tmp r) w){t:List V}{h h1:List AObj}{u:V}(e:k9 call y ⟨t,h⟩=some (u,h1)):
 (∀{hh:List AObj}{v:V}{h2:List AObj},k9 call x ⟨t,hh⟩=some (v,h2)→h2=hh)∧k9 call x ⟨t,h1⟩=(k9 call x ⟨t,h⟩).map fun q=>(q.1,h1):=by
 have hs:∀{hh:List AObj}{v:V}{h2:List AObj},k9 call x ⟨t,hh⟩=some (v,h2)→h2=hh:=by
  intro hh v h2 e
  unfold k9 at e
  rw[hx]at e
  split at e
  ·split at e
   ·cases e;rfl
   ·cases e
  ·cases e;rfl
  ·cases e
 refine⟨hs,?_⟩
 have key:bj call ⟨t,h1⟩ x.op=bj call ⟨t,h⟩ x.op:=by
  unfold k9 at e
  rw[hy]at e
  split at e
  ·split at e
   ·rename_i hf;cases hf
   ·simp only[cf]at e
    split at e
    ·rename_i hq
     split at e
     ·rename_i h2 hst
      cases e
      obtain⟨o,i,j,cs,cs',ho,hb,rfl⟩:=Qh hq hst
      rw[hx]
      simp only[bj]
      rw[wD (x:=a) (h:=h.set o (.box cs')) (h':=h),wD (x:= .tmp r) (h:=h.set o (.box cs')) (h':=h),ho]
      cases hv:a.ev ⟨t,h⟩with
      |one l=>
       cases l with
       |ptr i' b c=>
        simp only[zR]
        by_cases q:i'=o
        ·simp[q]
        ·have q2:(h.set o (AObj.box cs'))[i']? =h[i']? :=Za (Ne.symm q)
         simp only[bo,q2]
         rfl
       |_=>rfl
      |_=>rfl
     ·cases e
    ·cases e
  ·cases e;rfl
  ·cases e
 unfold k9
 rw[nX (h:=h1) (h':=h)]
 cases aK ⟨t,h⟩ x.guard with
 |none=>rfl
 |some b=>
  cases b with
  |false=>rfl
  |true=>
   simp only
   rw[key,hx]
   cases bj call ⟨t,h⟩ (.loadN g n a r)<;>rfl
theorem Mv {nb:Bool}{x y:AOper}(hc:Ki nb x y=true){σ σ1 σ2:St}(h1:az call x σ=some σ1)(h2:az call y σ1=some σ2):∃σ3,az call y σ=some σ3∧az call x σ3=some σ2:=by
 obtain⟨t,h⟩:=σ
 simp only[Ki,Zm,Bool.or_eq_true,beq_iff_eq,Nat.ble_eq]at hc
 obtain⟨hap,hcc⟩:=hc
 rw[BB,Zj]at h1 h2
 obtain⟨⟨v,hv⟩,e1,rfl⟩:=h1
 obtain⟨⟨u,hu⟩,e2,rfl⟩:=h2
 simp only at e1 e2
 rw[NU hap]at e2
 have fin:∀{h3:List AObj},k9 call y ⟨t,h⟩=some (u,h3)→k9 call x ⟨t,h3⟩=some (v,hu)→∃σ3,az call y ⟨t,h⟩=some σ3∧az call x σ3=some ⟨put (put t x.dst v) y.dst u,hu⟩:=by
  intro h3 q1 q2
  refine⟨⟨put t y.dst u,h3⟩,by rw[BB,q1];rfl,?_⟩
  rw[BB,NU (J4 hap),q2,RU hap]
  rfl
 rcases hcc with((((((((((hx|hy)|⟨hx,hy⟩)|⟨hx,hy⟩)|⟨hx,hy⟩)|⟨hx,hy⟩)|⟨hx,hy⟩)|hx)|hy)|hxy)|hxy)|hxy
 ·obtain⟨rfl,_⟩:=D6 (h':=h) hx e1
  exact fin e2 (D6 hx e1).2
 ·obtain⟨rfl,q⟩:=D6 (h':=h) hy e2
  exact fin q e1
 ·obtain⟨rfl,_⟩:=Kv hx (nc.refl _) e1
  exact fin e2 (Kv hx (TZ hy e2) e1).2
 ·obtain⟨rfl,_⟩:=D4 hx (cR.refl _) e1
  exact fin e2 (D4 hx (HJ hy e2) e1).2
 ·obtain⟨rfl,q⟩:=D4 hy (HJ hx e1).symm e2
  exact fin q e1
 ·obtain rfl:=qR hx e1
  refine fin e2 ?_
  rcases Ku hy e2 with rfl|⟨o,cs,cs',ho,rfl⟩
  ·exact e1
  ·rw[Kt hx ho,e1]
   rfl
 ·rcases Ku hx e1 with rfl|⟨o,cs,cs',ho,rfl⟩
  ·obtain rfl:=qR hy e2
   exact fin e2 e1
  ·rw[Kt hy ho,Zj]at e2
   obtain⟨⟨u',h3⟩,q1,q2⟩:=e2
   obtain rfl:=qR hy q1
   cases q2
   exact fin q1 e1
 ·obtain⟨rfl,_⟩:=D5 (h':=h) hx e1
  exact fin e2 (D5 hx e1).2
 ·obtain⟨rfl,q⟩:=D5 (h':=h) hy e2
  exact fin q e1
 ·unfold R5 at hxy
  split at hxy
  ·rename_i n m hx hy
   have hnm:n=m:=by simpa using hxy
   subst hnm
   rcases D2 (call:=call) hx (t:=t) (h:=h)with p|p|p
   ·rw[p]at e1
    cases e1
    rcases D2 (call:=call) hy (t:=t) (h:=h)with q|q|q
    ·rw[q]at e2
     cases e2
     exact fin (q h) (p _)
    ·rw[q]at e2
     cases e2
     exact fin (q h) (p _)
    ·rw[q]at e2;cases e2
   ·rw[p]at e1
    cases e1
    exact fin e2 (p _)
   ·rw[p]at e1;cases e1
  ·cases hxy
 ·unfold TH at hxy
  split at hxy
  ·rename_i i zero z b p q hx hy
   rcases qE hx e1 with⟨hi,rfl,rfl,hall⟩|⟨rfl,hall⟩
   ·obtain⟨a1,a2⟩:=Kr (call:=call) hy (t:=t) (cs:=zero) hi
    rw[a1,Zj]at e2
    obtain⟨⟨u',h3⟩,q1,q2⟩:=e2
    cases q2
    exact fin q1 (hall _ (a2 _ q1))
   ·exact fin e2 (hall _)
  ·rename_i z b p q i zero hx hy
   rcases qE hy e2 with⟨hi,rfl,rfl,hall⟩|⟨rfl,hall⟩
   ·have hi0:h[i]? =some .res:=Gx hx e1 hi
    obtain⟨a1,a2⟩:=Kr (call:=call) hx (t:=t) (cs:=zero) hi0
    exact fin (hall _ hi0) (by rw[a1,e1];rfl)
   ·exact fin (hall _) e1
  ·rename_i i zero f xz hx hy
   rcases qE hx e1 with⟨hi,rfl,rfl,hall⟩|⟨rfl,hall⟩
   ·obtain⟨a1,a2⟩:=HI (call:=call) hy (t:=t) (cs:=zero) hi
    rw[a1,Zj]at e2
    obtain⟨⟨u',h3⟩,q1,q2⟩:=e2
    cases q2
    exact fin q1 (hall _ (a2 _ q1))
   ·exact fin e2 (hall _)
  ·rename_i f xz i zero hx hy
   rcases qE hy e2 with⟨hi,rfl,rfl,hall⟩|⟨rfl,hall⟩
   ·have hi0:h[i]? =some .res:=D3 hx e1 hi
    obtain⟨a1,a2⟩:=HI (call:=call) hx (t:=t) (cs:=zero) hi0
    exact fin (hall _ hi0) (by rw[a1,e1];rfl)
   ·exact fin (hall _) e1
  ·cases hxy
 ·unfold UQ at hxy
  split at hxy
  ·rename_i g n a r m t' w hx hy
   obtain rfl:r=t':=by simpa using hxy
   obtain rfl:=(ID hx hy e2).1 e1
   exact fin e2 (by rw[(ID hx hy e2).2,e1];rfl)
  ·rename_i m t' w g n a r hx hy
   obtain rfl:r=t':=by simpa using hxy
   rw[(ID hy hx e1).2,Zj]at e2
   obtain⟨⟨u',h3⟩,q1,q2⟩:=e2
   obtain rfl:=(ID hy hx e1).1 q1
   cases q2
   exact fin q1 e1
  ·cases hxy
inductive Anc (ops:Array Oper) (listed:Array Bool) (k:Nat):Nat→Prop
 |dir {i:Nat} {o:Oper} {e:Edge}:ops[i]? =some o→e∈o.after→Region.binds .any e=true→listed.getD e.on true=false→e.on=k→Anc ops listed k i
 |via {i:Nat} {o:Oper} {e:Edge}:ops[i]? =some o→e∈o.after→Region.binds .any e=true→listed.getD e.on true=false→Anc ops listed k e.on→Anc ops listed k i
theorem wm {ops:Array Oper}{listed:Array Bool}{j:Nat}(hj:j∈Region.ready .any ops listed){o:Oper}{e:Edge}(ho:ops[j]? =some o)(he:e∈o.after)(hb:Region.binds .any e=true)(hu:listed.getD e.on true=false):False:=by
 obtain⟨_,o',ho',hall⟩:=mem_ready.1 hj
 rw[ho]at ho';cases ho'
 have h1:=hall e he hb
 rcases Nat.lt_or_ge e.on listed.size with h'|h'
 ·simp[h']at hu h1;rw[hu]at h1;cases h1
 ·simp[Y7 h']at h1
theorem wl {ops:Array Oper}{listed:Array Bool}{k j:Nat}(hj:j∈Region.ready .any ops listed)(h:Anc ops listed k j):False:=by
 cases h with
 |dir ho he hb hu _=>exact wm hj ho he hb hu
 |via ho he hb hu _=>exact wm hj ho he hb hu
theorem QO {ops:Array Oper}{listed:Array Bool}{k j:Nat}(hj:j∈Region.ready .any ops listed)(hjk:j≠k){i:Nat}(h:Anc ops listed k i):Anc ops (listed.setIfInBounds j true) k i:=by
 induction h with
 |dir ho he hb hu hk=>exact .dir ho he hb (by rw[hk]at hu⊢;rw[getD_set_ne true hjk];exact hu) hk
 |via ho he hb hu ha ih=>
  rename_i i o e
  by_cases q:j=e.on
  ·exact(wl (q▸hj) ha).elim
  ·exact .via ho he hb (by rw[getD_set_ne true q];exact hu) ih
theorem DF {ops:Array Oper}{listed:Array Bool}{k:Nat}:∀(l:List Oper)(acc:Array Bool),(∀j,l[j]? =ops[acc.size+j]?)→(∀i,acc.getD i false=true→Anc ops listed k i)→∀i,(OV listed k l acc).getD i false=true→Anc ops listed k i
 |[],acc,_,ha,i,h=>ha i h
 |o::l,acc,hl,ha,i,h=>by
  simp only[OV]at h
  refine DF l _ (fun j=> ?_) (fun i hi=> ?_) i h
  ·have:=hl (j+1)
   simp only[Xg]at this
   rw[this,Array.size_push]
   congr 1
   omega
  ·by_cases q:i<acc.size
   ·refine ha i ?_
    simp only[Array.getD_eq_getD_getElem?]at hi⊢
    rwa[Array.getElem?_push_lt q,←Array.getElem?_eq_getElem q]at hi
   ·by_cases q2:i=acc.size
    ·subst q2
     simp only[Array.getD_eq_getD_getElem?,Array.getElem?_push_size,Y2,Array.any_eq_true]at hi
     obtain⟨x,hx,hq⟩:=hi
     simp only[Zm,Yk,Bool.or_eq_true,beq_iff_eq]at hq
     obtain⟨⟨hb,hu⟩,hq⟩:=hq
     have ho:ops[acc.size]? =some o:=by simpa using(hl 0).symm
     rcases hq with hk|hk
     ·exact .dir ho (Array.getElem_mem hx) hb (by simpa using hu) hk
     ·exact .via ho (Array.getElem_mem hx) hb (by simpa using hu) (ha _ (by simpa using hk))
    ·rw[Array.getD_eq_getD_getElem?,Y7 (by simp;omega)]at hi
     simp at hi
def Cb (call:Nat→List V→Option V)(oos:List AOper)(i:Nat)(σ:St):Option St:=
 match oos[i]? with
 |none=>some σ
 |some oo=>az call oo σ
def zr (call:Nat→List V→Option V)(oos:List AOper):List Nat→St→Option St
 |[],σ=>some σ
 |i::l,σ=>match Cb call oos i σ with
  |some σ'=>zr call oos l σ'
  |none=>none
def QN (call:Nat→List V→Option V)(ops:Array Oper)(oos:List AOper)(σ₁:St):Nat→Array Bool→St→Prop
 |0,listed,σ=>Region.ready .any ops listed=[]∧σ=σ₁
 |fuel+1,listed,σ=>(Region.ready .any ops listed=[]→σ=σ₁)∧∀i∈Region.ready .any ops listed,∃σ',Cb call oos i σ=some σ'∧QN call ops oos σ₁ fuel (listed.setIfInBounds i true) σ'
theorem Mi {ops:Array Oper}{oos:List AOper}{σ₁:St}:∀(fuel t:Nat)(listed:Array Bool)(σ:St),QN call ops oos σ₁ fuel listed σ→zr call oos (Region.linearise.go .any ops fuel t listed []) σ=some σ₁:=by
 intro fuel
 induction fuel with
 |zero=>intro t listed σ h;simpa[Region.linearise.go,zr]using h.2
 |succ fuel ih=>
  intro t listed σ h
  obtain⟨h₀,h₁⟩:=h
  simp only[Region.linearise.go]
  change zr call oos (match(Region.ready .any ops listed)[t%(Region.ready .any ops listed).length]? with
   |some i=>Region.linearise.go .any ops fuel (t/(Region.ready .any ops listed).length) (listed.setIfInBounds i true) [i]
   |none=>[].reverse) σ=some σ₁
  cases hi:(Region.ready .any ops listed)[t%(Region.ready .any ops listed).length]? with
  |none=>
   have hnil:Region.ready .any ops listed=[]:=by
    cases hr:Region.ready .any ops listed with
    |nil=>rfl
    |cons x xs=>
     rw[hr]at hi
     have hlt:t%(x::xs).length<(x::xs).length:=Nat.mod_lt _ (by simp)
     simp at hi
     simp at hlt
     omega
   simp[zr,h₀ hnil]
  |some i=>
   simp only[]
   rw[linearise_go_acc,List.reverse_singleton,List.singleton_append]
   obtain⟨σ',e1,e2⟩:=h₁ i (Zk hi)
   simp only[zr,e1]
   exact ih _ _ _ e2
theorem Mh {nb:Bool}{ops:Array Oper}{oos:List AOper}{σ₁:St}(hlen:oos.length=ops.size){i:Nat}{oi:AOper}(hi:oos[i]? =some oi):
 ∀(fuel:Nat)(listed:Array Bool)(σ σ':St),(∀j oj,oos[j]? =some oj→j≠i→listed.getD j true=false→¬Anc ops listed i j→Ki nb oi oj=true)→
  i∈Region.ready .any ops listed→az call oi σ=some σ'→QN call ops oos σ₁ fuel (listed.setIfInBounds i true) σ'→QN call ops oos σ₁ (fuel+1) listed σ:=by
 have stepi:∀{σ σ':St},az call oi σ=some σ'→Cb call oos i σ=some σ':=fun{σ σ'}h=>by
  simp only[Cb,hi,h]
 intro fuel
 induction fuel with
 |zero=>
  intro listed σ σ' _ hr hy H
  refine⟨fun h=>(by rw[h]at hr;cases hr),fun j hj=> ?_⟩
  by_cases hji:j=i
  ·subst hji;exact⟨_,stepi hy,H⟩
  ·have:=ready_mono (md:= .any) hj hji
   rw[H.1]at this
   cases this
 |succ fuel ih=>
  intro listed σ σ' hfree hr hy H
  refine⟨fun h=>(by rw[h]at hr;cases hr),fun j hj=> ?_⟩
  by_cases hji:j=i
  ·subst hji;exact⟨_,stepi hy,H⟩
  ·obtain⟨σj,e1,e2⟩:=H.2 j (ready_mono hj hji)
   obtain⟨hjun,o,ho,hall⟩:=mem_ready.1 hj
   have hjl:j<oos.length:=by rw[hlen];exact(Y6.1 ho).1
   have hoj:oos[j]? =some oos[j]:=by simp[hjl]
   have hc:=hfree j _ hoj hji hjun (fun h=>wl hj h)
   simp only[Cb,hoj]at e1
   obtain⟨σ3,q1,q2⟩:=Mv hc hy e1
   refine⟨σ3,by simp only[Cb,hoj,q1],?_⟩
   refine ih (listed.setIfInBounds j true) σ3 σj (fun k ok hk hki hun hno=> ?_) (ready_mono hr (Ne.symm hji)) q2 ?_
   ·refine hfree k ok hk hki ?_ (fun h=>hno (QO hj hji h))
    by_cases hjk:j=k
    ·subst hjk;exact hjun
    ·rw[getD_set_ne true hjk]at hun;exact hun
   ·rw[Array.setIfInBounds_comm _ _ hji]
    exact e2
theorem PH {nb:Bool}{ops:Array Oper}{oos:List AOper}{listed:Array Bool}{k:Nat}{ok:AOper}(hk:oos[k]? =some ok)(h:Rn nb ops oos listed k=true):
 ∀j oj,oos[j]? =some oj→j≠k→listed.getD j true=false→¬Anc ops listed k j→Ki nb ok oj=true:=by
 intro j oj hj hne hun hw
 have hjl:j<oos.length:=(Zb.1 hj).1
 simp only[Rn,Zw,List.mem_range]at h
 have:=h j hjl
 have ha:(OV listed k ops.toList #[]).getD j false=false:=by
  cases q:(OV listed k ops.toList #[]).getD j false with
  |false=>rfl
  |true=>exact(hw (DF ops.toList #[] (fun j=>by simp) (fun i hi=>by simp at hi) j q)).elim
 simp only[hk,hj,hun,ha,Bool.or_false,Bool.or_eq_true,beq_iff_eq,hne,false_or]at this
 exact this
theorem J3 {nb:Bool}{ops:Array Oper}{oos:List AOper}{σ₁:St}(hlen:oos.length=ops.size):∀(l:List AOper)(k:Nat)(listed:Array Bool)(σ:St),(∀j,l[j]? =oos[k+j]?)→
 mQ nb ops oos l.length k listed=true→ai call l σ=some σ₁→QN call ops oos σ₁ l.length listed σ
 |[],_,_,_,_,hB,h=>⟨by simpa[mQ]using hB,by simpa[ai]using h⟩
 |o::l,k,listed,σ,hl,hB,h=>by
  have h0:oos[k]? =some o:=by simpa using(hl 0).symm
  simp only[Zn,mQ,Zm]at hB
  obtain⟨⟨hr,hf⟩,hB'⟩:=hB
  unfold ai at h
  split at h
  ·rename_i σ' he
   exact Mh hlen h0 l.length listed σ σ' (PH h0 hf) (by simpa using hr) he
    (J3 hlen l (k+1) _ _ (fun j=>by have:=hl (j+1);simpa[Xj,Nat.add_comm 1 j]using this) hB' h)
  ·cases h
theorem vf (ok:CallOK Γ P kf call){ops:Array Oper}{d:Md}{oos:List AOper}(hc:fy (vZ P kf d ops) ops.toList=some oos){Q:Exit→Act→World→Prop}:∀{l:List Nat}{σ σ':St}{a:Act}{w:World}{ρ:List (Option Nat)},SX Γ z O base w0 ρ0 h0 σ a w ρ→(z=true→∀oo∈oos,oo.op.noZ=true)→
 zr call oos l σ=some σ'→(∀a' w' ρ',SX Γ z O base w0 ρ0 h0 σ' a' w' ρ'→Q .normal a' w')→wpOps P ops Q l a w
 |[],σ,σ',a,w,ρ,s,hz,he,hQ=>by
  simp[zr]at he;subst he
  exact hQ a w ρ s
 |i::l,σ,σ',a,w,ρ,s,hz,he,hQ=>by
  simp only[zr]at he
  split at he
  ·rename_i σ1 he1
   rw[wpOps_cons]
   unfold wpOp
   cases ho:ops[i]? with
   |none=>
    have:oos[i]? =none:=by
     have hl:=eT hc
     have:¬i<ops.size:=by intro hlt;simp[hlt]at ho
     exact Yt (by rw[hl];simp;omega)
    simp only[Cb,this]at he1
    cases he1
    exact vf ok hc s hz he hQ
   |some o=>
    obtain⟨oo,hoo,hco⟩:=ib hc i o (by simpa using ho)
    simp only[Cb,hoo]at he1
    have key:=Cc (Q:=Q) ok s (fun h=>hz h oo (Zk hoo)) hco he1 (K:=wpOps P ops Q l) (fun a' w' ρ' s'=>vf ok hc s' hz he hQ)
    simp only
    split
    ·rename_i hw;rw[if_pos hw]at key;exact .inl key
    ·rename_i hw;rw[if_neg hw]at key;exact key
  ·cases he
theorem Rc (s:SR Γ M0 base σ a w ρ):SR Γ M0 base σ a {w with drawn:=w.drawn+1} ρ:=by
 obtain⟨k1,c1⟩:=s.hr.world (w':={w with drawn:=w.drawn+1}) (Zl _) (fun _ _=>rfl)
 exact⟨k1,s.fr.ch c1,Γ.keep _ _ s.inv ⟨rfl,rfl,rfl,Zl _,fun _ _=>rfl⟩,s.b0⟩
theorem Re (s:SX Γ z O base w0 ρ0 h0 σ a w ρ):SX Γ z O base w0 ρ0 h0 σ a {w with drawn:=w.drawn+1} ρ:=by
 obtain⟨M0,i1,i2,s1,b1,c1⟩:=s
 obtain⟨_,c2⟩:=s1.hr.world (w':={w with drawn:=w.drawn+1}) (Zl _) (fun _ _=>rfl)
 exact⟨M0,i1,i2,Rc s1,b1.trans ⟨rfl,rfl,rfl,Zl _,fun _ _=>rfl⟩,c1.trans c2⟩
def QE [KF](Γ:Ctx)(z:Bool)(O:Nat→Prop)(base:Nat)(w0:World)(ρ0:List (Option Nat))(h0:List AObj)(e:Ex)(σ':St)(Q:Exit→Act→World→Prop):Prop:=
 ∀a' w' ρ',SX Γ z O base w0 ρ0 h0 σ' a' w' ρ'→Q (match e with| .normal=> .normal| .exit id=> .exit id| .ret=> .ret) a' w'
theorem DX (ok:CallOK Γ P kf call)(hm:P.follows .mixedOrders=true)(n:Nat){dt dp zn:Bool}{zl tr:List Nat}:∀(c:Code){ac:ACode}{σ σ':St}{e:Ex}{a:Act}{w:World}{ρ:List (Option Nat)}{Q:Exit→Act→World→Prop},qC P kf dt dp zn zl tr c=some ac→(z=true→ac.noZ=true)→
 aq call (eI n) ac σ=some (e,σ')→SX Γ z O base w0 ρ0 h0 σ a w ρ→QE Γ z O base w0 ρ0 h0 e σ' Q→c.wp P Q a w:=by
 intro c
 induction c with
 |skip=>
  intro ac σ σ' e a w ρ Q hc hz he s hQ
  cases hc
  simp only[aq]at he;cases he
  exact wp_skip (hQ a w ρ s)
 |region id ops draw=>
  intro ac σ σ' e a w ρ Q hc hz he s hQ
  simp only[qC]at hc
  split at hc
  ·rename_i oos hoos
   have hrun:∀{oos:List AOper}{σ2},aq call (eI n) (.region oos) σ=some (e,σ2)→ai call oos σ=some σ2∧e= .normal:=by
    intro oos σ2 h
    simp only[aq]at h
    split at h
    ·rename_i σ3 h3;cases h;exact⟨h3,rfl⟩
    ·cases h
   have drw:∀{nb:Bool}{md:Md}{oos:List AOper},fy (vZ P kf md ops) ops.toList=some oos→mQ nb ops oos ops.size 0 (Array.replicate ops.size false)=true→∀{σ2},ai call oos σ=some σ2→
    (z=true→(ACode.region oos).noZ=true)→QE Γ z O base w0 ρ0 h0 .normal σ2 Q→(Code.region id ops true).wp P Q a w:=by
    intro nb md oos hoos hchk σ2 hx hz hQ
    have hlen:oos.length=ops.size:=by rw[eT hoos];simp
    refine wp_region_draw fun t=> ?_
    simp only[Region.schedule,hm,Bool.true_or,if_true]
    have hany:=J3 hlen oos 0 (Array.replicate ops.size false) σ (by simp) (by rw[hlen];exact hchk) hx
    rw[hlen]at hany
    have hr:=Mi ops.size t _ σ hany
    exact vf ok hoos (Re s) (fun h=>Zw.1 (hz h)) hr hQ
   split at hc
   ·rename_i hd
    subst hd
    split at hc
    ·rename_i hchk
     cases hc
     obtain⟨hx,rfl⟩:=hrun he
     exact drw hoos hchk hx hz hQ
    ·split at hc
     ·rename_i oos' oos2 hoos' hoos2
      split at hc
      ·rename_i hchk
       cases hc
       obtain⟨hx,rfl⟩:=hrun he
       exact drw hoos' hchk hx hz hQ
      ·split at hc
       ·rename_i hchk
        cases hc
        obtain⟨hx,rfl⟩:=hrun he
        exact drw hoos2 hchk hx hz hQ
       ·split at hc
        ·rename_i oos3 hoos3
         split at hc
         ·rename_i hchk
          cases hc
          obtain⟨hx,rfl⟩:=hrun he
          exact drw hoos3 hchk hx hz hQ
         ·cases hc
        ·cases hc
     ·cases hc
   ·rename_i hd
    cases hc
    obtain⟨hx,rfl⟩:=hrun he
    have:draw=false:=by simpa using hd
    subst this
    exact wp_region_list (HT ok s (fun h=>Zw.1 (hz h)) hoos hx hQ)
  ·cases hc
 |seq x y ihx ihy=>
  intro ac σ σ' e a w ρ Q hc hz he s hQ
  simp only[qC]at hc
  split at hc
  ·rename_i ax ay hx hy
   cases hc
   simp only[aq]at he
   refine wp_seq ?_
   split at he
   ·rename_i σ1 he1
    exact ihx hx (fun h=>(Zm _ _▸hz h).1) he1 s (fun a' w' ρ' s'=>ihy hy (fun h=>(Zm _ _▸hz h).2) he s' hQ)
   ·rename_i hne
    refine ihx hx (fun h=>(Zm _ _▸hz h).1) he s (fun a' w' ρ' s'=> ?_)
    cases e with
    |normal=>exact absurd he (hne σ')
    |exit id=>exact hQ a' w' ρ' s'
    |ret=>exact hQ a' w' ρ' s'
  ·cases hc
 |cond c x y ihx ihy=>
  intro ac σ σ' e a w ρ Q hc hz he s hQ
  simp only[qC]at hc
  split at hc
  ·rename_i oc ax ay h1 hx hy
   cases hc
   simp only[aq]at he
   split at he
   ·rename_i t ht
    have hb:a.eval c= .bool t:=by
     obtain⟨M0,_,_,s1,_,_⟩:=s
     exact(aw s1 h1).bool ht
    refine wp_cond hb ?_
    cases t with
    |true=>exact ihx hx (fun h=>(Zm _ _▸hz h).1) he s hQ
    |false=>exact ihy hy (fun h=>(Zm _ _▸hz h).2) he s hQ
   ·cases he
  ·cases hc
 |block id c ih=>
  intro ac σ σ' e a w ρ Q hc hz he s hQ
  simp only[qC,Zj]at hc
  obtain⟨ax,hx,rfl⟩:=hc
  simp only[aq]at he
  refine wp_block ?_
  split at he
  ·rename_i i σ1 he1
   refine ih hx hz he1 s (fun a' w' ρ' s'=> ?_)
   simp only[Exit.inBlock]
   split at he
   ·rename_i e1;cases he;rw[if_pos e1];exact hQ a' w' ρ' s'
   ·rename_i e1;cases he;rw[if_neg e1];exact hQ a' w' ρ' s'
  ·rename_i hne
   refine ih hx hz he s (fun a' w' ρ' s'=> ?_)
   cases e with
   |normal=>exact hQ a' w' ρ' s'
   |exit i=>exact absurd he (hne i σ')
   |ret=>exact hQ a' w' ρ' s'
 |loop c ih=>
  intro ac σ σ' e a w ρ Q hc hz he s hQ
  simp only[qC,Zj]at hc
  obtain⟨ax,hx,rfl⟩:=hc
  simp only[aq]at he
  refine wp_loop_ghost (fun k a1 w1=>∃σ1 ρ1,SX Γ z O base w0 ρ0 h0 σ1 a1 w1 ρ1∧eI k (aq call (eI n) ax) σ1=some (e,σ')) n ⟨σ,ρ,s,he⟩ ?_
  intro k a1 w1 ⟨σ1,ρ1,s1,he1⟩
  cases k with
  |zero=>simp[eI]at he1
  |succ k=>
   simp only[eI]at he1
   split at he1
   ·rename_i σ2 he2
    refine ih hx hz he2 s1 (fun a' w' ρ' s'=> ?_)
    exact⟨k,Nat.lt_succ_self k,σ2,ρ',s',he1⟩
   ·rename_i hne
    refine ih hx hz he1 s1 (fun a' w' ρ' s'=> ?_)
    cases e with
    |normal=>exact absurd he1 (hne σ')
    |exit id=>exact hQ a' w' ρ' s'
    |ret=>exact hQ a' w' ρ' s'
 |exit id=>
  intro ac σ σ' e a w ρ Q hc hz he s hQ
  cases hc
  simp only[aq]at he;cases he
  exact wp_exit (hQ a w ρ s)
 |ret=>
  intro ac σ σ' e a w ρ Q hc hz he s hQ
  cases hc
  simp only[aq]at he;cases he
  exact wp_ret (hQ a w ρ s)
 |_=>
  intro ac σ σ' e a w ρ Q hc
  cases hc
structure Impl [KI:KF] (Γ:Ctx) (P:Program) (kf:FuncId→Option Nat) (Φ:Nat→Option AFn) (ext:Nat→List V→Option V):Prop where
 prog:KI.pr=P
 mixed:P.follows .mixedOrders=true
 fns:∀f k,kf f=some k→(∃fn af,P.funcs[f]? =some fn∧UC P kf k fn=some af∧Φ k=some af)∨
  (Φ k=none∧(∃fn,P.funcs[f]? =some fn∧fn.body.isNone=false∧(fn.name== "runtime.NumGoroutine")=false)∧∀xz r,ext k xz=some r→xQ Γ P f xz r)
 small:∀f k,kf f=some k→k<hZ∧Φ (k+hZ)=none∧Φ (k+2*hZ)=none
 ins:∀f k fn t e z b,kf f=some k→P.funcs[f]? =some fn→fn.origin= "slices.Insert" →fn.params.toList.head? =some t→gJ P t=some e→o7 P e=some z→NQ P e=some b→Ht P f z b
 del:∀f k fn t e z,kf f=some k→P.funcs[f]? =some fn→fn.origin= "slices.DeleteFunc" →fn.params.toList.head? =some t→gJ P t=some e→o7 P e=some z→TO Γ P f z
 dlr:∀f k fn t e z,kf f=some k→P.funcs[f]? =some fn→fn.origin= "slices.Delete" →fn.params.toList.head? =some t→gJ P t=some e→o7 P e=some z→QI P f z
theorem Impl.there {Φ:Nat→Option AFn}{ext:Nat→List V→Option V}(im:Impl Γ P kf Φ ext):∀f k,kf f=some k→∃fn,P.funcs[f]? =some fn∧fn.body.isNone=false∧(fn.name== "runtime.NumGoroutine")=false:=by
 intro f k hk
 rcases im.fns f k hk with⟨fn,af,h1,h2,h3⟩|⟨_,h,_⟩
 ·refine⟨fn,h1,?_,?_⟩
  ·rw[Iw]at h2
   split at h2
   ·rename_i c hb;rw[hb];rfl
   ·cases h2
  ·rw[Iw]at h2
   split at h2
   ·split at h2
    ·split at h2
     ·cases h2
     ·rename_i hn;simpa using hn
    ·cases h2
   ·cases h2
 ·exact h
theorem LR.weak {M M':Nat→Prop}{h:List AObj}(mu:∀b,M' b→M b){l:L}{v:Value}(r:LR M w ρ h l v):LR M' w ρ h l v:=
 r.ch (M':=M') ⟨⟨Zl _,fun b _ hm=>mu b hm,fun _ _ _=>rfl⟩,fun _ cur hr=>⟨cur,hr,rfl⟩,fun _ _ ob hr ho _=>⟨ob,hr,ho,qQ.refl ob⟩,fun _ _ _ _ _ _ _ _ _ h=>h⟩
theorem VR.weak {M M':Nat→Prop}{h:List AObj}(mu:∀b,M' b→M b){x:V}{v:Value}(r:VR M w ρ h x v):VR M' w ρ h x v:=
 r.ch (M':=M') ⟨⟨Zl _,fun b _ hm=>mu b hm,fun _ _ _=>rfl⟩,fun _ cur hr=>⟨cur,hr,rfl⟩,fun _ _ ob hr ho _=>⟨ob,hr,ho,qQ.refl ob⟩,fun _ _ _ _ _ _ _ _ _ h=>h⟩
theorem vD.less {M M':Nat→Prop}{b0:Nat}{r:V}{v:Value}(hM:∀b,M b→M' b)(rr:vD M' b0 w r v):vD M b0 w r v:=by
 obtain⟨ρr,k,vr⟩:=rr
 have mu:∀b,Mu M ρr (thaw [] r).2 b→Mu M' ρr (thaw [] r).2 b:=fun b hm=>hm.elim (fun h=> .inl (hM b h)) .inr
 obtain⟨κ,d,n⟩:=k.deep
 have C:Ch (Mu M' ρr (thaw [] r).2) (Mu M ρr (thaw [] r).2) w w ρr ρr (thaw [] r).2 (thaw [] r).2:=⟨⟨Zl _,fun b _ hm=>mu b hm,fun _ _ _=>rfl⟩,fun _ cur hr=>⟨cur,hr,rfl⟩,fun _ _ ob hr ho _=>⟨ob,hr,ho,qQ.refl ob⟩,fun _ _ _ _ _ _ _ _ _ h=>h⟩
 refine⟨ρr,⟨⟨k.len,fun b hm=>k.old b (hM b hm),k.le,fun o ob q ho hq=>(k.objs o ob q ho hq).keep C (fun _ _ _=>rfl),k.apart⟩,κ,d,n.new,fun b o c τ z es e ho=> ?_⟩,vr.weak mu⟩
 exact(LW r _ (Zk ho)).elim
theorem Jl {M0:Nat→Prop}{fn:AFn}{xz:List V}{vals:Array Value}(hG:Γ.G w)(hB:Γ.B0≤base)(k:HR M0 base w ρ ((dE [] xz).2.map AObj.zone))(hl:(dE [] xz).1.length=vals.size)(hal:xz.length=vals.size)
 (hv:∀(i:Nat)(x:V)(u:Value),(dE [] xz).1[i]? =some x→vals.toList[i]? =some u→VR (Mu M0 ρ ((dE [] xz).2.map AObj.zone)) w ρ ((dE [] xz).2.map AObj.zone) x u):
 SR Γ M0 base (ij fn xz) {tmps:=vals++Array.replicate (fn.ntmps-vals.size) undef,defers:=[]} w ρ:=by
 refine⟨k,⟨rfl,by simp[ij,hl,hal],fun i v u hx hu=> ?_⟩,hG,hB⟩
 simp only[ij]at hx
 by_cases hi:i<(dE [] xz).1.length
 ·rw[Ze hi]at hx
  rw[Yn (by omega)]at hu
  exact hv i v u hx (by simpa using hu)
 ·rw[Zh (by omega)]at hx
  rw[Array.getElem?_append_right (by omega)]at hu
  have e1:v= .tup []:=by
   have:=(Zb.1 hx).2
   simp at this;exact this.symm
  have e2:u=undef:=by
   have:=(Y6.1 hu).2
   simp at this;exact this.symm
  rw[e1,e2]
  exact VR.undef
theorem H8 :∀(vs:List V)(h:List AObj),(dE h vs).1.length=vs.length
 |[],h=>rfl
 |v::vs,h=>by simp only[dE,Zn,H8 vs]
theorem B2 :∀{h:List AObj}{os:List (Bool×List L)},gM h=some os→∀ob∈h,∃z es,ob= .zarr z es
 |[],os,e,ob,hm=>by cases hm
 |x::h,os,e,ob,hm=>by
  unfold gM at e
  split at e
  ·rename_i h2;cases h2
  ·rename_i z es h' h2
   cases h2
   split at e
   ·rename_i xs hxs
    rcases Yh.1 hm with rfl|hm
    ·exact⟨z,es,rfl⟩
    ·exact B2 hxs ob hm
   ·cases e
  ·cases e
theorem HR.first {h':List AObj}{ρ':List (Option Nat)}(k:HR M0 base w ρ' h'){m:Nat}{os:List (Bool×List L)}(ho:gM (h'.take m)=some os):HR M0 base w (ρ'.take m) (h'.take m):=by
 obtain⟨κ,d,n⟩:=k.deep
 have get:∀{i:Nat}{x:AObj},(h'.take m)[i]? =some x→h'[i]? =some x:=fun{i x}e=>by
  rw[Z4]at e
  split at e
  ·exact e
  ·cases e
 have getr:∀{i:Nat}{x:Option Nat},(ρ'.take m)[i]? =some x→ρ'[i]? =some x:=fun{i x}e=>by
  rw[Z4]at e
  split at e
  ·exact e
  ·cases e
 refine⟨⟨by simp[k.len],fun b hm=>⟨(k.old b hm).1,fun i x hi hx hr=>(k.old b hm).2 i x (get hi) hx (getr hr)⟩,k.le,fun i x r hi hr=> ?_,fun i i' x x' b h1 h2 m1 m2 r1 r2=>k.apart i i' x x' b (get h1) (get h2) m1 m2 (getr r1) (getr r2)⟩,
  κ,⟨fun i x b hi hx hr=>d.root i x b (get hi) hx (getr hr),fun i x z es b hi hd hr=>d.tree i x z es b (get hi) hd (getr hr)⟩,n.new,fun b o c τ z es e hi=>n.zone b o c τ z es e (get hi)⟩
 obtain⟨z,es,rfl⟩:=B2 ho x (Zk hi)
 exact k.objs i _ r (get hi) (getr hr)
theorem IT {σ':St}{rs:List ARes}{r:V}(hfin:aY σ' rs=some r):r.clean=true:=by
 unfold aY at hfin
 split at hfin
 ·cases hfin
 ·split at hfin
  ·rename_i xs _ _
   have cl:∀{ys},bM σ'.h xs=some ys→(ys.all fun x=>x.2.all L.clean)=true:=fun h=>(sH xs _ [] h).1
   split at hfin
   ·rename_i ls hys;cases hfin;simpa[V.clean]using cl hys
   ·rename_i l hys;cases hfin;simpa[V.clean]using cl hys
   ·rename_i ys _ _ hys
    split at hfin
    ·cases hfin
    ·cases hfin;simpa[V.clean]using cl hys
   ·cases hfin
  ·cases hfin
theorem H9 :∀(vs:List V)(h:List AObj),(∀ob∈h,ob≠ .res)→∀ob∈(dE h vs).2,ob≠ .res
 |[],h,k=>k
 |v::vs,h,k=>by
  simp only[dE]
  refine H9 vs _ fun ob m=> ?_
  obtain⟨l,e,ha⟩:=LV h v
  rw[e]at m
  rcases Yw.1 m with m|m
  ·exact k ob m
  ·have:=ha ob m
   rintro rfl
   exact this
theorem LQ (xz:List V)(ob:AObj)(h:ob∈(dE [] xz).2.map AObj.zone):ob≠ .res:=by
 obtain⟨x,hx,rfl⟩:=Yo.1 h
 have:=H9 xz [] (by simp) x hx
 cases x<;>simp_all[AObj.zone]
theorem R4 {Φ:Nat→Option AFn}{ext:Nat→List V→Option V}(im:Impl Γ P kf Φ ext):∀(n:Nat),(∀(f k:Nat)(xz:List V)(r:V),kf f=some k→run Φ ext n k xz=some r→xQ Γ P f xz r)∧
 ∀(f k:Nat)(xz:List V)(r:V),kf f=some k→run Φ ext n (k+hZ) xz=some r→zQ Γ P f xz r:=by
 intro n
 induction n with
 |zero=>exact⟨fun f k xz r _ h=>by simp[run]at h,fun f k xz r _ h=>by simp[run]at h⟩
 |succ n ih=>
  have ok:CallOK Γ P kf (run Φ ext n):=⟨im.prog,im.there,fun f k xz r hk hr=>ih.1 f k xz r hk hr,fun f k xz r hk hr=>ih.2 f k xz r hk hr,im.ins,im.del,im.dlr⟩
  refine⟨fun f k xz r hk h=> ?_,fun f k xz r hk h=> ?_⟩
  ·rcases im.fns f k hk with⟨fn,af,h1,h2,h3⟩|⟨h1,_,h2⟩
   case inr=>
    simp only[run,h1]at h
    rw[if_neg (by have:=(im.small f k hk).1;omega)]at h
    exact h2 xz r h
   simp only[run,h3]at h
   rw[Iw]at h2
   split at h2
   ·rename_i c hb
    split at h2
    ·rename_i ac rs hc hrs
     split at h2
     ·cases h2
     ·cases h2
      have key:∀{e:Ex}{σ':St},aq (run Φ ext n) (eI n) ac (start ⟨fn.ntmps,rs,ac⟩ xz)=some (e,σ')→(e= .normal∨e= .ret)→aY σ' rs=some r→xQ Γ P f xz r:=by
       intro e σ' he hee hfin
       refine⟨IT hfin,fun M0 w vals hG hM ha=>calls_of_wp h1 hb ?_⟩
       refine DX (z:=false) (O:=M0) (w0:=w) (ρ0:=[]) (h0:=[]) ok im.mixed n c hc nofun he ⟨M0,fun _ h=>h,nofun,LB (fn:=⟨fn.ntmps,rs,ac⟩) hG hM ha,Below.refl _ _,Ch.refl _ _ _ _⟩ (fun a' w' ρ' s'=> ?_)
       obtain⟨M0',i1,_,s1,hbl,_⟩:=s'
       obtain⟨_,v,hv,hrr⟩:=yz s1 hrs hfin
       have hrr':=hrr.less i1
       rcases hee with rfl|rfl
       ·exact bodyPost_end hv s1.fr.defers ⟨v,rfl,hbl,hrr'⟩
       ·exact bodyPost_ret hv s1.fr.defers ⟨v,rfl,hbl,hrr'⟩
      unfold done at h
      split at h
      ·rename_i σ' he;exact key he (.inl rfl) h
      ·rename_i σ' he;exact key he (.inr rfl) h
      ·cases h
    ·cases h2
   ·cases h2
  ·obtain⟨_,hn,_⟩:=im.small f k hk
   simp only[run,hn]at h
   rw[if_pos (by omega),show k+hZ-hZ=k by omega]at h
   rcases im.fns f k hk with⟨fn,af,h1,h2,h3⟩|⟨h1,_,h2⟩
   case inr=>
    simp only[h1]at h;cases h
   simp only[h3]at h
   split at h
   case isFalse=>cases h
   rename_i hnz
   rw[Iw]at h2
   split at h2
   ·rename_i c hb
    split at h2
    ·rename_i ac rs hc hrs
     split at h2
     ·cases h2
     ·cases h2
      have key:∀{e:Ex}{σ':St},aq (run Φ ext n) (eI n) ac (ij ⟨fn.ntmps,rs,ac⟩ xz)=some (e,σ')→(e= .normal∨e= .ret)→ET (dE [] xz).2.length ⟨fn.ntmps,rs,ac⟩ σ'=some r→zQ Γ P f xz r:=by
       intro e σ' he hee hfin
       unfold ET at hfin
       split at hfin
       ·rename_i l os hf ho
        split at hfin
        ·rename_i hfl
         cases hfin
         refine⟨l,os,rfl,hfl,fun M0 base w ρ vals hG hB k0 hl hv=>calls_of_wp h1 hb ?_⟩
         have hal:xz.length=vals.size:=by rw[←hl,H8]
         refine DX (z:=true) (O:=M0) (w0:=w) (ρ0:=ρ) (h0:=(dE [] xz).2.map AObj.zone) ok im.mixed n c hc (fun _=>hnz) he ⟨M0,fun _ h=>h,fun _=>rfl,Jl (fn:=⟨fn.ntmps,rs,ac⟩) hG hB k0 hl hal hv,Below.refl _ _,Ch.refl _ _ _ _⟩ (fun a' w' ρ' s'=> ?_)
         obtain⟨M0',i1,i2,s1,hbl,c1⟩:=s'
         have e0:M0'=M0:=i2 rfl
         rw[e0]at s1 c1
         obtain⟨_,v,hv,hrr⟩:=yz s1 hrs hf
         have hm:ρ.length=(dE [] xz).2.length:=by rw[k0.len];simp
         have hρ:ρ'.take (dE [] xz).2.length=ρ:=by
          apply Xf
          intro i
          rw[Z4]
          by_cases hi:i<(dE [] xz).2.length
          ·rw[if_pos hi]
           have h5:ρ[i]? =some ρ[i]:=by simp[hm,hi]
           obtain⟨ob',h6,_⟩:=c1.obj i ρ[i] _ h5 (by rw[Zr (by simpa using hi)]) (LQ xz _ (Zg _))
           rw[h6,h5]
          ·rw[if_neg hi,Yt (by omega)]
         have k1:=s1.hr.first ho
         rw[hρ]at k1
         have hsub:∀{i:Nat}{x:AObj},(σ'.h.take (dE [] xz).2.length)[i]? =some x→σ'.h[i]? =some x:=fun{i x}e=>by
          rw[Z4]at e
          split at e
          ·exact e
          ·cases e
         have c2:Ch (Mu M0 ρ ((dE [] xz).2.map AObj.zone)) (Mu M0 ρ (σ'.h.take (dE [] xz).2.length)) w w' ρ ρ ((dE [] xz).2.map AObj.zone) (σ'.h.take (dE [] xz).2.length):=by
          refine⟨⟨c1.go.size,fun b hb' hm'=>c1.go.cls b hb' ?_,c1.go.block⟩,c1.row,fun i q x hq hx hxn=> ?_,c1.zar⟩
          ·rcases hm' with hm'|⟨i,x,hi,hx,hr⟩
           ·exact .inl hm'
           ·refine .inr ⟨i,x,hsub hi,hx,?_⟩
            have hil:i<ρ.length:=(Zb.1 hr).1
            obtain⟨ob',h6,_⟩:=c1.obj i _ _ hr (Zr (by rw[k0.len]at hil;exact hil)) (LQ xz _ (Zg _))
            exact h6
          ·obtain⟨ob',h5,h6,h7⟩:=c1.obj i q x hq hx hxn
           have hil:i<(dE [] xz).2.length:=by
            have:=(Zb.1 hx).1
            simpa using this
           exact⟨ob',hq,by rw[Z4,if_pos hil];exact h6,h7⟩
         have hlr:∀M ρ h,LR M w' ρ h l v:=fun M ρ h=>by
          have:=yA (M':=M) (ρ:=ρ) (h:=h) (by simpa[V.flat]using hfl) hrr
          have e:di l=l:=by cases l<;>first|rfl|cases hfl
          simpa[dO,e,VR]using this
         rcases hee with rfl|rfl
         ·exact bodyPost_end hv s1.fr.defers ⟨v,_,rfl,hbl,hlr,ho,k1,c2⟩
         ·exact bodyPost_ret hv s1.fr.defers ⟨v,_,rfl,hbl,hlr,ho,k1,c2⟩
        ·cases hfin
       ·cases hfin
      unfold ul at h
      split at h
      ·rename_i σ' he;exact key he (.inl rfl) h
      ·rename_i σ' he;exact key he (.inr rfl) h
      ·cases h
    ·cases h2
   ·cases h2
theorem Qb {Φ:Nat→Option AFn}{ext:Nat→List V→Option V}(im:Impl Γ P kf Φ ext)(n:Nat)(f k:Nat)(xz:List V)(r:V):kf f=some k→run Φ ext n k xz=some r→xQ Γ P f xz r:=(R4 im n).1 f k xz r
end
end Gi
