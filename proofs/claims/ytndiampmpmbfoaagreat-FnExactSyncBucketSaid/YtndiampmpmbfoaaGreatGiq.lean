/- A part. -/
import Derived.Test.YtndiampmpmbfoaaGreatGip
import Derived.Deep.LoopGhost
set_option linter.all false
namespace Gi
open Go Go.RowKit
variable {KI:KF}
section
variable {Γ:Ctx}{P:Program}{M0:Nat->Prop}{base:Nat}{Z:St}{a:Act}{w:World}{J:List (Option Nat)}{call:Nat->List V->Option V}
def SX [KF](Γ:Ctx)(z:Bool)(O:Nat->Prop)(base:Nat)(w0:World)(ρ0:List (Option Nat))(h0:List Y0)(Z:St)(a:Act)(w:World)(J:List (Option Nat)):Prop:=
 ∃M0,(∀b,O b->M0 b)/\ (z=true->M0=O)/\ SR Γ M0 base Z a w J/\ Below base w0 w/\ Ch (Mu O ρ0 h0) (Mu M0 J Z.h) w0 w ρ0 J h0 Z.h
variable {z:Bool}{O:Nat->Prop}{w0:World}{ρ0:List (Option Nat)}{h0:List Y0}
def Dp (ok:YX Γ P kf call)(s:SX Γ z O base w0 ρ0 h0 Z a w J){ops:Array Oper}{o:Oper}{d:Md}{oo:Z0}{Z':St}{K:Act->World->Prop}{Q:Exit->Act->World->Prop}(hz:z=true->oo.op.bY=true)
 (hc:xC P kf d ops o=some oo) (he:aG call oo Z=some Z') (hK:∀a' w' J',SX Γ z O base w0 ρ0 h0 Z' a' w' J'->K a' w'):
 if Region.wanted o (yielded ops a.tmps)then o.wp P a w K Q else K (a.put o.dst undef) w:=by
 obtain⟨M0,i1,i2,s1,b1,c1⟩:=s
 exact Nq ok s1 hc he fun aE a' w' J' g0 g1 g2 g3 g4=>hK a' w' J' ⟨aE,fun b h=>g0 b (i1 b h),fun bC=>(g1 (hz bC)).trans (i2 bC),g2,b1.trans g3,c1.trans g4⟩
def Jj (ok:YX Γ P kf call){ops:Array Oper}{d:Md}{Q:Exit->Act->World->Prop}:∀{l:List Oper}{a6:List Z0}{Z Z':St}{a:Act}{w:World}{J:List (Option Nat)},SX Γ z O base w0 ρ0 h0 Z a w J->(z=true->∀oo∈a6,oo.op.bY=true)->
 gP (xC P kf d ops) l=some a6->ah call a6 Z=some Z'->(∀a' w' J',SX Γ z O base w0 ρ0 h0 Z' a' w' J'->Q .normal a' w')->wpList P ops Q l a w
 |[],a6,Z,Z',a,w,J,s,hz,hc,he,hQ=>by
  simp[gP]at hc;subst hc
  simp[ah]at he;subst he
  exact wpList_nil (hQ a w J s)
 |o::l,a6,Z,Z',a,w,J,s,hz,hc,he,hQ=>by
  unfold gP at hc
  split at hc
  ·rename_i oo b2 h1 h2
   cases hc
   unfold ah at he
   split at he
   ·rename_i σ1 he1
    exact wpList_step fun K hK=>Dp ok s (fun h=>hz h oo (by simp)) h1 he1 fun a' w' J' s'=>hK _ _ (Jj ok s' (fun h o ho=>hz h o (by simp[ho])) h2 he hQ)
   ·cases he
  ·cases hc
def Opd.cd {x:Opd}{t:List V}{h h':List Y0}{d:Nat}{v:V}(hd:d∉x.tmps):x.ev ⟨t.set d v,h⟩=x.ev ⟨t,h'⟩:=by
 cases x with
 |tmp n=>
  simp only[Opd.tmps,List.mem_singleton]at hd
  simp only[Opd.ev,List.getD]
  rw[Za hd]
 |_=>rfl
def Ru {Z Z':St}(hh:Z.h=Z'.h){ao:AOp}(hx:∀x∈ao.bt,x.ev Z=x.ev Z'):bG call Z ao=bG call Z' ao:=by
 cases ao with
 |build zero parts=>
  have:(parts.map fun x=>(x.1,x.2.1,x.2.2.ev Z))=(parts.map fun x=>(x.1,x.2.1,x.2.2.ev Z')):=by
   apply ZS
   intro x aa
   rw[hx x.2.2 (by simp only[AOp.bt];exact V'.2 ⟨x,aa,rfl⟩)]
  simp only[bG,this]
 |call f xz fl fz=>
  have:xz.map (Opd.ev Z)=xz.map (Opd.ev Z'):=ZS (fun x aa=>hx x aa)
  simp only[bG,this,hh]
 |bm x xz=>
  have h1:=hx x (by simp[AOp.bt])
  have:xz.map (Opd.ev Z)=xz.map (Opd.ev Z'):=ZS (fun y hy=>hx y (by simp[AOp.bt,hy]))
  simp only[bG,this,hh,h1]
 |bw z x lo hi=>rfl
 |bZ z parts=>
  have:parts.map (Opd.ev Z)=parts.map (Opd.ev Z'):=ZS (fun x aa=>hx x aa)
  simp only[bG,this]
 |c2 z x lo hi=>
  have h1:=hx x (by simp[AOp.bt])
  have h2:∀d,cf Z d lo=cf Z' d lo:=by
   intro d
   cases lo with
   |none=>rfl
   |some o=>simp only[cf,hx o (by simp[AOp.bt])]
  have h3:∀d,cf Z d hi=cf Z' d hi:=by
   intro d
   cases hi with
   |none=>rfl
   |some o=>simp only[cf,hx o (by simp[AOp.bt])]
  simp only[bG,h1,h2,h3]
 |c8 k cs=>rfl
 |bR k cs=>rfl
 |bb f xz=>
  have:xz.map (Opd.ev Z)=xz.map (Opd.ev Z'):=ZS (fun x aa=>hx x aa)
  simp only[bG,this,hh]
 |_=>simp_all[bG,AOp.bt]
def vp {Z Z':St}{d:Int}{x:Option Opd}(hx:∀y∈x.toList,y.ev Z=y.ev Z'):cf Z d x=cf Z' d x:=by
 cases x with
 |none=>rfl
 |some o=>simp only[cf,hx o (by simp)]
def Rf {Z Z':St}(hh:Z.h=Z'.h){ao:AOp}(hx:∀x∈ao.bt,x.ev Z=x.ev Z'):cz call Z ao=cz call Z' ao:=by
 cases ao with
 |bN z parts=>
  have:parts.map (Opd.ev Z)=parts.map (Opd.ev Z'):=ZS (fun x aa=>hx x aa)
  simp only[cz,this,hh]
 |call f xz fl fz=>
  have:xz.map (Opd.ev Z)=xz.map (Opd.ev Z'):=ZS (fun x aa=>hx x aa)
  cases fl<;>cases fz<;>first|rfl|simp only[cz,this,hh]
 |bR f xz=>
  have:xz.map (Opd.ev Z)=xz.map (Opd.ev Z'):=ZS (fun x aa=>hx x aa)
  simp only[cz,this,hh]
 |c8 k cs=>
  have:cs.map (Opd.ev Z)=cs.map (Opd.ev Z'):=ZS (fun x aa=>hx x aa)
  simp only[cz,this,hh]
 |bO f xz=>
  have:xz.map (Opd.ev Z)=xz.map (Opd.ev Z'):=ZS (fun x aa=>hx x aa)
  simp only[cz,this,hh]
 |bq f xz=>
  have:xz.map (Opd.ev Z)=xz.map (Opd.ev Z'):=ZS (fun x aa=>hx x aa)
  simp only[cz,this,hh]
 |bc f xz=>
  have:xz.map (Opd.ev Z)=xz.map (Opd.ev Z'):=ZS (fun x aa=>hx x aa)
  simp only[cz,this,hh]
 |bW z parts=>
  have:parts.map (Opd.ev Z)=parts.map (Opd.ev Z'):=ZS (fun x aa=>hx x aa)
  simp only[cz,this,hh]
 |bw z x lo hi=>
  have h1:=hx x (by simp[AOp.bt])
  have h2:∀d,cf Z d lo=cf Z' d lo:=fun d=>vp fun y hy=>hx y (by simp only[AOp.bt];exact Za1 _ (List.mem_append_left _ hy))
  have h3:∀d,cf Z d hi=cf Z' d hi:=fun d=>vp fun y hy=>hx y (by simp only[AOp.bt];exact Za1 _ (List.mem_append_right _ hy))
  simp only[cz,h1,h2,h3,hh]
 |_=>simp_all[cz,AOp.bt]
def kL (call:Nat->List V->Option V)(o:Z0)(Z:St):Option (V×List Y0):=
 match bc Z o.guard with
 |some true=>match bG call Z o.op with
  |some v=>some (v,Z.h)
  |none=>cz call Z o.op
 |some false=>some (.b9 [],Z.h)
 |none=>none
def CL (oo:Z0)(Z:St):aG call oo Z=(kL call oo Z).map fun x=>⟨put Z.t oo.dst x.1,x.2⟩:=by
 unfold aG kL
 cases hw:bc Z oo.guard with
 |none=>rfl
 |some b=>
  cases b with
  |false=>rfl
  |true=>
   simp only
   cases hf:bG call Z oo.op with
   |some v=>rfl
   |none=>
    cases he:cz call Z oo.op with
    |none=>rfl
    |some x=>rfl
def PP {x y:Z0}(ar:vm x y=true){t:List V}{h:List Y0}{v:V}:kL call y ⟨put t x.dst v,h⟩=kL call y ⟨t,h⟩:=by
 cases hd:x.dst with
 |none=>rfl
 |some d=>
  have aw:d∉y.reads:=by
   simp only[vm,hd,Zh,ZJ]at ar
   have:=ar.1.1
   simpa using this
  have au:∀z∈y.op.bt,z.ev (⟨put t (some d) v,h⟩:St)=z.ev ⟨t,h⟩:=fun z hz=>Opd.cd (h':=h) (fun hm=>aw (List.mem_append_left _ (List.mem_flatMap.2 ⟨z,hz,hm⟩)))
  have hw:bc (⟨put t (some d) v,h⟩:St) y.guard=bc ⟨t,h⟩ y.guard:=by
   cases hg:y.guard with
   |none=>rfl
   |some gw=>
    obtain⟨g,b⟩:=gw
    have ae:d≠g:=fun e=>aw (List.mem_append_right _ (by simp[hg,e]))
    simp only[bc,put,List.getD]
    rw[Za ae]
  unfold kL
  rw[hw,Ru (Z:=⟨put t (some d) v,h⟩) (Z':=⟨t,h⟩) rfl au,Rf (Z:=⟨put t (some d) v,h⟩) (Z':=⟨t,h⟩) rfl au]
def ve {x:Opd}{t:List V}{h h':List Y0}:x.ev ⟨t,h⟩=x.ev ⟨t,h'⟩:=by cases x<;>rfl
def om {g:Option (Nat×Bool)}{t:List V}{h h':List Y0}:bc ⟨t,h⟩ g=bc ⟨t,h'⟩ g:=by
 cases g with
 |none=>rfl
 |some gw=>rfl
def UH {t:List V}{h h':List Y0}{d:Int}{x:Option Opd}:cf ⟨t,h⟩ d x=cf ⟨t,h'⟩ d x:=vp fun y _=>ve
def Fw {ao:AOp}(hc:ao.cls<=1):cz call Z ao=none:=by
 cases ao with
 |call f xz fl fz=>cases fl<;>cases fz<;>first|rfl|simp[AOp.cls]at hc
 |_=>first|rfl|simp[AOp.cls]at hc
def Tr {ao:AOp}(hc:ao.cls=0){t:List V}{h h':List Y0}:bG call ⟨t,h⟩ ao=bG call ⟨t,h'⟩ ao:=by
 have e:∀x:Opd,x.ev ⟨t,h⟩=x.ev ⟨t,h'⟩:=fun x=>ve
 have e2:∀d x,cf ⟨t,h⟩ d x=cf ⟨t,h'⟩ d x:=fun d x=>UH
 have e3:Opd.ev ⟨t,h⟩=Opd.ev ⟨t,h'⟩:=funext e
 cases ao with
 |bZ z ps=>simp only[bG,e3]
 |call f xz fl fz=>cases fl<;>cases fz<;>simp[AOp.cls]at hc
 |_=>first|(simp[AOp.cls]at hc;done)|(simp only[bG,e,e2];done)|rfl
def pf (h h':List Y0):Prop:=∀(o:Nat)(ob:Y0),h[o]? =some ob->ob≠ .res->h'[o]? =some ob \/∃z es,ob.br z es/\ h'[o]? =some (.bH z es)
def pf.refl (h:List Y0):pf h h:=fun _ _ e _=> .inl e
def pf.trans {a b c:List Y0}(h:pf a b)(k:pf b c):pf a c:=by
 intro o ob e hn
 rcases h o ob e hn with e1|⟨z,es,hD,e1⟩
 ·exact k o ob e1 hn
 ·rcases k o _ e1 (by simp)with e2|⟨_,_,e3,_⟩
  ·exact .inr ⟨z,es,hD,e2⟩
  ·rcases e3 with e3|e3<;>cases e3
def pf.append (h l:List Y0):pf h (h++l):=fun o ob e _=> .inl (by rw[Ze (Zb.1 e).1];exact e)
def pf.freezeL (h:List Y0)(l:L):pf h (Gi.freezeL h l):=by
 cases l with
 |arr o=>
  simp only[Gi.freezeL]
  split
  ·rename_i z es he
   intro o' ob e _
   by_cases q:o=o'
   ·subst q
    rw[he]at e;cases e
    exact .inr ⟨z,es, .inl rfl,by rw[Zd (Zb.1 he).1]⟩
   ·exact .inl (by rw[Za q];exact e)
  ·rename_i z es he
   intro o' ob e _
   by_cases q:o=o'
   ·subst q
    rw[he]at e;cases e
    exact .inr ⟨z,es, .inr rfl,by rw[Zd (Zb.1 he).1]⟩
   ·exact .inl (by rw[Za q];exact e)
  ·exact pf.refl h
 |_=>exact pf.refl h
def pf.freezeLs :∀(ls:List L)(h:List Y0),pf h (Gi.freezeLs h ls)
 |[],h=>pf.refl h
 |l::ls,h=>(pf.freezeL h l).trans (pf.freezeLs ls (Gi.freezeL h l))
def pf.freezeVs :∀(vs:List V)(h:List Y0),pf h (Gi.freezeVs h vs)
 |[],h=>pf.refl h
 |v::vs,h=>(pf.freezeLs v.cells h).trans (pf.freezeVs vs (Gi.freezeLs h v.cells))
def V9 {ao:AOp}(hc:ao.cls=2){v:V}{h':List Y0}(he:cz call Z ao=some (v,h')):pf Z.h h':=by
 cases ao with
 |call f xz fl fz=>cases fl<;>cases fz<;>simp[AOp.cls]at hc
 |alloc zero=>simp only[cz]at he;cases he;exact pf.append _ _
 |bU n=>simp only[cz]at he;cases he;exact pf.append _ _
 |ba zero=>simp only[cz]at he;cases he;exact pf.append _ _
 |bz n x=>
  simp only[cz]at he
  split at he
  ·cases he;exact pf.append _ _
  ·cases he
 |bJ i zero=>
  simp only[cz]at he
  split at he
  ·rename_i hi
   cases he
   intro o ob e hn
   have q:i≠o:=by
    rintro rfl
    rw[hi]at e;cases e
    exact hn rfl
   exact .inl (by rw[Za q];exact e)
  ·cases he
 |box x=>
  simp only[cz]at he
  split at he
  ·cases he;exact pf.append _ _
  ·cases he
 |bN z parts=>
  simp only[cz]at he
  split at he
  ·split at he
   ·cases he;exact(pf.freezeVs _ _).trans (pf.append _ _)
   ·cases he
  ·cases he
 |make b zero n=>
  simp only[cz]at he
  split at he
  ·split at he
   ·cases he;exact pf.append _ _
   ·cases he
  ·cases he
 |bw z x lo hi=>
  simp only[cz]at he
  split at he
  ·split at he
   ·split at he
    ·cases he;exact pf.freezeLs _ _
    ·cases he
   ·cases he
  ·cases he
 |_=>simp[AOp.cls]at hc
def Lx {h h':List Y0}(k:pf h h'){l:L}{p:PV}(e:l.view h=some p):l.view h'=some p:=by
 cases l with
 |arr o=>
  simp only[L.view]at e⊢
  split at e
  ·rename_i z es he
   rcases k o _ he (by simp)with e1|⟨z',es',e2,e1⟩
   ·rw[e1];exact e
   ·rcases e2 with e2|e2<;>cases e2;rw[e1];exact e
  ·rename_i z es he
   rcases k o _ he (by simp)with e1|⟨z',es',e2,e1⟩
   ·rw[e1];exact e
   ·rcases e2 with e2|e2<;>cases e2
  ·rename_i z es he
   rcases k o _ he (by simp)with e1|⟨z',es',e2,e1⟩
   ·rw[e1];exact e
   ·rcases e2 with e2|e2<;>cases e2;rw[e1];exact e
  ·cases e
 |_=>exact e
def NY {h h':List Y0}(k:pf h h'):∀{ls:List L}{ps:List PV},viewL h ls=some ps->viewL h' ls=some ps
 |[],ps,e=>e
 |l::ls,ps,e=>by
  simp only[viewL]at e⊢
  split at e
  ·rename_i p qs e1 e2
   rw[Lx k e1,NY k e2];exact e
  ·cases e
def SS {h h':List Y0}(k:pf h h'){v u:V}(e:v.view h=some u):v.view h'=some u:=by
 unfold V.view at e⊢
 split at e
 ·exact e
 ·rename_i l aw
  split at e
  ·rename_i p e1
   rw[Lx k e1]
   simp only
   exact e
  ·cases e
 ·split at e
  ·rename_i ps e1
   rw[NY k e1];exact e
  ·cases e
 ·cases e
def sH {h h':List Y0}(k:pf h h'):∀{vs us:List V},al h vs=some us->al h' vs=some us
 |[],us,e=>e
 |v::vs,us,e=>by
  simp only[al]at e⊢
  split at e
  ·rename_i p qs e1 e2
   rw[SS k e1,sH k e2];exact e
  ·cases e
def A9 {h h':List Y0}(k:pf h h'){v:V}{es:List (List PV)}(e:asList h v=some es):asList h' v=some es:=by
 unfold asList at e⊢
 split at e
 ·split at e
  ·rename_i es' e1
   simp only[Lx k e1];exact e
  ·cases e
 ·cases e
def Qg {h h':List Y0}(k:pf h h'){l:L}{p:PV}(e:l.view h=some p)(m:L.mut h l=false):L.mut h' l=false:=by
 cases l with
 |arr o=>
  simp only[L.view]at e
  simp only[L.mut]at m⊢
  split at e
  ·rename_i z es he
   rw[he]at m;simp at m
  ·rename_i z es he
   rcases k o _ he (by simp)with e1|⟨z',es',e2,e1⟩
   ·rw[e1]
   ·rcases e2 with e2|e2<;>cases e2
  ·rename_i z es he
   rw[he]at m;simp at m
  ·cases e
 |_=>rfl
def MV {h h':List Y0}(k:pf h h'):∀{ls:List L}{ps:List PV},viewL h ls=some ps->ls.any (L.mut h)=false->ls.any (L.mut h')=false
 |[],_,_,_=>rfl
 |l::ls,ps,e,m=>by
  simp only[viewL]at e
  split at e
  ·rename_i p qs e1 e2
   simp only[List.any_cons,K']at m⊢
   exact⟨Qg k e1 m.1,MV k e2 m.2⟩
  ·cases e
def U7 {h h':List Y0}(k:pf h h'){v u:V}(e:v.view h=some u)(m:v.mut h=false):v.mut h'=false:=by
 unfold V.view at e
 unfold V.mut at m⊢
 split at e
 ·rfl
 ·rename_i l aw
  split at e
  ·rename_i p e1
   simp only[V.cells,List.any_cons,List.any_nil,Bool.or_false]at m⊢
   exact Qg k e1 m
  ·cases e
 ·split at e
  ·rename_i ps e1
   simp only[V.cells]at m⊢
   exact MV k e1 m
  ·cases e
 ·cases e
def MW {h h':List Y0}(k:pf h h'):∀{vs us:List V},al h vs=some us->vs.any (V.mut h)=false->vs.any (V.mut h')=false
 |[],_,_,_=>rfl
 |v::vs,us,e,m=>by
  simp only[al]at e
  split at e
  ·rename_i p qs e1 e2
   simp only[List.any_cons,K']at m⊢
   exact⟨U7 k e1 m.1,MW k e2 m.2⟩
  ·cases e
def tJ {h h':List Y0}(k:pf h h'){g:Bool}{n:Nat}{a v:V}(e:bA h g n a=some v):bA h' g n a=some v:=by
 unfold bA at e⊢
 split at e
 ·rename_i o i j
  split at e
  ·rename_i cs he
   rcases k o _ he (by simp)with e1|⟨z',es',e2,e1⟩
   ·simp only[e1];exact e
   ·rcases e2 with e2|e2<;>cases e2
  ·rename_i z es he
   rcases k o _ he (by simp)with e1|⟨z',es',e2,e1⟩
   ·simp only[e1];exact e
   ·rcases e2 with e2|e2<;>cases e2;simp only[e1];exact e
  ·rename_i z es he
   rcases k o _ he (by simp)with e1|⟨z',es',e2,e1⟩
   ·simp only[e1];exact e
   ·rcases e2 with e2|e2<;>cases e2
  ·rename_i z es he
   rcases k o _ he (by simp)with e1|⟨z',es',e2,e1⟩
   ·simp only[e1];exact e
   ·rcases e2 with e2|e2<;>cases e2;simp only[e1];exact e
  ·rename_i ps he
   rcases k o _ he (by simp)with e1|⟨z',es',e2,e1⟩
   ·simp only[e1];exact e
   ·rcases e2 with e2|e2<;>cases e2
  ·cases e
 ·exact e
 ·cases e
def Fs {h h':List Y0}(k:pf h h'){z:Nat}{x v:V}{i:Nat}(e:aJ h z x i=some v):aJ h' z x i=some v:=by
 unfold aJ at e⊢
 split at e
 ·rename_i o
  split at e
  ·rename_i z' es he
   rcases k o _ he (by simp)with e1|⟨_,_,e2,e1⟩
   ·simp only[e1];exact e
   ·rcases e2 with e2|e2<;>cases e2;simp only[e1];exact e
  ·rename_i z' es he
   rcases k o _ he (by simp)with e1|⟨_,_,e2,e1⟩
   ·simp only[e1];exact e
   ·rcases e2 with e2|e2<;>cases e2
  ·rename_i z' es he
   rcases k o _ he (by simp)with e1|⟨_,_,e2,e1⟩
   ·simp only[e1];exact e
   ·rcases e2 with e2|e2<;>cases e2;simp only[e1];exact e
  ·cases e
 ·exact e
 ·cases e
def pf.lent {h h':List Y0}(k:pf h h'):pf (Gi.lent h) (Gi.lent h'):=by
 intro o x e hn
 obtain⟨ob,h1,rfl⟩:=n6 e
 rcases k o ob h1 (by rintro rfl;exact hn rfl)with e1|⟨z,es,hD,e1⟩
 ·exact .inl (wT e1)
 ·refine .inr ⟨z,es,?_,wT e1⟩
  rcases hD with rfl|rfl
  ·exact .inl rfl
  ·exact .inr rfl
def RR {h h':List Y0}(k:pf h h'){g:Bool}{n:Nat}{a v:V}(e:qZ h g n a=some v):qZ h' g n a=some v:=by
 unfold qZ at e⊢
 split at e
 ·rename_i o i j
  split at e
  ·rename_i z es he
   rcases k o _ he (by simp)with e1|⟨_,_,e2,e1⟩
   ·simp only[e1];exact e
   ·rcases e2 with e2|e2<;>cases e2
  ·rename_i aw
   have b3:∀z es,h'[o]? ≠some (.bB z es):=fun z es e1=>by
    have he:=e
    unfold bA at he
    simp only at he
    cases h2:h[o]? with
    |none=>rw[h2]at he;cases he
    |some ob=>
     have hn:ob≠ .res:=by
      rintro rfl
      rw[h2]at he
      cases he
     rcases k o ob h2 hn with e3|⟨_,_,_,e3⟩
     ·rw[e1]at e3;cases e3;exact aw z es h2
     ·rw[e1]at e3;cases e3
   split
   ·rename_i z es e1;exact absurd e1 (b3 z es)
   ·exact tJ k e
 ·exact tJ k e
def Tq {ao:AOp}(hc:ao.cls=1){t:List V}{h h':List Y0}(k:pf h h'){v:V}(e:bG call ⟨t,h⟩ ao=some v):bG call ⟨t,h'⟩ ao=some v:=by
 have ev:∀x:Opd,x.ev ⟨t,h⟩=x.ev ⟨t,h'⟩:=fun x=>ve
 have b4:Opd.ev ⟨t,h⟩=Opd.ev ⟨t,h'⟩:=funext ev
 cases ao with
 |load g n a=>
  simp only[bG,ev]at e⊢
  exact tJ k e
 |c1 g n a=>
  simp only[bG,ev]at e⊢
  split at e
  ·rename_i hq
   have b5:bU h' (a.ev ⟨t,h'⟩)=true:=by
    unfold bU at hq⊢
    split at hq
    ·rename_i o i j hv
     split at hq
     ·rename_i cs ho
      rcases k o _ ho (by simp)with e1|⟨z',es',e2,e1⟩
      ·rw[e1]
      ·rcases e2 with e2|e2<;>cases e2
     ·rename_i cs ho
      rcases k o _ ho (by simp)with e1|⟨z',es',e2,e1⟩
      ·rw[e1]
      ·rcases e2 with e2|e2<;>cases e2
     ·cases hq
    ·rfl
    ·cases hq
   rw[if_pos b5]
   exact tJ k e
  ·cases e
 |bf g n a r=>
  simp only[bG,ev]at e⊢
  split at e
  ·rename_i hq
   rw[if_pos hq]
   exact tJ k e
  ·cases e
 |bp g n a=>
  simp only[bG,ev]at e⊢
  split at e
  ·cases e
  ·rename_i hq
   have b5:¬bU h' (a.ev ⟨t,h'⟩)=true:=by
    intro ag
    unfold bU at hq ag
    unfold bA at e
    split at e
    ·rename_i o i j hv
     rw[hv]at hq ag
     simp only at hq ag
     split at e
     ·rename_i cs ho;rw[ho]at hq;exact hq rfl
     ·rename_i z es ho
      rcases k o _ ho (by simp)with e1|⟨z',es',e2,e1⟩
      ·rw[e1]at ag;cases ag
      ·rw[e1]at ag;cases ag
     ·rename_i z es ho
      rcases k o _ ho (by simp)with e1|⟨z',es',e2,e1⟩
      ·rw[e1]at ag;cases ag
      ·rcases e2 with e2|e2<;>cases e2
     ·rename_i z es ho
      rcases k o _ ho (by simp)with e1|⟨z',es',e2,e1⟩
      ·rw[e1]at ag;cases ag
      ·rw[e1]at ag;cases ag
     ·rename_i cs ho;rw[ho]at hq;exact hq rfl
     ·cases e
    ·rename_i e1 j hv
     rw[hv]at hq
     exact hq rfl
    ·cases e
   rw[if_neg b5]
   exact tJ k e
 |cL x=>
  simp only[bG,ev]at e⊢
  split at e
  ·rename_i es e1;rw[A9 k e1];exact e
  ·cases e
 |len x=>
  simp only[bG,ev]at e⊢
  split at e
  ·rename_i es e1;rw[A9 k e1];exact e
  ·cases e
 |bF z x i=>
  simp only[bG,ev]at e⊢
  split at e
  ·split at e
   ·rename_i hn;simp only[if_pos hn];exact Fs k e
   ·cases e
  ·cases e
 |bm x xz=>
  simp only[bG,b4]at e⊢
  split at e
  ·split at e
   ·rename_i us e1;simp only[sH k e1];exact e
   ·cases e
  ·cases e
 |call f xz fl fz=>
  simp only[bG,b4]at e⊢
  split at e
  ·rename_i aF
   rw[if_pos aF]
   split at e
   ·rename_i hm
    split at e
    ·rename_i us e1
     have aH:(fl|| !((xz.map (Opd.ev ⟨t,h'⟩)).any (V.mut h')))=true:=by
      cases fl with
      |true=>rfl
      |false=>
       simp only[Bool.false_or,ZJ]at hm⊢
       exact MW k e1 hm
     rw[if_pos aH,sH k e1];exact e
    ·cases e
   ·cases e
  ·cases e
 |bx x=>
  simp only[bG,ev]at e⊢
  split at e
  ·rename_i es e1;rw[A9 k.lent e1];exact e
  ·cases e
 |bM z x i=>
  simp only[bG,ev]at e⊢
  split at e
  ·split at e
   ·rename_i hn;simp only[if_pos hn];exact Fs k.lent e
   ·cases e
  ·cases e
 |bn g n a=>
  simp only[bG,ev]at e⊢
  exact RR k e
 |bb f xz=>
  simp only[bG,b4]at e⊢
  split at e
  ·rename_i us e1;simp only[sH k.lent e1];exact e
  ·cases e
 |_=>simp[AOp.cls]at hc
def TX {x y:Z0}(ar:vm x y=true)(t:List V)(v u:V):put (put t x.dst v) y.dst u=put (put t y.dst u) x.dst v:=by
 cases hd:x.dst with
 |none=>rfl
 |some d=>
  cases he:y.dst with
  |none=>rfl
  |some e=>
   have ae:d≠e:=by
    simp only[vm,hd,he,Zh,bne_iff_ne,ne_eq]at ar
    intro e'
    exact ar.1.2 (by rw[e'])
   simp only[put]
   exact List.set_comm v u ae
def LJ {x y:Z0}(h:vm x y=true):vm y x=true:=by
 unfold vm at*
 cases hx:x.dst<;>cases hy:y.dst<;>simp_all
 exact fun e=>h.1.2 e.symm
def Fq {x:Z0}(hc:x.op.cls=0){t:List V}{h h1 h':List Y0}{v:V}(e:kL call x ⟨t,h⟩=some (v,h1)):h1=h/\ kL call x ⟨t,h'⟩=some (v,h'):=by
 unfold kL at e⊢
 rw[om (h:=h') (h':=h)]
 split at e
 ·rw[Tr (h:=h') (h':=h) hc]
  split at e
  ·cases e;exact⟨rfl,rfl⟩
  ·rw[Fw (by omega)]at e;cases e
 ·cases e;exact⟨rfl,rfl⟩
 ·cases e
def Mb {x:Z0}(hc:x.op.cls=1){t:List V}{h h1 h':List Y0}(k:pf h h'){v:V}(e:kL call x ⟨t,h⟩=some (v,h1)):h1=h/\ kL call x ⟨t,h'⟩=some (v,h'):=by
 unfold kL at e⊢
 rw[om (h:=h') (h':=h)]
 split at e
 ·split at e
  ·rename_i hf
   cases e
   rw[Tq hc k hf]
   exact⟨rfl,rfl⟩
  ·rw[Fw (by omega)]at e;cases e
 ·cases e;exact⟨rfl,rfl⟩
 ·cases e
def V8 {x:Z0}(hc:x.op.cls<=2){Z:St}{h':List Y0}{v:V}(e:kL call x Z=some (v,h')):pf Z.h h':=by
 unfold kL at e
 split at e
 ·split at e
  ·cases e;exact pf.refl _
  ·by_cases h2:x.op.cls=2
   ·exact V9 h2 e
   ·rw[Fw (by omega)]at e;cases e
 ·cases e;exact pf.refl _
 ·cases e
def tX :∀(ls:List L)(h:List Y0),∃l,(thawL h ls).2=h++l/\ pA l
 |[],h=>⟨[],by simp[thawL],fun ob ak=>by cases ak⟩
 |l::ls,h=>by
  have push:∀ob:Y0,ob.bo->∃l,(thawL (h++[ob]) ls).2=h++l/\ pA l:=fun ob ho=>by
   obtain⟨l,e,ha⟩:=tX ls (h++[ob])
   exact⟨ob::l,by rw[e];simp,fun x hx=>by
    rcases ZL.1 hx with rfl|hx
    ·exact ho
    ·exact ha x hx⟩
  cases l with
  |own z es=>exact push _ trivial
  |down z es=>exact push _ trivial
  |_=>exact tX ls h
def Js :∀(xs:List (Bool×List L))(h:List Y0),∃l,(thawT h xs).2=h++l/\ pA l
 |[],h=>⟨[],by simp[thawT],fun ob ak=>by cases ak⟩
 |(b,ls)::xs,h=>by
  obtain⟨l,e,ha⟩:=tX ls h
  obtain⟨l',e',c0⟩:=Js xs (thawL h ls).2
  refine⟨l++l',by simp only[thawT];rw[e',e,List.append_assoc],fun x hx=> ?_⟩
  rcases H'.1 hx with hx|hx
  ·exact ha x hx
  ·exact c0 x hx
def NG (h:List Y0)(r:V):∃l,(thaw h r).2=h++l/\ pA l:=by
 cases r with
 |one l=>
  obtain⟨l',h',e'⟩:=jA h l
  obtain⟨x,e,ha⟩:=tX [l] h
  rw[e']at e
  exact⟨x,by simp only[thaw,e'];exact e,ha⟩
 |agg ls=>exact tX ls h
 |b9 xs=>exact Js xs h
def dd (h h':List Y0):Prop:=∀(o:Nat)(ob:Y0),(match ob with| .box _=>True| .bL _=>True|_=>False)->(h[o]? =some ob↔h'[o]? =some ob)
def dd.refl (h:List Y0):dd h h:=fun _ _ _=>Iff.rfl
def dd.symm {h h':List Y0}(k:dd h h'):dd h' h:=fun o ob q=>(k o ob q).symm
def dd.trans {a b c:List Y0}(h:dd a b)(k:dd b c):dd a c:=fun o ob q=>(h o ob q).trans (k o ob q)
def dd.app {h l:List Y0}(ha:pA l):dd h (h++l):=fun o ob q=>by
 by_cases aj:o<h.length
 ·rw[Ze aj]
 ·rw[ZW (by omega),Zk (by omega)]
  constructor
  ·intro e;cases e
  ·intro e
   have:=ha ob (Zl e)
   cases ob<;>first|exact this.elim|exact q.elim
def dd.push (h:List Y0){z:Nat}{es:List (List PV)}:dd h (h++[.arr z es]):=fun o ob q=>by
 rcases Nat.lt_trichotomy o h.length with aj|rfl|cA
 ·rw[Ze aj]
 ·simp only[Zk (Zn _),Zb6,A',ZW (Zn _)]
  constructor
  ·intro e;cases e
  ·intro e;cases e;exact q.elim
 ·rw[ZW (by omega),ZW (by simp;omega)]
def dd.cC {h:List Y0}{o z:Nat}{es:List (List PV)}{bE:Y0}(ho:h[o]? =some bE)(hD:bE.br z es){ob':Y0}(hb:match ob' with| .box _=>False| .bL _=>False|_=>True):dd h (h.set o ob'):=fun i ob q=>by
 by_cases hi:o=i
 ·subst hi
  rw[Zd (Zb.1 ho).1,ho]
  constructor
  ·intro e;cases e;rcases hD with rfl|rfl<;>exact q.elim
  ·intro e;cases e;revert q hb;cases ob'<;>simp
 ·rw[Za hi]
def dd.freezeL (h:List Y0)(l:L):dd h (Gi.freezeL h l):=by
 cases l with
 |arr o=>
  simp only[Gi.freezeL]
  split
  ·rename_i z es he
   exact dd.cC he (.inl rfl) trivial
  ·rename_i z es he
   exact dd.cC he (.inr rfl) trivial
  ·exact dd.refl h
 |_=>exact dd.refl h
def dd.freezeLs :∀(ls:List L)(h:List Y0),dd h (Gi.freezeLs h ls)
 |[],h=>dd.refl h
 |l::ls,h=>(dd.freezeL h l).trans (dd.freezeLs ls (Gi.freezeL h l))
def dd.freezeVs :∀(vs:List V)(h:List Y0),dd h (Gi.freezeVs h vs)
 |[],h=>dd.refl h
 |v::vs,h=>(dd.freezeLs v.cells h).trans (dd.freezeVs vs (Gi.freezeLs h v.cells))
def Rg {Z:St}{ao:AOp}(hc:ao.cN=true){v:V}{h':List Y0}(he:cz call Z ao=some (v,h')):dd Z.h h':=by
 cases ao with
 |bN z parts=>
  simp only[cz]at he
  split at he
  ·split at he
   ·cases he;exact(dd.freezeVs _ _).trans (dd.push _)
   ·cases he
  ·cases he
 |make b zero n=>
  simp only[cz]at he
  split at he
  ·split at he
   ·cases he;exact dd.push _
   ·cases he
  ·cases he
 |bw z x lo hi=>
  simp only[cz]at he
  split at he
  ·split at he
   ·split at he
    ·cases he;exact dd.freezeLs _ _
    ·cases he
   ·cases he
  ·cases he
 |append z b x y=>
  simp only[cz]at he
  split at he
  ·split at he
   ·cases he;exact dd.push _
   ·cases he
  ·split at he
   ·rename_i z' es ho
    split at he
    ·cases he;exact(dd.cC ho (.inl rfl) trivial).trans (dd.push _)
    ·cases he
   ·cases he
  ·cases he
 |bS b x y=>
  simp only[cz]at he
  split at he
  ·split at he
   ·cases he;exact dd.push _
   ·cases he
  ·split at he
   ·rename_i z' es ho
    split at he
    ·cases he;exact(dd.cC ho (.inl rfl) trivial).trans (dd.push _)
    ·cases he
   ·cases he
  ·cases he
 |bW z parts=>
  simp only[cz]at he
  split at he
  ·split at he
   ·cases he;exact(dd.freezeVs _ _).trans (dd.app fun ob ak=>by simp at ak;subst ak;trivial)
   ·cases he
  ·cases he
 |bI z b x y=>
  simp only[cz]at he
  split at he
  ·cases he
  ·rename_i sc c3
   split at he
   ·cases he
   ·split at he
    ·cases he
     refine(dd.freezeLs (y.ev Z).cells _).trans (dd.trans ?_ (dd.app fun ob ak=>by simp at ak;subst ak;trivial))
     rcases Jo c3 with⟨_,rfl⟩|⟨o,es,_,rfl,hd⟩
     ·exact dd.refl _
     ·have ak:∃ob,Z.h[o]? =some ob/\ ob.br z es:=by
       unfold bf at hd
       split at hd
       ·rename_i z' es' ho
        split at hd
        ·cases hd;exact⟨_,ho, .inl rfl⟩
        ·cases hd
       ·rename_i z' es' ho;cases hd;exact⟨_,ho, .inr rfl⟩
       ·cases hd
      obtain⟨ob,ho,hD⟩:=ak
      rcases pf.freezeLs (y.ev Z).cells Z.h o ob ho (by rcases hD with rfl|rfl<;>simp)with e1|⟨z',es',_,e1⟩
      ·exact dd.cC e1 hD trivial
      ·simp only[aA]
       intro i x q
       by_cases hi:o=i
       ·subst hi
        rw[Zd (Zb.1 e1).1,e1]
        constructor
        ·intro e;cases e;exact q.elim
        ·intro e;cases e;exact q.elim
       ·rw[Za hi]
    ·cases he
 |bO f xz=>
  have th:∀(h:List Y0)(r:V),dd h (thaw h r).2:=fun h r=>by
   obtain⟨l,e,ha⟩:=NG h r
   rw[e]
   exact dd.app ha
  simp only[cz]at he
  split at he
  ·split at he
   ·rename_i r _
    have c4:=Option.some.inj he
    have e2:=congrArg Prod.snd c4
    simp only at e2
    rw[<-e2]
    refine dd.trans ?_ (th _ _)
    split
    ·exact dd.refl _
    ·exact dd.freezeVs _ _
   ·cases he
  ·cases he
 |_=>simp[AOp.cN]at hc
def Jb {x:Z0}(hc:x.op.cN=true){Z:St}{h':List Y0}{v:V}(e:kL call x Z=some (v,h')):dd Z.h h':=by
 unfold kL at e
 split at e
 ·split at e
  ·cases e;exact dd.refl _
  ·exact Rg hc e
 ·cases e;exact dd.refl _
 ·cases e
def MN {h h':List Y0}(k:dd h h')(v:V):bU h v=bU h' v:=by
 cases v with
 |one l=>
  cases l with
  |ptr o i j=>
   simp only[bU]
   cases e1:h[o]? with
   |none=>
    cases e2:h'[o]? with
    |none=>rfl
    |some ob'=>
     cases ob' with
     |box cs=>rw[(k o _ trivial).2 e2]at e1;cases e1
     |bL cs=>rw[(k o _ trivial).2 e2]at e1;cases e1
     |_=>rfl
   |some ob=>
    cases ob with
    |box cs=>rw[(k o _ trivial).1 e1]
    |bL cs=>rw[(k o _ trivial).1 e1]
    |_=>
     cases e2:h'[o]? with
     |none=>rfl
     |some ob'=>
      cases ob' with
      |box cs=>rw[(k o _ trivial).2 e2]at e1;cases e1
      |bL cs=>rw[(k o _ trivial).2 e2]at e1;cases e1
      |_=>rfl
  |_=>rfl
 |_=>rfl
def RQ {h h':List Y0}(k:dd h h'){g:Bool}{n:Nat}(v:V)(q:bU h v=true):bA h g n v=bA h' g n v:=by
 unfold bU at q
 split at q
 ·rename_i o i j
  split at q
  ·rename_i cs e1
   simp only[bA,e1,(k o _ trivial).1 e1]
  ·rename_i cs e1
   simp only[bA,e1,(k o _ trivial).1 e1]
  ·cases q
 ·rfl
 ·cases q
def TL {h h':List Y0}(k:dd h h'){g:Bool}{n:Nat}(v:V):(if bU h v then bA h g n v else none)=(if bU h' v then bA h' g n v else none):=by
 by_cases q:bU h v=true
 ·rw[if_pos q,if_pos (by rw[<-MN k];exact q),RQ k v q]
 ·rw[if_neg q,if_neg (by rw[<-MN k];exact q)]
def Fo {x:Z0}(hc:x.op.cV=true){t:List V}{h h1 h':List Y0}(k:dd h h'){v:V}(e:kL call x ⟨t,h⟩=some (v,h1)):h1=h/\ kL call x ⟨t,h'⟩=some (v,h'):=by
 unfold kL at e⊢
 rw[om (h:=h') (h':=h)]
 have hf:bG call ⟨t,h⟩ x.op=bG call ⟨t,h'⟩ x.op/\ ∀s,cz call s x.op=none:=by
  cases hx:x.op with
  |c1 g n a=>
   refine⟨?_,fun _=>rfl⟩
   simp only[bG]
   rw[ve (h:=h) (h':=h')]
   exact TL k _
  |_=>rw[hx]at hc;cases hc
 split at e
 ·rw[<-hf.1]
  split at e
  ·cases e;exact⟨rfl,rfl⟩
  ·rw[hf.2]at e;cases e
 ·cases e;exact⟨rfl,rfl⟩
 ·cases e
def O8 {h h':List Y0}{n:Nat}{a v:V}(q:bU h a=true)(e:bD h n a v=some h'):∃o cs cs',h[o]? =some (.box cs)/\ h'=h.set o (.box cs'):=by
 simp only[bD]at e
 split at e
 ·split at e
  ·rename_i o i j
   split at e
   ·rename_i cs ho
    split at e
    ·cases e;exact⟨o,cs,_,ho,rfl⟩
    ·cases e
   ·rename_i z es ho
    simp[bU,ho]at q
   ·cases e
  ·cases e
 ·cases e
def rZ {h:List Y0}{o:Nat}{cs cs':List L}(ho:h[o]? =some (.box cs))(i:Nat):(h.set o (.box cs'))[i]? =h[i]? \/(h[i]? =some (.box cs)/\ (h.set o (.box cs'))[i]? =some (.box cs')):=by
 by_cases e:o=i
 ·subst e
  exact .inr ⟨ho,Zd (Zb.1 ho).1⟩
 ·exact .inl (Za e)
def RJ {h:List Y0}{o:Nat}{cs cs':List L}(ho:h[o]? =some (.box cs))(v:V):bU (h.set o (.box cs')) v=bU h v:=by
 cases v with
 |one l=>
  cases l with
  |ptr i a b=>
   simp only[bU]
   rcases rZ (cs':=cs') ho i with e|⟨e1,e2⟩
   ·rw[e]
   ·rw[e1,e2]
  |_=>rfl
 |_=>rfl
def RP {h:List Y0}{o:Nat}{cs cs':List L}(ho:h[o]? =some (.box cs)){g:Bool}{n:Nat}(v:V):(if bU (h.set o (.box cs')) v then none else bA (h.set o (.box cs')) g n v)=(if bU h v then none else bA h g n v):=by
 rw[RJ ho]
 by_cases q:bU h v=true
 ·rw[if_pos q,if_pos q]
 ·rw[if_neg q,if_neg q]
  cases v with
  |one l=>
   cases l with
   |ptr i a b=>
    simp only[bA]
    rcases rZ (cs':=cs') ho i with e|⟨e1,e2⟩
    ·rw[e]
    ·simp[bU,e1]at q
   |_=>rfl
  |_=>rfl
def Mc {h:List Y0}{o:Nat}{cs cs':List L}(ho:h[o]? =some (.box cs)){z:Nat}(x:V)(i:Nat):aJ (h.set o (.box cs')) z x i=aJ h z x i:=by
 cases x with
 |one l=>
  cases l with
  |arr q=>
   simp only[aJ]
   rcases rZ (cs':=cs') ho q with e|⟨e1,e2⟩
   ·rw[e]
   ·rw[e1,e2]
  |pv p=>cases p<;>rfl
  |_=>rfl
 |_=>rfl
def Ob {h:List Y0}{o:Nat}{cs cs':List L}(ho:h[o]? =some (.box cs))(x:V):asList (h.set o (.box cs')) x=asList h x:=by
 cases x with
 |one l=>
  cases l with
  |arr q=>
   simp only[asList,L.view]
   rcases rZ (cs':=cs') ho q with e|⟨e1,e2⟩
   ·rw[e]
   ·rw[e1,e2]
  |pv p=>cases p<;>rfl
  |_=>rfl
 |_=>rfl
def L9 {nb:Bool}{x:Z0}(hc:x.op.cS nb=true){t:List V}{h:List Y0}{o:Nat}{cs cs':List L}(ho:h[o]? =some (.box cs)):kL call x ⟨t,h.set o (.box cs')⟩=(kL call x ⟨t,h⟩).map fun y=>(y.1,h.set o (.box cs')):=by
 have hf:bG call ⟨t,h.set o (.box cs')⟩ x.op=bG call ⟨t,h⟩ x.op/\ ∀s,cz call s x.op=none:=by
  cases hx:x.op with
  |bp g n a=>
   refine⟨?_,fun _=>rfl⟩
   simp only[bG]
   rw[ve (h:=h.set o (.box cs')) (h':=h)]
   exact RP ho _
  |bF z a i=>
   refine⟨?_,fun _=>rfl⟩
   simp only[bG]
   rw[ve (x:=a) (h:=h.set o (.box cs')) (h':=h),ve (x:=i) (h:=h.set o (.box cs')) (h':=h)]
   simp only[Mc ho]
  |len a=>
   refine⟨?_,fun _=>rfl⟩
   simp only[bG]
   rw[ve (x:=a) (h:=h.set o (.box cs')) (h':=h),Ob ho]
  |_=>rw[hx]at hc;cases hc
 unfold kL
 rw[om (h:=h.set o (.box cs')) (h':=h)]
 cases bc ⟨t,h⟩ x.guard with
 |none=>rfl
 |some b=>
  cases b with
  |false=>rfl
  |true=>
   simp only
   rw[hf.1,hf.2,hf.2]
   cases bG call ⟨t,h⟩ x.op<;>rfl
def sJ {nb:Bool}{x:Z0}(hc:x.op.cS nb=true){t:List V}{h h1:List Y0}{v:V}(e:kL call x ⟨t,h⟩=some (v,h1)):h1=h:=by
 have he:∀s,cz call s x.op=none:=by
  cases hx:x.op with
  |bp g n a=>exact fun _=>rfl
  |bF z a i=>exact fun _=>rfl
  |len a=>exact fun _=>rfl
  |_=>rw[hx]at hc;cases hc
 unfold kL at e
 split at e
 ·split at e
  ·cases e;rfl
  ·rw[he]at e;cases e
 ·cases e;rfl
 ·cases e
def Ma {x:Z0}(hc:x.op.cW=true){t:List V}{h h1:List Y0}{v:V}(e:kL call x ⟨t,h⟩=some (v,h1)):h1=h \/∃o cs cs',h[o]? =some (.box cs)/\ h1=h.set o (.box cs'):=by
 cases hx:x.op with
 |bQ n a y=>
  unfold kL at e
  rw[hx]at e
  split at e
  ·split at e
   ·rename_i hf;cases hf
   ·simp only[cz]at e
    split at e
    ·rename_i hq
     split at e
     ·rename_i h2 hs
      cases e
      exact .inr (O8 hq hs)
     ·cases e
    ·cases e
  ·cases e;exact .inl rfl
  ·cases e
 |_=>rw[hx]at hc;cases hc
def Fp {x:Z0}(hc:x.op.cX=true){t:List V}{h h1 h':List Y0}{v:V}(e:kL call x ⟨t,h⟩=some (v,h1)):h1=h/\ kL call x ⟨t,h'⟩=some (v,h'):=by
 cases hx:x.op with
 |storeT n a y=>
  unfold kL at e⊢
  rw[om (h:=h') (h':=h)]
  rw[hx]at e⊢
  split at e
  ·split at e
   ·rename_i hf;cases hf
   ·simp only[cz]at e
    simp only[bG,cz]
    rw[ve (x:=a) (h:=h') (h':=h),ve (x:=y) (h:=h') (h':=h)]
    split at e
    ·rename_i m b6
     split at e
     ·rename_i hq
      cases e
      refine⟨rfl,?_⟩
      simp only[b6,if_pos hq]
     ·cases e
    ·cases e
  ·cases e;exact⟨rfl,rfl⟩
  ·cases e
 |_=>rw[hx]at hc;cases hc
def Fj {x:Z0}{n:Nat}(hx:x.op= .bU n){t:List V}{h:List Y0}:(∀h',kL call x ⟨t,h'⟩=some (.one (.tp n),h'++[.bT n])) \/(∀h',kL call x ⟨t,h'⟩=some (.b9 [],h')) \/(∀h',kL call x ⟨t,h'⟩=none):=by
 have hw:∀h',bc ⟨t,h'⟩ x.guard=bc ⟨t,h⟩ x.guard:=fun h'=>om
 cases q:bc ⟨t,h⟩ x.guard with
 |none=>exact .inr (.inr fun h'=>by unfold kL;rw[hw,q])
 |some b=>
  cases b with
  |true=>exact .inl fun h'=>by unfold kL;rw[hw,q,hx];rfl
  |false=>exact .inr (.inl fun h'=>by unfold kL;rw[hw,q])
def Ff {h:List Y0}{i:Nat}{cs:List L}(hi:h[i]? =some .res)(o:Nat):bf (h.set i (.box cs)) o=bf h o:=by
 unfold bf
 by_cases q:i=o
 ·subst q
  rw[Zd (Zb.1 hi).1,hi]
 ·rw[Za q]
def Rc {h:List Y0}{i o:Nat}{r:Nat×List (List PV)}(hi:h[i]? =some .res)(e:bf h o=some r):o≠i:=by
 rintro rfl
 simp[bf,hi]at e
def Uc {h:List Y0}{i z:Nat}{cs:List L}(hi:h[i]? =some .res)(v:V):fm (h.set i (.box cs)) z v=fm h z v:=by
 unfold fm
 split<;>simp only[Ff hi]
def Vx {h:List Y0}{i z:Nat}{cs:List L}(hi:h[i]? =some .res)(src:Option (Nat×List (List PV)))(v:V):nq (h.set i (.box cs)) z src v=nq h z src v:=by
 unfold nq
 split<;>simp only[Ff hi]
def MB {h:List Y0}{i:Nat}{cs:List L}(hi:h[i]? =some .res)(l:L):freezeL (h.set i (.box cs)) l=(freezeL h l).set i (.box cs)/\ (freezeL h l)[i]? =some .res:=by
 have aj:=(Zb.1 hi).1
 cases l with
 |arr o=>
  by_cases q:i=o
  ·subst q
   simp only[freezeL,Zd aj,hi]
   exact⟨trivial,trivial⟩
  ·simp only[freezeL,Za q]
   split
   ·exact⟨List.set_comm _ _ q,by rw[Za (fun e=>q e.symm)];exact hi⟩
   ·exact⟨List.set_comm _ _ q,by rw[Za (fun e=>q e.symm)];exact hi⟩
   ·exact⟨rfl,hi⟩
 |_=>exact⟨rfl,hi⟩
def um {i:Nat}{cs:List L}:∀(ls:List L){h:List Y0},h[i]? =some .res->freezeLs (h.set i (.box cs)) ls=(freezeLs h ls).set i (.box cs)/\ (freezeLs h ls)[i]? =some .res
 |[],h,hi=>⟨rfl,hi⟩
 |l::ls,h,hi=>by
  obtain⟨e1,e2⟩:=MB (cs:=cs) hi l
  obtain⟨e3,e4⟩:=um (cs:=cs) ls e2
  simp only[freezeLs,List.foldl_cons]at e3 e4⊢
  rw[e1]
  exact⟨e3,e4⟩
def LL {h:List Y0}{i z b:Nat}{x y:Opd}{t:List V}{cs:List L}(hi:h[i]? =some .res):cz call ⟨t,h.set i (.box cs)⟩ (.bI z b x y)=(cz call ⟨t,h⟩ (.bI z b x y)).map (fun q=>(q.1,q.2.set i (.box cs)))/\
 ∀q,cz call ⟨t,h⟩ (.bI z b x y)=some q->q.2[i]? =some .res:=by
 have aj:=(Zb.1 hi).1
 simp only[cz]
 rw[ve (x:=x) (h:=h.set i (.box cs)) (h':=h),ve (x:=y) (h:=h.set i (.box cs)) (h':=h),Uc hi]
 cases hs:fm h z (x.ev ⟨t,h⟩)with
 |none=>exact⟨rfl,fun q e=>by cases e⟩
 |some src=>
  simp only[Vx hi]
  cases hy:nq h z src (y.ev ⟨t,h⟩)with
  |none=>exact⟨rfl,fun q e=>by cases e⟩
  |some ys=>
   simp only
   obtain⟨f1,f2⟩:=um (cs:=cs) (y.ev ⟨t,h⟩).cells hi
   have aF:i<(freezeLs h (y.ev ⟨t,h⟩).cells).length:=(Zb.1 f2).1
   have g1:aA src ((freezeLs h (y.ev ⟨t,h⟩).cells).set i (.box cs))=(aA src (freezeLs h (y.ev ⟨t,h⟩).cells)).set i (.box cs)/\ (aA src (freezeLs h (y.ev ⟨t,h⟩).cells))[i]? =some .res:=by
    cases src with
    |none=>exact⟨rfl,f2⟩
    |some x0=>
     have ae:x0.1≠i:=by
      unfold fm at hs
      split at hs
      ·cases hs
      ·rename_i o _
       split at hs
       ·rename_i z' es hd
        split at hs
        ·cases hs
         exact Rc hi hd
        ·cases hs
       ·cases hs
      ·cases hs
     exact⟨List.set_comm _ _ fun e=>ae e.symm,by simp only[aA];rw[Za ae];exact f2⟩
   have bK:i<(aA src (freezeLs h (y.ev ⟨t,h⟩).cells)).length:=(Zb.1 g1.2).1
   rw[f1,g1.1]
   split
   ·refine⟨?_,fun q e=> ?_⟩
    ·simp only[Option.map_some,ZK]
     rw[List.set_append_left _ _ bK]
    ·cases e
     simp only
     rw[Ze bK]
     exact g1.2
   ·exact⟨rfl,fun q e=>by cases e⟩
def L8 {x:Z0}{z b:Nat}{p q:Opd}(hx:x.op= .bI z b p q){t:List V}{h:List Y0}{i:Nat}{cs:List L}(hi:h[i]? =some .res):kL call x ⟨t,h.set i (.box cs)⟩=(kL call x ⟨t,h⟩).map (fun y=>(y.1,y.2.set i (.box cs)))/\ ∀y,kL call x ⟨t,h⟩=some y->y.2[i]? =some .res:=by
 obtain⟨e1,e2⟩:=LL (call:=call) (z:=z) (b:=b) (x:=p) (y:=q) (t:=t) (cs:=cs) hi
 unfold kL
 rw[om (h:=h.set i (.box cs)) (h':=h),hx]
 cases bc ⟨t,h⟩ x.guard with
 |none=>exact⟨rfl,fun y e=>by cases e⟩
 |some w=>
  cases w with
  |true=>simp only[bG];exact⟨e1,e2⟩
  |false=>exact⟨rfl,fun y e=>by cases e;exact hi⟩
def Kf {h:List Y0}{i:Nat}{l:L}(e:(freezeL h l)[i]? =some .res):h[i]? =some .res:=by
 cases l with
 |arr o=>
  simp only[freezeL]at e
  by_cases q:o=i
  ·subst q
   split at e
   ·rename_i ho;rw[Zd (Zb.1 ho).1]at e;cases e
   ·rename_i ho;rw[Zd (Zb.1 ho).1]at e;cases e
   ·exact e
  ·split at e
   ·rwa[Za q]at e
   ·rwa[Za q]at e
   ·exact e
 |_=>exact e
def td {i:Nat}:∀(ls:List L){h:List Y0},(freezeLs h ls)[i]? =some .res->h[i]? =some .res
 |[],h,e=>e
 |l::ls,h,e=>Kf (td ls (h:=freezeL h l) e)
def HW {x:Z0}{z b:Nat}{p q:Opd}(hx:x.op= .bI z b p q){t:List V}{h h1:List Y0}{v:V}{i:Nat}(e:kL call x ⟨t,h⟩=some (v,h1))(hi:h1[i]? =some .res):h[i]? =some .res:=by
 unfold kL at e
 split at e
 ·rw[hx]at e
  simp only[bG,cz]at e
  split at e
  ·cases e
  ·rename_i src hs
   split at e
   ·cases e
   ·split at e
    ·cases e
     by_cases hl:i<(aA src (freezeLs h (q.ev ⟨t,h⟩).cells)).length
     ·rw[Ze hl]at hi
      refine td (q.ev ⟨t,h⟩).cells ?_
      cases src with
      |none=>exact hi
      |some x0=>
       simp only[aA]at hi hl⊢
       by_cases hq:x0.1=i
       ·rw[ZK]at hl
        rw[hq,Zd hl]at hi
        cases hi
       ·rwa[Za hq]at hi
     ·rw[Zk (by omega)]at hi
      cases hk:i-(aA src (freezeLs h (q.ev ⟨t,h⟩).cells)).length with
      |zero=>rw[hk]at hi;simp at hi
      |succ n=>rw[hk]at hi;simp at hi
    ·cases e
 ·cases e;exact hi
 ·cases e
def NZ {h:List Y0}{i:Nat}{cs:List L}(hi:h[i]? =some .res)(l:L):l.view (h.set i (.box cs))=l.view h:=by
 cases l with
 |arr o=>
  by_cases q:i=o
  ·subst q
   simp only[L.view,Zd (Zb.1 hi).1,hi]
  ·simp only[L.view,Za q]
 |_=>rfl
def Jx {h:List Y0}{i:Nat}{cs:List L}(hi:h[i]? =some .res):∀ls:List L,viewL (h.set i (.box cs)) ls=viewL h ls
 |[]=>rfl
 |l::ls=>by simp only[viewL,NZ hi,Jx hi ls]
def SB {h:List Y0}{i:Nat}{cs:List L}(hi:h[i]? =some .res)(v:V):v.view (h.set i (.box cs))=v.view h:=by
 cases v with
 |one l=>cases l<;>simp only[V.view,NZ hi]
 |agg ls=>simp only[V.view,Jx hi]
 |b9 vs=>rfl
def A6 {h:List Y0}{i:Nat}{cs:List L}(hi:h[i]? =some .res):∀vs:List V,al (h.set i (.box cs)) vs=al h vs
 |[]=>rfl
 |v::vs=>by simp only[al,SB hi,A6 hi vs]
def Ab {i:Nat}{cs:List L}:∀(vs:List V){h:List Y0},h[i]? =some .res->freezeVs (h.set i (.box cs)) vs=(freezeVs h vs).set i (.box cs)/\ (freezeVs h vs)[i]? =some .res
 |[],h,hi=>⟨rfl,hi⟩
 |v::vs,h,hi=>by
  obtain⟨e1,e2⟩:=um (cs:=cs) v.cells hi
  obtain⟨e3,e4⟩:=Ab (cs:=cs) vs e2
  simp only[freezeVs,List.foldl_cons]at e3 e4⊢
  rw[e1]
  exact⟨e3,e4⟩
def tZ {i:Nat}{ob:Y0}:∀(ls:List L){h:List Y0},i<h.length->thawL (h.set i ob) ls=((thawL h ls).1,(thawL h ls).2.set i ob)/\ (thawL h ls).2[i]? =h[i]? /\ i<(thawL h ls).2.length
 |[],h,hi=>⟨rfl,rfl,hi⟩
 |l::ls,h,hi=>by
  have key:∀x:Y0,thawL (h.set i ob++[x]) ls=((thawL (h++[x]) ls).1,(thawL (h++[x]) ls).2.set i ob)/\ (thawL (h++[x]) ls).2[i]? =h[i]? /\ i<(thawL (h++[x]) ls).2.length:=fun x=>by
   obtain⟨e1,e2,e3⟩:=tZ (i:=i) (ob:=ob) ls (h:=h++[x]) (by simp;omega)
   rw[List.set_append_left _ _ hi]at e1
   rw[Ze hi]at e2
   exact⟨e1,e2,e3⟩
  cases l with
  |own z es=>
   obtain⟨e1,e2,e3⟩:=key (.arr z es)
   simp only[thawL]
   rw[e1]
   exact⟨by simp,e2,e3⟩
  |down z es=>
   obtain⟨e1,e2,e3⟩:=key (.bA z es)
   simp only[thawL]
   rw[e1]
   exact⟨by simp,e2,e3⟩
  |_=>
   obtain⟨e1,e2,e3⟩:=tZ (ob:=ob) ls hi
   simp only[thawL]
   rw[e1]
   exact⟨rfl,e2,e3⟩
def Jv {i:Nat}{ob:Y0}:∀(vs:List (Bool×List L)){h:List Y0},i<h.length->thawT (h.set i ob) vs=((thawT h vs).1,(thawT h vs).2.set i ob)/\ (thawT h vs).2[i]? =h[i]? /\ i<(thawT h vs).2.length
 |[],h,hi=>⟨rfl,rfl,hi⟩
 |(b,ls)::vs,h,hi=>by
  obtain⟨e1,e2,e3⟩:=tZ (ob:=ob) ls hi
  obtain⟨f1,f2,f3⟩:=Jv (ob:=ob) vs e3
  simp only[thawT]
  rw[e1]
  simp only
  rw[f1]
  exact⟨rfl,f2.trans e2,f3⟩
def NI {i:Nat}{ob:Y0}{h:List Y0}(hi:i<h.length)(r:V):thaw (h.set i ob) r=((thaw h r).1,(thaw h r).2.set i ob)/\ (thaw h r).2[i]? =h[i]? :=by
 cases r with
 |one l=>
  obtain⟨e1,e2,e3⟩:=tZ (ob:=ob) [l] hi
  simp only[thaw]
  rw[e1]
  cases q:thawL h [l]with
  |mk a b=>
   rw[q]at e2
   cases a with
   |nil=>exact⟨rfl,rfl⟩
   |cons x xs=>cases xs with
    |nil=>exact⟨rfl,e2⟩
    |cons _ _=>exact⟨rfl,rfl⟩
 |agg ls=>
  obtain⟨e1,e2,e3⟩:=tZ (ob:=ob) ls hi
  simp only[thaw]
  rw[e1]
  exact⟨rfl,e2⟩
 |b9 vs=>
  obtain⟨e1,e2,e3⟩:=Jv (ob:=ob) vs hi
  simp only[thaw]
  rw[e1]
  exact⟨rfl,e2⟩
def QZ {h:List Y0}{i f:Nat}{xz:List Opd}{t:List V}{cs:List L}(hi:h[i]? =some .res):cz call ⟨t,h.set i (.box cs)⟩ (.bO f xz)=(cz call ⟨t,h⟩ (.bO f xz)).map (fun q=>(q.1,q.2.set i (.box cs)))/\
 ∀q,cz call ⟨t,h⟩ (.bO f xz)=some q->q.2[i]? =some .res:=by
 have aj:=(Zb.1 hi).1
 have b6:xz.map (Opd.ev ⟨t,h.set i (.box cs)⟩)=xz.map (Opd.ev ⟨t,h⟩):=ZS fun x _=>ve
 simp only[cz]
 rw[b6,A6 hi]
 cases al h (xz.map (Opd.ev ⟨t,h⟩))with
 |none=>exact⟨rfl,fun q e=>by cases e⟩
 |some vs=>
  simp only
  cases call f vs with
  |none=>exact⟨rfl,fun q e=>by cases e⟩
  |some r=>
   simp only
   cases r.closed with
   |true=>
    simp only[if_true]
    obtain⟨e1,e2⟩:=NI (ob:= .box cs) aj r
    refine⟨by rw[e1];rfl,fun q e=> ?_⟩
    cases e
    exact e2.trans hi
   |false=>
    simp only[Zy,if_false]
    obtain⟨f1,f2⟩:=Ab (cs:=cs) (xz.map (Opd.ev ⟨t,h⟩)) hi
    obtain⟨e1,e2⟩:=NI (ob:= .box cs) (Zb.1 f2).1 r
    refine⟨by rw[f1,e1];rfl,fun q e=> ?_⟩
    cases e
    exact e2.trans f2
def I9 {x:Z0}{f:Nat}{xz:List Opd}(hx:x.op= .bO f xz){t:List V}{h:List Y0}{i:Nat}{cs:List L}(hi:h[i]? =some .res):kL call x ⟨t,h.set i (.box cs)⟩=(kL call x ⟨t,h⟩).map (fun y=>(y.1,y.2.set i (.box cs)))/\ ∀y,kL call x ⟨t,h⟩=some y->y.2[i]? =some .res:=by
 obtain⟨e1,e2⟩:=QZ (call:=call) (f:=f) (xz:=xz) (t:=t) (cs:=cs) hi
 unfold kL
 rw[om (h:=h.set i (.box cs)) (h':=h),hx]
 cases bc ⟨t,h⟩ x.guard with
 |none=>exact⟨rfl,fun y e=>by cases e⟩
 |some w=>
  cases w with
  |true=>simp only[bG];exact⟨e1,e2⟩
  |false=>exact⟨rfl,fun y e=>by cases e;exact hi⟩
def xH {i:Nat}:∀(vs:List V){h:List Y0},(freezeVs h vs)[i]? =some .res->h[i]? =some .res
 |[],h,e=>e
 |v::vs,h,e=>td v.cells (xH vs (h:=freezeLs h v.cells) e)
def pe {i:Nat}:∀(ls:List L){h:List Y0},(thawL h ls).2[i]? =some .res->h[i]? =some .res
 |[],h,e=>e
 |l::ls,h,e=>by
  have key:∀x:Y0,x≠ .res->(h++[x])[i]? =some .res->h[i]? =some .res:=fun x hx q=>by
   by_cases hl:i<h.length
   ·rwa[Ze hl]at q
   ·rw[Zk (by omega)]at q
    cases hk:i-h.length with
    |zero=>rw[hk]at q;simp at q;exact absurd q hx
    |succ n=>rw[hk]at q;simp at q
  cases l with
  |own z es=>exact key _ (by simp) (pe ls e)
  |down z es=>exact key _ (by simp) (pe ls e)
  |_=>exact pe ls e
def Hy {i:Nat}:∀(vs:List (Bool×List L)){h:List Y0},(thawT h vs).2[i]? =some .res->h[i]? =some .res
 |[],h,e=>e
 |(b,ls)::vs,h,e=>pe ls (Hy vs e)
def Sm {i:Nat}{h:List Y0}{r:V}(e:(thaw h r).2[i]? =some .res):h[i]? =some .res:=by
 cases r with
 |one l=>
  simp only[thaw]at e
  split at e
  ·rename_i l' h' q
   have:=pe [l] (h:=h) (i:=i)
   rw[q]at this
   exact this e
  ·exact e
 |agg ls=>exact pe ls e
 |b9 vs=>exact Hy vs e
def Fl {x:Z0}{f:Nat}{xz:List Opd}(hx:x.op= .bO f xz){t:List V}{h h1:List Y0}{v:V}{i:Nat}(e:kL call x ⟨t,h⟩=some (v,h1))(hi:h1[i]? =some .res):h[i]? =some .res:=by
 unfold kL at e
 split at e
 ·rw[hx]at e
  simp only[bG,cz]at e
  split at e
  ·split at e
   ·rename_i r hr
    simp only[Option.some.injEq]at e
    have hq:(thaw (if r.closed=true then h else freezeVs h (xz.map (Opd.ev ⟨t,h⟩))) r).2[i]? =some .res:=by rw[e];exact hi
    have:=Sm hq
    split at this
    ·exact this
    ·exact xH _ this
   ·cases e
  ·cases e
 ·cases e;exact hi
 ·cases e
def pj {x:Z0}{i:Nat}{zero:List L}(hx:x.op= .bJ i zero){t:List V}{h h1:List Y0}{v:V}(e:kL call x ⟨t,h⟩=some (v,h1)):
 (h[i]? =some .res/\ v= .one (.ptr i 0 0)/\ h1=h.set i (.box zero)/\ ∀h',h'[i]? =some .res->kL call x ⟨t,h'⟩=some (v,h'.set i (.box zero))) \/(h1=h/\ ∀h',kL call x ⟨t,h'⟩=some (v,h')):=by
 have hw:∀h',bc ⟨t,h'⟩ x.guard=bc ⟨t,h⟩ x.guard:=fun h'=>om
 cases q:bc ⟨t,h⟩ x.guard with
 |none=>unfold kL at e;rw[q]at e;cases e
 |some b=>
  cases b with
  |true=>
   unfold kL at e
   rw[q,hx]at e
   simp only[bG,cz]at e
   split at e
   ·rename_i hi
    cases e
    refine .inl ⟨hi,rfl,rfl,fun h' b7=> ?_⟩
    unfold kL
    rw[hw,q,hx]
    simp only[bG,cz,b7]
   ·cases e
  |false=>
   unfold kL at e
   rw[q]at e
   cases e
   exact .inr ⟨rfl,fun h'=>by unfold kL;rw[hw,q]⟩
def Sd {h h':List Y0}{n:Nat}{x v:V}(q:bU h x=true)(e:bD h n x v=some h'):∃o i j cs cs',x= .one (.ptr o i j)/\ h[o]? =some (.box cs)/\ h'=h.set o (.box cs'):=by
 simp only[bD]at e
 split at e
 ·split at e
  ·rename_i o i j
   split at e
   ·rename_i cs ho
    split at e
    ·cases e;exact⟨o,i,j,cs,_,rfl,ho,rfl⟩
    ·cases e
   ·rename_i z es ho
    simp[bU,ho]at q
   ·cases e
  ·cases e
 ·cases e
def JW {x y:Z0}{g:Bool}{n m r t':Nat}{a w:Opd}(hx:x.op= .bf g n a r)(hy:y.op= .bQ m (.tmp t') w)(hr:XC r t'=true){t:List V}{h h1:List Y0}{u:V}(e:kL call y ⟨t,h⟩=some (u,h1)):
 (∀{hh:List Y0}{v:V}{h2:List Y0},kL call x ⟨t,hh⟩=some (v,h2)->h2=hh)/\ kL call x ⟨t,h1⟩=(kL call x ⟨t,h⟩).map fun q=>(q.1,h1):=by
 have hs:∀{hh:List Y0}{v:V}{h2:List Y0},kL call x ⟨t,hh⟩=some (v,h2)->h2=hh:=by
  intro hh v h2 e
  unfold kL at e
  rw[hx]at e
  split at e
  ·split at e
   ·cases e;rfl
   ·cases e
  ·cases e;rfl
  ·cases e
 refine⟨hs,?_⟩
 have key:bG call ⟨t,h1⟩ x.op=bG call ⟨t,h⟩ x.op:=by
  unfold kL at e
  rw[hy]at e
  split at e
  ·split at e
   ·rename_i hf;cases hf
   ·simp only[cz]at e
    split at e
    ·rename_i hq
     split at e
     ·rename_i h2 c5
      cases e
      obtain⟨o,i,j,cs,cs',ho,hb,rfl⟩:=Sd hq c5
      rw[hx]
      simp only[bG]
      rw[ve (x:=a) (h:=h.set o (.box cs')) (h':=h),ve (x:= .tmp (r%65536)) (h:=h.set o (.box cs')) (h':=h),ve (x:= .tmp (r/65536)) (h:=h.set o (.box cs')) (h':=h)]
      cases hv:a.ev ⟨t,h⟩with
      |one l=>
       cases l with
       |ptr i' b c=>
        by_cases q:i'=o
        ·subst q
         unfold XC at hr
         rw[Zc1,Zh,beq_iff_eq,beq_iff_eq]at hr
         rcases hr with rfl|⟨b8,rfl⟩
         ·rw[ho];simp[nu]
         ·rw[ho]
          have c6:(r/65536==0)=false:=by simpa using b8
          simp[nu,c6]
        ·have q2:(h.set o (Y0.box cs'))[i']? =h[i']? :=Za (Ne.symm q)
         simp only[bA,q2]
       |_=>rfl
      |_=>rfl
     ·cases e
    ·cases e
  ·cases e;rfl
  ·cases e
 unfold kL
 rw[om (h:=h1) (h':=h)]
 cases bc ⟨t,h⟩ x.guard with
 |none=>rfl
 |some b=>
  cases b with
  |false=>rfl
  |true=>
   simp only
   rw[key,hx]
   cases bG call ⟨t,h⟩ (.bf g n a r)<;>rfl
def Ja {x:Z0}{i:Nat}(hx:x.op.place=some i){t:List V}{h h1:List Y0}{v:V}(e:kL call x ⟨t,h⟩=some (v,h1)):
 (∃ob ob',h[i]? =some ob/\ h1=h.set i ob'/\ ∀h',h'[i]? =some ob->kL call x ⟨t,h'⟩=some (v,h'.set i ob')) \/(h1=h/\ ∀h',kL call x ⟨t,h'⟩=some (v,h')):=by
 have hw:∀h',bc ⟨t,h'⟩ x.guard=bc ⟨t,h⟩ x.guard:=fun h'=>om
 cases au:x.op with
 |bJ j zero=>
  rw[au]at hx
  obtain rfl:j=i:=Option.some.inj hx
  rcases pj au e with⟨hi,rfl,rfl,a7⟩|⟨rfl,a7⟩
  ·exact .inl ⟨_,_,hi,rfl,a7⟩
  ·exact .inr ⟨rfl,a7⟩
 |storeAt j n a y=>
  rw[au]at hx
  obtain rfl:j=i:=Option.some.inj hx
  cases q:bc ⟨t,h⟩ x.guard with
  |none=>unfold kL at e;rw[q]at e;cases e
  |some b=>
   cases b with
   |true=>
    unfold kL at e
    rw[q,au]at e
    simp only[bG,cz]at e
    split at e
    ·rename_i o k cs ha hi
     split at e
     ·rename_i hp
      cases e
      refine .inl ⟨_,_,hi,rfl,fun h' b7=> ?_⟩
      unfold kL
      rw[hw,q,au]
      simp only[bG,cz]
      rw[ve (x:=a) (h:=h') (h':=h),ve (x:=y) (h:=h') (h':=h),ha,b7]
      simp only[if_pos hp]
     ·cases e
    ·cases e
   |false=>
    unfold kL at e
    rw[q]at e
    cases e
    exact .inr ⟨rfl,fun h'=>by unfold kL;rw[hw,q]⟩
 |_=>rw[au]at hx;cases hx
def On {nb:Bool}{x y:Z0}(hc:L2 nb x y=true){Z σ1 σ2:St}(h1:aG call x Z=some σ1)(h2:aG call y σ1=some σ2):∃σ3,aG call y Z=some σ3/\ aG call x σ3=some σ2:=by
 obtain⟨t,h⟩:=Z
 simp only[L2,Zh,Zc1,beq_iff_eq,Nat.ble_eq]at hc
 obtain⟨ar,c7⟩:=hc
 rw[CL,Zj]at h1 h2
 obtain⟨⟨v,hv⟩,e1,rfl⟩:=h1
 obtain⟨⟨u,hu⟩,e2,rfl⟩:=h2
 simp only at e1 e2
 rw[PP ar]at e2
 have fin:∀{h3:List Y0},kL call y ⟨t,h⟩=some (u,h3)->kL call x ⟨t,h3⟩=some (v,hu)->∃σ3,aG call y ⟨t,h⟩=some σ3/\ aG call x σ3=some ⟨put (put t x.dst v) y.dst u,hu⟩:=by
  intro h3 q1 q2
  refine⟨⟨put t y.dst u,h3⟩,by rw[CL,q1];rfl,?_⟩
  rw[CL,PP (LJ ar),q2,TX ar]
  rfl
 rcases c7 with(((((((((((hx|hy)|⟨hx,hy⟩)|⟨hx,hy⟩)|⟨hx,hy⟩)|⟨hx,hy⟩)|⟨hx,hy⟩)|hx)|hy)|ab)|ab)|ab)|ab
 ·obtain⟨rfl,_⟩:=Fq (h':=h) hx e1
  exact fin e2 (Fq hx e1).2
 ·obtain⟨rfl,q⟩:=Fq (h':=h) hy e2
  exact fin q e1
 ·obtain⟨rfl,_⟩:=Mb hx (pf.refl _) e1
  exact fin e2 (Mb hx (V8 hy e2) e1).2
 ·obtain⟨rfl,_⟩:=Fo hx (dd.refl _) e1
  exact fin e2 (Fo hx (Jb hy e2) e1).2
 ·obtain⟨rfl,q⟩:=Fo hy (Jb hx e1).symm e2
  exact fin q e1
 ·obtain rfl:=sJ hx e1
  refine fin e2 ?_
  rcases Ma hy e2 with rfl|⟨o,cs,cs',ho,rfl⟩
  ·exact e1
  ·rw[L9 hx ho,e1]
   rfl
 ·rcases Ma hx e1 with rfl|⟨o,cs,cs',ho,rfl⟩
  ·obtain rfl:=sJ hy e2
   exact fin e2 e1
  ·rw[L9 hy ho,Zj]at e2
   obtain⟨⟨u',h3⟩,q1,q2⟩:=e2
   obtain rfl:=sJ hy q1
   cases q2
   exact fin q1 e1
 ·obtain⟨rfl,_⟩:=Fp (h':=h) hx e1
  exact fin e2 (Fp hx e1).2
 ·obtain⟨rfl,q⟩:=Fp (h':=h) hy e2
  exact fin q e1
 ·unfold T3 at ab
  split at ab
  ·rename_i n m hx hy
   have c9:n=m:=by simpa using ab
   subst c9
   rcases Fj (call:=call) hx (t:=t) (h:=h)with p|p|p
   ·rw[p]at e1
    cases e1
    rcases Fj (call:=call) hy (t:=t) (h:=h)with q|q|q
    ·rw[q]at e2
     cases e2
     exact fin (q h) (p _)
    ·rw[q]at e2
     cases e2
     exact fin (q h) (p _)
    ·rw[q]at e2;cases e2
   ·rw[p]at e1
    cases e1
    exact fin e2 (p _)
   ·rw[p]at e1;cases e1
  ·cases ab
 ·unfold VN at ab
  split at ab
  ·rename_i i zero z b p q hx hy
   rcases pj hx e1 with⟨hi,rfl,rfl,a7⟩|⟨rfl,a7⟩
   ·obtain⟨a1,a2⟩:=L8 (call:=call) hy (t:=t) (cs:=zero) hi
    rw[a1,Zj]at e2
    obtain⟨⟨u',h3⟩,q1,q2⟩:=e2
    cases q2
    exact fin q1 (a7 _ (a2 _ q1))
   ·exact fin e2 (a7 _)
  ·rename_i z b p q i zero hx hy
   rcases pj hy e2 with⟨hi,rfl,rfl,a7⟩|⟨rfl,a7⟩
   ·have aI:h[i]? =some .res:=HW hx e1 hi
    obtain⟨a1,a2⟩:=L8 (call:=call) hx (t:=t) (cs:=zero) aI
    exact fin (a7 _ aI) (by rw[a1,e1];rfl)
   ·exact fin (a7 _) e1
  ·rename_i i zero f xz hx hy
   rcases pj hx e1 with⟨hi,rfl,rfl,a7⟩|⟨rfl,a7⟩
   ·obtain⟨a1,a2⟩:=I9 (call:=call) hy (t:=t) (cs:=zero) hi
    rw[a1,Zj]at e2
    obtain⟨⟨u',h3⟩,q1,q2⟩:=e2
    cases q2
    exact fin q1 (a7 _ (a2 _ q1))
   ·exact fin e2 (a7 _)
  ·rename_i f xz i zero hx hy
   rcases pj hy e2 with⟨hi,rfl,rfl,a7⟩|⟨rfl,a7⟩
   ·have aI:h[i]? =some .res:=Fl hx e1 hi
    obtain⟨a1,a2⟩:=I9 (call:=call) hx (t:=t) (cs:=zero) aI
    exact fin (a7 _ aI) (by rw[a1,e1];rfl)
   ·exact fin (a7 _) e1
  ·cases ab
 ·unfold Xm at ab
  split at ab
  ·rename_i g n a r m t' w hx hy
   obtain rfl:=(JW hx hy ab e2).1 e1
   exact fin e2 (by rw[(JW hx hy ab e2).2,e1];rfl)
  ·rename_i m t' w g n a r hx hy
   rw[(JW hy hx ab e1).2,Zj]at e2
   obtain⟨⟨u',h3⟩,q1,q2⟩:=e2
   obtain rfl:=(JW hy hx ab e1).1 q1
   cases q2
   exact fin q1 e1
  ·cases ab
 ·unfold Xr at ab
  split at ab
  ·rename_i i j hx hy
   have ae:i≠j:=by simpa using ab
   rcases Ja hx e1 with⟨ob,ob',g1,rfl,g2⟩|⟨rfl,g2⟩
   ·rcases Ja hy e2 with⟨oc,cB,k1,rfl,k2⟩|⟨rfl,k2⟩
    ·rw[Za ae]at k1
     exact fin (k2 _ k1) (by rw[g2 _ (by rw[Za (Ne.symm ae)];exact g1),List.set_comm _ _ ae])
    ·exact fin (k2 _) e1
   ·exact fin e2 (g2 _)
  ·cases ab
inductive Anc (ops:Array Oper) (listed:Array Bool) (k:Nat):Nat->Prop
 |dir {i:Nat} {o:Oper} {e:Edge}:ops[i]? =some o->e∈o.after->Region.binds .any e=true->listed.getD e.on true=false->e.on=k->Anc ops listed k i
 |via {i:Nat} {o:Oper} {e:Edge}:ops[i]? =some o->e∈o.after->Region.binds .any e=true->listed.getD e.on true=false->Anc ops listed k e.on->Anc ops listed k i
def xQ {ops:Array Oper}{listed:Array Bool}{j:Nat}(hj:j∈Region.ready .any ops listed){o:Oper}{e:Edge}(ho:ops[j]? =some o)(he:e∈o.after)(hb:Region.binds .any e=true)(hu:listed.getD e.on true=false):False:=by
 obtain⟨_,o',ho',a7⟩:=mem_ready.1 hj
 rw[ho]at ho';cases ho'
 have h1:=a7 e he hb
 rcases Nat.lt_or_ge e.on listed.size with h'|h'
 ·simp[h']at hu h1;rw[hu]at h1;cases h1
 ·simp[Za4 h']at h1
def xP {ops:Array Oper}{listed:Array Bool}{k j:Nat}(hj:j∈Region.ready .any ops listed)(h:Anc ops listed k j):False:=by
 cases h with
 |dir ho he hb hu _=>exact xQ hj ho he hb hu
 |via ho he hb hu _=>exact xQ hj ho he hb hu
def SW {ops:Array Oper}{listed:Array Bool}{k j:Nat}(hj:j∈Region.ready .any ops listed)(aU:j≠k){i:Nat}(h:Anc ops listed k i):Anc ops (listed.setIfInBounds j true) k i:=by
 induction h with
 |dir ho he hb hu hk=>exact .dir ho he hb (by rw[hk]at hu⊢;rw[getD_set_ne true aU];exact hu) hk
 |via ho he hb hu ha ih=>
  rename_i i o e
  by_cases q:j=e.on
  ·exact(xP (q▸hj) ha).elim
  ·exact .via ho he hb (by rw[getD_set_ne true q];exact hu) ih
def EU {ops:Array Oper}{listed:Array Bool}{k:Nat}:∀(l:List Oper)(acc:Array Bool),(∀j,l[j]? =ops[acc.size+j]?)->(∀i,acc.getD i false=true->Anc ops listed k i)->∀i,(QO listed k l acc).getD i false=true->Anc ops listed k i
 |[],acc,_,ha,i,h=>ha i h
 |o::l,acc,hl,ha,i,h=>by
  simp only[QO]at h
  refine EU l _ (fun j=> ?_) (fun i hi=> ?_) i h
  ·have:=hl (j+1)
   simp only[P']at this
   rw[this,Array.size_push]
   congr 1
   omega
  ·by_cases q:i<acc.size
   ·refine ha i ?_
    simp only[Array.getD_eq_getD_getElem?]at hi⊢
    rwa[Array.getElem?_push_lt q,<-Array.getElem?_eq_getElem q]at hi
   ·by_cases q2:i=acc.size
    ·subst q2
     simp only[Array.getD_eq_getD_getElem?,Array.getElem?_push_size,Za3,Array.any_eq_true]at hi
     obtain⟨x,hx,hq⟩:=hi
     simp only[Zh,ZJ,Zc1,beq_iff_eq]at hq
     obtain⟨⟨hb,hu⟩,hq⟩:=hq
     have ho:ops[acc.size]? =some o:=by simpa using(hl 0).symm
     rcases hq with hk|hk
     ·exact .dir ho (Array.getElem_mem hx) hb (by simpa using hu) hk
     ·exact .via ho (Array.getElem_mem hx) hb (by simpa using hu) (ha _ (by simpa using hk))
    ·rw[Array.getD_eq_getD_getElem?,Za4 (by simp;omega)]at hi
     simp at hi
def Do (call:Nat->List V->Option V)(a6:List Z0)(i:Nat)(Z:St):Option St:=
 match a6[i]? with
 |none=>some Z
 |some oo=>aG call oo Z
def AH (call:Nat->List V->Option V)(a6:List Z0):List Nat->St->Option St
 |[],Z=>some Z
 |i::l,Z=>match Do call a6 i Z with
  |some Z'=>AH call a6 l Z'
  |none=>none
def SU (call:Nat->List V->Option V)(ops:Array Oper)(a6:List Z0)(σ₁:St):Nat->Array Bool->St->Prop
 |0,listed,Z=>Region.ready .any ops listed=[]/\ Z=σ₁
 |fuel+1,listed,Z=>(Region.ready .any ops listed=[]->Z=σ₁)/\ ∀i∈Region.ready .any ops listed,∃Z',Do call a6 i Z=some Z'/\ SU call ops a6 σ₁ fuel (listed.setIfInBounds i true) Z'
def N8 {ops:Array Oper}{a6:List Z0}{σ₁:St}:∀(fuel t:Nat)(listed:Array Bool)(Z:St),SU call ops a6 σ₁ fuel listed Z->AH call a6 (Region.linearise.go .any ops fuel t listed []) Z=some σ₁:=by
 intro fuel
 induction fuel with
 |zero=>intro t listed Z h;simpa[Region.linearise.go,AH]using h.2
 |succ fuel ih=>
  intro t listed Z h
  obtain⟨h₀,h₁⟩:=h
  simp only[Region.linearise.go]
  change AH call a6 (match(Region.ready .any ops listed)[t%(Region.ready .any ops listed).length]? with
   |some i=>Region.linearise.go .any ops fuel (t/(Region.ready .any ops listed).length) (listed.setIfInBounds i true) [i]
   |none=>[].reverse) Z=some σ₁
  cases hi:(Region.ready .any ops listed)[t%(Region.ready .any ops listed).length]? with
  |none=>
   have bd:Region.ready .any ops listed=[]:=by
    cases hr:Region.ready .any ops listed with
    |nil=>rfl
    |cons x xs=>
     rw[hr]at hi
     have aj:t%(x::xs).length<(x::xs).length:=Nat.mod_lt _ (by simp)
     simp at hi
     simp at aj
     omega
   simp[AH,h₀ bd]
  |some i=>
   simp only[]
   rw[linearise_go_acc,List.reverse_singleton,List.singleton_append]
   obtain⟨Z',e1,e2⟩:=h₁ i (Zl hi)
   simp only[AH,e1]
   exact ih _ _ _ e2
def N7 {nb:Bool}{ops:Array Oper}{a6:List Z0}{σ₁:St}(hlen:a6.length=ops.size){i:Nat}{oi:Z0}(hi:a6[i]? =some oi):
 ∀(fuel:Nat)(listed:Array Bool)(Z Z':St),(∀j oj,a6[j]? =some oj->j≠i->listed.getD j true=false->¬Anc ops listed i j->L2 nb oi oj=true)->
  i∈Region.ready .any ops listed->aG call oi Z=some Z'->SU call ops a6 σ₁ fuel (listed.setIfInBounds i true) Z'->SU call ops a6 σ₁ (fuel+1) listed Z:=by
 have az:∀{Z Z':St},aG call oi Z=some Z'->Do call a6 i Z=some Z':=fun{Z Z'}h=>by
  simp only[Do,hi,h]
 intro fuel
 induction fuel with
 |zero=>
  intro listed Z Z' _ hr hy H
  refine⟨fun h=>(by rw[h]at hr;cases hr),fun j hj=> ?_⟩
  by_cases av:j=i
  ·subst av;exact⟨_,az hy,H⟩
  ·have:=ready_mono (md:= .any) hj av
   rw[H.1]at this
   cases this
 |succ fuel ih=>
  intro listed Z Z' aB hr hy H
  refine⟨fun h=>(by rw[h]at hr;cases hr),fun j hj=> ?_⟩
  by_cases av:j=i
  ·subst av;exact⟨_,az hy,H⟩
  ·obtain⟨σj,e1,e2⟩:=H.2 j (ready_mono hj av)
   obtain⟨aK,o,ho,a7⟩:=mem_ready.1 hj
   have bg:j<a6.length:=by rw[hlen];exact(R'.1 ho).1
   have bh:a6[j]? =some a6[j]:=by simp[bg]
   have hc:=aB j _ bh av aK (fun h=>xP hj h)
   simp only[Do,bh]at e1
   obtain⟨σ3,q1,q2⟩:=On hc hy e1
   refine⟨σ3,by simp only[Do,bh,q1],?_⟩
   refine ih (listed.setIfInBounds j true) σ3 σj (fun k ok hk ca aV aw=> ?_) (ready_mono hr (Ne.symm av)) q2 ?_
   ·refine aB k ok hk ca ?_ (fun h=>aw (SW hj av h))
    by_cases aU:j=k
    ·subst aU;exact aK
    ·rw[getD_set_ne true aU]at aV;exact aV
   ·rw[Array.setIfInBounds_comm _ _ av]
    exact e2
def Rw {nb:Bool}{ops:Array Oper}{a6:List Z0}{listed:Array Bool}{k:Nat}{ok:Z0}(hk:a6[k]? =some ok)(h:Tt nb ops a6 listed k=true):
 ∀j oj,a6[j]? =some oj->j≠k->listed.getD j true=false->¬Anc ops listed k j->L2 nb ok oj=true:=by
 intro j oj hj ae aV hw
 have bg:j<a6.length:=(Zb.1 hj).1
 simp only[Tt,Zt,List.mem_range]at h
 have:=h j bg
 have ha:(QO listed k ops.toList #[]).getD j false=false:=by
  cases q:(QO listed k ops.toList #[]).getD j false with
  |false=>rfl
  |true=>exact(hw (EU ops.toList #[] (fun j=>by simp) (fun i hi=>by simp at hi) j q)).elim
 simp only[hk,hj,aV,ha,Bool.or_false,Zc1,beq_iff_eq,ae,false_or]at this
 exact this
def LI {nb:Bool}{ops:Array Oper}{a6:List Z0}{σ₁:St}(hlen:a6.length=ops.size):∀(l:List Z0)(k:Nat)(listed:Array Bool)(Z:St),(∀j,l[j]? =a6[k+j]?)->
 n7 nb ops a6 l.length k listed=true->ah call l Z=some σ₁->SU call ops a6 σ₁ l.length listed Z
 |[],_,_,_,_,hB,h=>⟨by simpa[n7]using hB,by simpa[ah]using h⟩
 |o::l,k,listed,Z,hl,hB,h=>by
  have h0:a6[k]? =some o:=by simpa using(hl 0).symm
  simp only[Zo,n7,Zh]at hB
  obtain⟨⟨hr,hf⟩,cb⟩:=hB
  unfold ah at h
  split at h
  ·rename_i Z' he
   exact N7 hlen h0 l.length listed Z Z' (Rw h0 hf) (by simpa using hr) he
    (LI hlen l (k+1) _ _ (fun j=>by have:=hl (j+1);simpa[Zc3,Nat.add_comm 1 j]using this) cb h)
  ·cases h
def ww (ok:YX Γ P kf call){ops:Array Oper}{d:Md}{a6:List Z0}(hc:gP (xC P kf d ops) ops.toList=some a6){Q:Exit->Act->World->Prop}:∀{l:List Nat}{Z Z':St}{a:Act}{w:World}{J:List (Option Nat)},SX Γ z O base w0 ρ0 h0 Z a w J->(z=true->∀oo∈a6,oo.op.bY=true)->
 AH call a6 l Z=some Z'->(∀a' w' J',SX Γ z O base w0 ρ0 h0 Z' a' w' J'->Q .normal a' w')->wpOps P ops Q l a w
 |[],Z,Z',a,w,J,s,hz,he,hQ=>by
  simp[AH]at he;subst he
  exact hQ a w J s
 |i::l,Z,Z',a,w,J,s,hz,he,hQ=>by
  simp only[AH]at he
  split at he
  ·rename_i σ1 he1
   rw[wpOps_cons]
   unfold wpOp
   cases ho:ops[i]? with
   |none=>
    have:a6[i]? =none:=by
     have hl:=fk hc
     have:¬i<ops.size:=by intro aj;simp[aj]at ho
     exact ZW (by rw[hl];simp;omega)
    simp only[Do,this]at he1
    cases he1
    exact ww ok hc s hz he hQ
   |some o=>
    obtain⟨oo,hoo,cc⟩:=iN hc i o (by simpa using ho)
    simp only[Do,hoo]at he1
    have key:=Dp (Q:=Q) ok s (fun h=>hz h oo (Zl hoo)) cc he1 (K:=wpOps P ops Q l) (fun a' w' J' s'=>ww ok hc s' hz he hQ)
    simp only
    split
    ·rename_i hw;rw[if_pos hw]at key;exact .inl key
    ·rename_i hw;rw[if_neg hw]at key;exact key
  ·cases he
def Tg (s:SR Γ M0 base Z a w J):SR Γ M0 base Z a {w with drawn:=w.drawn+1} J:=by
 obtain⟨k1,c1⟩:=s.hr.world (w':={w with drawn:=w.drawn+1}) (Zn _) (fun _ _=>rfl)
 exact⟨k1,s.fr.ch c1,Γ.keep _ _ s.inv ⟨rfl,rfl,rfl,Zn _,fun _ _=>rfl⟩,s.b0⟩
def Ti (s:SX Γ z O base w0 ρ0 h0 Z a w J):SX Γ z O base w0 ρ0 h0 Z a {w with drawn:=w.drawn+1} J:=by
 obtain⟨M0,i1,i2,s1,b1,c1⟩:=s
 obtain⟨_,c2⟩:=s1.hr.world (w':={w with drawn:=w.drawn+1}) (Zn _) (fun _ _=>rfl)
 exact⟨M0,i1,i2,Tg s1,b1.trans ⟨rfl,rfl,rfl,Zn _,fun _ _=>rfl⟩,c1.trans c2⟩
def QE [KF](Γ:Ctx)(z:Bool)(O:Nat->Prop)(base:Nat)(w0:World)(ρ0:List (Option Nat))(h0:List Y0)(e:Ex)(Z':St)(Q:Exit->Act->World->Prop):Prop:=
 ∀a' w' J',SX Γ z O base w0 ρ0 h0 Z' a' w' J'->Q (match e with| .normal=> .normal| .exit id=> .exit id| .ret=> .ret) a' w'
def yb (ok:YX Γ P kf call)(hm:P.follows .mixedOrders=true)(n:Nat){dt dp zn:Bool}{zl tr:List Nat}:∀(c:Code){ac:Y5}{Z Z':St}{e:Ex}{a:Act}{w:World}{J:List (Option Nat)}{Q:Exit->Act->World->Prop},rX P kf dt dp zn zl tr c=some ac->(z=true->ac.bY=true)->
 ap call (eG n) ac Z=some (e,Z')->SX Γ z O base w0 ρ0 h0 Z a w J->QE Γ z O base w0 ρ0 h0 e Z' Q->c.wp P Q a w:=by
 intro c
 induction c with
 |skip=>
  intro ac Z Z' e a w J Q hc hz he s hQ
  cases hc
  simp only[ap]at he;cases he
  exact wp_skip (hQ a w J s)
 |region id ops draw=>
  intro ac Z Z' e a w J Q hc hz he s hQ
  simp only[rX]at hc
  split at hc
  ·rename_i a6 an
   have aq:∀{a6:List Z0}{σ2},ap call (eG n) (.region a6) Z=some (e,σ2)->ah call a6 Z=some σ2/\ e= .normal:=by
    intro a6 σ2 h
    simp only[ap]at h
    split at h
    ·rename_i σ3 h3;cases h;exact⟨h3,rfl⟩
    ·cases h
   have aW:∀{nb:Bool}{md:Md}{a6:List Z0},gP (xC P kf md ops) ops.toList=some a6->n7 nb ops a6 ops.size 0 (Array.replicate ops.size false)=true->∀{σ2},ah call a6 Z=some σ2->
    (z=true->(Y5.region a6).bY=true)->QE Γ z O base w0 ρ0 h0 .normal σ2 Q->(Code.region id ops true).wp P Q a w:=by
    intro nb md a6 an ad σ2 hx hz hQ
    have hlen:a6.length=ops.size:=by rw[fk an];simp
    refine wp_region_draw fun t=> ?_
    simp only[Region.schedule,hm,Zb7,if_true]
    have aL:=LI hlen a6 0 (Array.replicate ops.size false) Z (by simp) (by rw[hlen];exact ad) hx
    rw[hlen]at aL
    have hr:=N8 ops.size t _ Z aL
    exact ww ok an (Ti s) (fun h=>Zt.1 (hz h)) hr hQ
   split at hc
   ·rename_i hd
    subst hd
    split at hc
    ·rename_i ad
     cases hc
     obtain⟨hx,rfl⟩:=aq he
     exact aW an ad hx hz hQ
    ·split at hc
     ·rename_i b2 cg aM aN
      split at hc
      ·rename_i ad
       cases hc
       obtain⟨hx,rfl⟩:=aq he
       exact aW aM ad hx hz hQ
      ·split at hc
       ·rename_i ad
        cases hc
        obtain⟨hx,rfl⟩:=aq he
        exact aW aN ad hx hz hQ
       ·split at hc
        ·rename_i cj aO
         split at hc
         ·rename_i ad
          cases hc
          obtain⟨hx,rfl⟩:=aq he
          exact aW aO ad hx hz hQ
         ·cases hc
        ·cases hc
     ·cases hc
   ·rename_i hd
    cases hc
    obtain⟨hx,rfl⟩:=aq he
    have:draw=false:=by simpa using hd
    subst this
    exact wp_region_list (Jj ok s (fun h=>Zt.1 (hz h)) an hx hQ)
  ·cases hc
 |seq x y aX bj=>
  intro ac Z Z' e a w J Q hc hz he s hQ
  simp only[rX]at hc
  split at hc
  ·rename_i ax ay hx hy
   cases hc
   simp only[ap]at he
   refine wp_seq ?_
   split at he
   ·rename_i σ1 he1
    exact aX hx (fun h=>(Zh _ _▸hz h).1) he1 s (fun a' w' J' s'=>bj hy (fun h=>(Zh _ _▸hz h).2) he s' hQ)
   ·rename_i ae
    refine aX hx (fun h=>(Zh _ _▸hz h).1) he s (fun a' w' J' s'=> ?_)
    cases e with
    |normal=>exact absurd he (ae Z')
    |exit id=>exact hQ a' w' J' s'
    |ret=>exact hQ a' w' J' s'
  ·cases hc
 |cond c x y aX bj=>
  intro ac Z Z' e a w J Q hc hz he s hQ
  simp only[rX]at hc
  split at hc
  ·rename_i oc ax ay h1 hx hy
   cases hc
   simp only[ap]at he
   split at he
   ·rename_i t ht
    have hb:a.eval c= .bool t:=by
     obtain⟨M0,_,_,s1,_,_⟩:=s
     exact(aD s1 h1).bool ht
    refine wp_cond hb ?_
    cases t with
    |true=>exact aX hx (fun h=>(Zh _ _▸hz h).1) he s hQ
    |false=>exact bj hy (fun h=>(Zh _ _▸hz h).2) he s hQ
   ·cases he
  ·cases hc
 |block id c ih=>
  intro ac Z Z' e a w J Q hc hz he s hQ
  simp only[rX,Zj]at hc
  obtain⟨ax,hx,rfl⟩:=hc
  simp only[ap]at he
  refine wp_block ?_
  split at he
  ·rename_i i σ1 he1
   refine ih hx hz he1 s (fun a' w' J' s'=> ?_)
   simp only[Exit.inBlock]
   split at he
   ·rename_i e1;cases he;rw[if_pos e1];exact hQ a' w' J' s'
   ·rename_i e1;cases he;rw[if_neg e1];exact hQ a' w' J' s'
  ·rename_i ae
   refine ih hx hz he s (fun a' w' J' s'=> ?_)
   cases e with
   |normal=>exact hQ a' w' J' s'
   |exit i=>exact absurd he (ae i Z')
   |ret=>exact hQ a' w' J' s'
 |loop c ih=>
  intro ac Z Z' e a w J Q hc hz he s hQ
  simp only[rX,Zj]at hc
  obtain⟨ax,hx,rfl⟩:=hc
  simp only[ap]at he
  refine wp_loop_ghost (fun k a1 w1=>∃σ1 ρ1,SX Γ z O base w0 ρ0 h0 σ1 a1 w1 ρ1/\ eG k (ap call (eG n) ax) σ1=some (e,Z')) n ⟨Z,J,s,he⟩ ?_
  intro k a1 w1 ⟨σ1,ρ1,s1,he1⟩
  cases k with
  |zero=>simp[eG]at he1
  |succ k=>
   simp only[eG]at he1
   split at he1
   ·rename_i σ2 ck
    refine ih hx hz ck s1 (fun a' w' J' s'=> ?_)
    exact⟨k,Nat.lt_succ_self k,σ2,J',s',he1⟩
   ·rename_i ae
    refine ih hx hz he1 s1 (fun a' w' J' s'=> ?_)
    cases e with
    |normal=>exact absurd he1 (ae Z')
    |exit id=>exact hQ a' w' J' s'
    |ret=>exact hQ a' w' J' s'
 |exit id=>
  intro ac Z Z' e a w J Q hc hz he s hQ
  cases hc
  simp only[ap]at he;cases he
  exact wp_exit (hQ a w J s)
 |ret=>
  intro ac Z Z' e a w J Q hc hz he s hQ
  cases hc
  simp only[ap]at he;cases he
  exact wp_ret (hQ a w J s)
 |_=>
  intro ac Z Z' e a w J Q hc
  cases hc
structure ZE [KI:KF] (Γ:Ctx) (P:Program) (kf:FuncId->Option Nat) (Φ:Nat->Option AFn) (ext:Nat->List V->Option V):Prop where
 prog:KI.pr=P
 mixed:P.follows .mixedOrders=true
 fns:∀f k,kf f=some k->(∃fn af,P.funcs[f]? =some fn/\ W6 P kf k fn=some af/\ Φ k=some af) \/
  (Φ k=none/\ (∃fn,P.funcs[f]? =some fn/\ fn.body.isNone=false/\ (fn.name== "runtime.NumGoroutine")=false)/\ ∀xz r,ext k xz=some r->zh Γ P f xz r)
 small:∀f k,kf f=some k->k<fH/\ Φ (k+fH)=none/\ Φ (k+2*fH)=none
 ins:∀f k fn t e z b,kf f=some k->P.funcs[f]? =some fn->fn.origin= "slices.Insert" ->fn.params.toList.head? =some t->jh P t=some e->rS P e=some z->Oh P e=some b->zf P f z b
 del:∀f k fn t e z,kf f=some k->P.funcs[f]? =some fn->fn.origin= "slices.DeleteFunc" ->fn.params.toList.head? =some t->jh P t=some e->rS P e=some z->UC Γ P f z
def ZE.there {Φ:Nat->Option AFn}{ext:Nat->List V->Option V}(im:ZE Γ P kf Φ ext):∀f k,kf f=some k->∃fn,P.funcs[f]? =some fn/\ fn.body.isNone=false/\ (fn.name== "runtime.NumGoroutine")=false:=by
 intro f k hk
 rcases im.fns f k hk with⟨fn,af,h1,h2,h3⟩|⟨_,h,_⟩
 ·refine⟨fn,h1,?_,?_⟩
  ·rw[E9]at h2
   split at h2
   ·rename_i c hb;rw[hb];rfl
   ·cases h2
  ·rw[E9]at h2
   split at h2
   ·split at h2
    ·split at h2
     ·cases h2
     ·rename_i hn;simpa using hn
    ·cases h2
   ·cases h2
 ·exact h
def LR.weak {M M':Nat->Prop}{h:List Y0}(mu:∀b,M' b->M b){l:L}{v:Value}(r:LR M w J h l v):LR M' w J h l v:=
 r.ch (M':=M') ⟨⟨Zn _,fun b _ hm=>mu b hm,fun _ _ _=>rfl⟩,fun _ cur hr=>⟨cur,hr,rfl⟩,fun _ _ ob hr ho _=>⟨ob,hr,ho,sI.refl ob⟩,fun _ _ _ _ _ _ _ _ _ h=>h⟩
def VR.weak {M M':Nat->Prop}{h:List Y0}(mu:∀b,M' b->M b){x:V}{v:Value}(r:VR M w J h x v):VR M' w J h x v:=
 r.ch (M':=M') ⟨⟨Zn _,fun b _ hm=>mu b hm,fun _ _ _=>rfl⟩,fun _ cur hr=>⟨cur,hr,rfl⟩,fun _ _ ob hr ho _=>⟨ob,hr,ho,sI.refl ob⟩,fun _ _ _ _ _ _ _ _ _ h=>h⟩
def xe.less {M M':Nat->Prop}{b0:Nat}{r:V}{v:Value}(hM:∀b,M b->M' b)(rr:xe M' b0 w r v):xe M b0 w r v:=by
 obtain⟨ρr,k,vr⟩:=rr
 have mu:∀b,Mu M ρr (thaw [] r).2 b->Mu M' ρr (thaw [] r).2 b:=fun b hm=>hm.elim (fun h=> .inl (hM b h)) .inr
 obtain⟨κ,d,n⟩:=k.deep
 have C:Ch (Mu M' ρr (thaw [] r).2) (Mu M ρr (thaw [] r).2) w w ρr ρr (thaw [] r).2 (thaw [] r).2:=⟨⟨Zn _,fun b _ hm=>mu b hm,fun _ _ _=>rfl⟩,fun _ cur hr=>⟨cur,hr,rfl⟩,fun _ _ ob hr ho _=>⟨ob,hr,ho,sI.refl ob⟩,fun _ _ _ _ _ _ _ _ _ h=>h⟩
 refine⟨ρr,⟨⟨k.len,fun b hm=>k.old b (hM b hm),k.le,fun o ob q ho hq=>(k.objs o ob q ho hq).keep C (fun _ _ _=>rfl),k.apart⟩,κ,d,n.new,fun b o c X z es e ho=> ?_⟩,vr.weak mu⟩
 exact(NH r _ (Zl ho)).elim
def KW {M0:Nat->Prop}{fn:AFn}{xz:List V}{a8:Array Value}(hG:Γ.G w)(hB:Γ.B0<=base)(k:HR M0 base w J ((ed [] xz).2.map Y0.zone))(hl:(ed [] xz).1.length=a8.size)(bk:xz.length=a8.size)
 (hv:∀(i:Nat)(x:V)(u:Value),(ed [] xz).1[i]? =some x->a8.toList[i]? =some u->VR (Mu M0 J ((ed [] xz).2.map Y0.zone)) w J ((ed [] xz).2.map Y0.zone) x u):
 SR Γ M0 base (jx fn xz) {tmps:=a8++Array.replicate (fn.ntmps-a8.size) undef,defers:=[]} w J:=by
 refine⟨k,⟨rfl,by simp[jx,hl,bk],fun i v u hx hu=> ?_⟩,hG,hB⟩
 simp only[jx]at hx
 by_cases hi:i<(ed [] xz).1.length
 ·rw[Ze hi]at hx
  rw[ZY (by omega)]at hu
  exact hv i v u hx (by simpa using hu)
 ·rw[Zk (by omega)]at hx
  rw[Zc2 (by omega)]at hu
  have e1:v= .b9 []:=by
   have:=(Zb.1 hx).2
   simp at this;exact this.symm
  have e2:u=undef:=by
   have:=(R'.1 hu).2
   simp at this;exact this.symm
  rw[e1,e2]
  exact VR.undef
def Jq :∀(vs:List V)(h:List Y0),(ed h vs).1.length=vs.length
 |[],h=>rfl
 |v::vs,h=>by simp only[ed,Zo,Jq vs]
def Df :∀{h:List Y0}{os:List (Bool×List L)},iv h=some os->∀ob∈h,∃z es,ob= .bB z es
 |[],os,e,ob,hm=>by cases hm
 |x::h,os,e,ob,hm=>by
  unfold iv at e
  split at e
  ·rename_i h2;cases h2
  ·rename_i z es h' h2
   cases h2
   split at e
   ·rename_i xs cm
    rcases ZL.1 hm with rfl|hm
    ·exact⟨z,es,rfl⟩
    ·exact Df cm ob hm
   ·cases e
  ·cases e
def HR.first {h':List Y0}{J':List (Option Nat)}(k:HR M0 base w J' h'){m:Nat}{os:List (Bool×List L)}(ho:iv (h'.take m)=some os):HR M0 base w (J'.take m) (h'.take m):=by
 obtain⟨κ,d,n⟩:=k.deep
 have get:∀{i:Nat}{x:Y0},(h'.take m)[i]? =some x->h'[i]? =some x:=fun{i x}e=>by
  rw[ZP]at e
  split at e
  ·exact e
  ·cases e
 have ai:∀{i:Nat}{x:Option Nat},(J'.take m)[i]? =some x->J'[i]? =some x:=fun{i x}e=>by
  rw[ZP]at e
  split at e
  ·exact e
  ·cases e
 refine⟨⟨by simp[k.len],fun b hm=>⟨(k.old b hm).1,fun i x hi hx hr=>(k.old b hm).2 i x (get hi) hx (ai hr)⟩,k.le,fun i x r hi hr=> ?_,fun i i' x x' b h1 h2 m1 m2 r1 r2=>k.apart i i' x x' b (get h1) (get h2) m1 m2 (ai r1) (ai r2)⟩,
  κ,⟨fun i x b hi hx hr=>d.root i x b (get hi) hx (ai hr),fun i x z es b hi hd hr=>d.tree i x z es b (get hi) hd (ai hr)⟩,n.new,fun b o c X z es e hi=>n.zone b o c X z es e (get hi)⟩
 obtain⟨z,es,rfl⟩:=Df ho x (Zl hi)
 exact k.objs i _ r (get hi) (ai hr)
def Kd {Z':St}{rs:List YW}{r:V}(a5:aZ Z' rs=some r):r.clean=true:=by
 unfold aZ at a5
 split at a5
 ·cases a5
 ·split at a5
  ·rename_i xs _ _
   have cl:∀{ys},bS Z'.h xs=some ys->(ys.all fun x=>x.2.all L.clean)=true:=fun h=>(ue xs _ [] h).1
   split at a5
   ·rename_i ls aP;cases a5;simpa[V.clean]using cl aP
   ·rename_i l aP;cases a5;simpa[V.clean]using cl aP
   ·rename_i ys _ _ aP
    split at a5
    ·cases a5
    ·cases a5;simpa[V.clean]using cl aP
   ·cases a5
  ·cases a5
def Jr :∀(vs:List V)(h:List Y0),(∀ob∈h,ob≠ .res)->∀ob∈(ed h vs).2,ob≠ .res
 |[],h,k=>k
 |v::vs,h,k=>by
  simp only[ed]
  refine Jr vs _ fun ob m=> ?_
  obtain⟨l,e,ha⟩:=NG h v
  rw[e]at m
  rcases H'.1 m with m|m
  ·exact k ob m
  ·have:=ha ob m
   rintro rfl
   exact this
def ND (xz:List V)(ob:Y0)(h:ob∈(ed [] xz).2.map Y0.zone):ob≠ .res:=by
 obtain⟨x,hx,rfl⟩:=V'.1 h
 have:=Jr xz [] (by simp) x hx
 cases x<;>simp_all[Y0.zone]
def KV {M0:Nat->Prop}{h:List Y0}{fn:AFn}{xz:List V}{a8:Array Value}(hG:Γ.G w)(hB:Γ.B0<=base)(k:HR M0 base w J h)(hl:xz.length=a8.toList.length)
 (hv:∀(i:Nat)(x:V)(u:Value),xz[i]? =some x->a8.toList[i]? =some u->VR (Mu M0 J h) w J h x u):
 SR Γ M0 base (la fn xz h) {tmps:=a8++Array.replicate (fn.ntmps-a8.size) undef,defers:=[]} w J:=by
 have cn:xz.length=a8.size:=by simpa using hl
 refine⟨k,⟨rfl,by simp[la,cn],fun i v u hx hu=> ?_⟩,hG,hB⟩
 simp only[la]at hx
 by_cases hi:i<xz.length
 ·rw[Ze hi]at hx
  rw[ZY (by omega)]at hu
  exact hv i v u hx (by simpa using hu)
 ·rw[Zk (by omega)]at hx
  rw[Zc2 (by omega)]at hu
  have e1:v= .b9 []:=by
   have:=(Zb.1 hx).2
   simp at this;exact this.symm
  have e2:u=undef:=by
   have:=(R'.1 hu).2
   simp at this;exact this.symm
  rw[e1,e2]
  exact VR.undef
def T1 {Φ:Nat->Option AFn}{ext:Nat->List V->Option V}(im:ZE Γ P kf Φ ext):∀(n:Nat),(∀(f k:Nat)(xz:List V)(r:V),kf f=some k->run Φ ext n k xz=some r->zh Γ P f xz r)/\
 (∀(f k:Nat)(xz:List V)(r:V),kf f=some k->run Φ ext n (k+fH) xz=some r->A8 Γ P f xz r)/\
 ∀(f k:Nat)(xz:List V)(r:V),kf f=some k->run Φ ext n (k+2*fH) xz=some r->N6 Γ P f xz r:=by
 intro n
 induction n with
 |zero=>exact⟨fun f k xz r _ h=>by simp[run]at h,fun f k xz r _ h=>by simp[run]at h,fun f k xz r _ h=>by simp[run]at h⟩
 |succ n ih=>
  have ok:YX Γ P kf (run Φ ext n):=⟨im.prog,im.there,fun f k xz r hk hr=>ih.1 f k xz r hk hr,fun f k xz r hk hr=>ih.2.1 f k xz r hk hr,fun f k xz r hk hr=>ih.2.2 f k xz r hk hr,im.ins,im.del⟩
  refine⟨fun f k xz r hk h=> ?_,fun f k xz r hk h=> ?_,fun f k xz r hk h=> ?_⟩
  ·rcases im.fns f k hk with⟨fn,af,h1,h2,h3⟩|⟨h1,_,h2⟩
   case inr=>
    simp only[run,h1]at h
    rw[if_neg (by have:=(im.small f k hk).1;omega)]at h
    exact h2 xz r h
   simp only[run,h3]at h
   rw[E9]at h2
   split at h2
   ·rename_i c hb
    split at h2
    ·rename_i ac rs hc aQ
     split at h2
     ·cases h2
     ·cases h2
      have key:∀{e:Ex}{Z':St},ap (run Φ ext n) (eG n) ac (start ⟨fn.ntmps,rs,ac⟩ xz)=some (e,Z')->(e= .normal \/e= .ret)->aZ Z' rs=some r->zh Γ P f xz r:=by
       intro e Z' he aR a5
       refine⟨Kd a5,fun M0 w a8 hG hM ha=>calls_of_wp h1 hb ?_⟩
       refine yb (z:=false) (O:=M0) (w0:=w) (ρ0:=[]) (h0:=[]) ok im.mixed n c hc nofun he ⟨M0,fun _ h=>h,nofun,Np (fn:=⟨fn.ntmps,rs,ac⟩) hG hM ha,Below.refl _ _,Ch.refl _ _ _ _⟩ (fun a' w' J' s'=> ?_)
       obtain⟨aE,i1,_,s1,aC,_⟩:=s'
       obtain⟨_,v,hv,bl⟩:=zZ s1 aQ a5
       have aS:=bl.less i1
       rcases aR with rfl|rfl
       ·exact bodyPost_end hv s1.fr.defers ⟨v,rfl,aC,aS⟩
       ·exact bodyPost_ret hv s1.fr.defers ⟨v,rfl,aC,aS⟩
      unfold done at h
      split at h
      ·rename_i Z' he;exact key he (.inl rfl) h
      ·rename_i Z' he;exact key he (.inr rfl) h
      ·cases h
    ·cases h2
   ·cases h2
  ·obtain⟨_,hn,_⟩:=im.small f k hk
   simp only[run,hn]at h
   rw[if_pos (by omega),show k+fH-fH=k by omega]at h
   rcases im.fns f k hk with⟨fn,af,h1,h2,h3⟩|⟨h1,_,h2⟩
   case inr=>
    simp only[h1]at h
    rw[if_neg (by have:=(im.small f k hk).1;omega)]at h
    cases h
   simp only[h3]at h
   split at h
   case isFalse=>cases h
   rename_i bs
   rw[E9]at h2
   split at h2
   ·rename_i c hb
    split at h2
    ·rename_i ac rs hc aQ
     split at h2
     ·cases h2
     ·cases h2
      have key:∀{e:Ex}{Z':St},ap (run Φ ext n) (eG n) ac (jx ⟨fn.ntmps,rs,ac⟩ xz)=some (e,Z')->(e= .normal \/e= .ret)->Iv (ed [] xz).2.length ⟨fn.ntmps,rs,ac⟩ Z'=some r->A8 Γ P f xz r:=by
       intro e Z' he aR a5
       unfold Iv at a5
       split at a5
       ·rename_i l os hf ho
        split at a5
        ·rename_i aF
         cases a5
         refine⟨l,os,rfl,aF,fun M0 base w J a8 hG hB k0 hl hv=>calls_of_wp h1 hb ?_⟩
         have bk:xz.length=a8.size:=by rw[<-hl,Jq]
         refine yb (z:=true) (O:=M0) (w0:=w) (ρ0:=J) (h0:=(ed [] xz).2.map Y0.zone) ok im.mixed n c hc (fun _=>bs) he ⟨M0,fun _ h=>h,fun _=>rfl,KW (fn:=⟨fn.ntmps,rs,ac⟩) hG hB k0 hl bk hv,Below.refl _ _,Ch.refl _ _ _ _⟩ (fun a' w' J' s'=> ?_)
         obtain⟨aE,i1,i2,s1,aC,c1⟩:=s'
         have e0:aE=M0:=i2 rfl
         rw[e0]at s1 c1
         obtain⟨_,v,hv,bl⟩:=zZ s1 aQ hf
         have hm:J.length=(ed [] xz).2.length:=by rw[k0.len];simp
         have hρ:J'.take (ed [] xz).2.length=J:=by
          apply Zc0
          intro i
          rw[ZP]
          by_cases hi:i<(ed [] xz).2.length
          ·rw[if_pos hi]
           have h5:J[i]? =some J[i]:=by simp[hm,hi]
           obtain⟨ob',h6,_⟩:=c1.obj i J[i] _ h5 (by rw[Zm (by simpa using hi)]) (ND xz _ (Zf _))
           rw[h6,h5]
          ·rw[if_neg hi,ZW (by omega)]
         have k1:=s1.hr.first ho
         rw[hρ]at k1
         have bu:∀{i:Nat}{x:Y0},(Z'.h.take (ed [] xz).2.length)[i]? =some x->Z'.h[i]? =some x:=fun{i x}e=>by
          rw[ZP]at e
          split at e
          ·exact e
          ·cases e
         have c2:Ch (Mu M0 J ((ed [] xz).2.map Y0.zone)) (Mu M0 J (Z'.h.take (ed [] xz).2.length)) w w' J J ((ed [] xz).2.map Y0.zone) (Z'.h.take (ed [] xz).2.length):=by
          refine⟨⟨c1.go.size,fun b cp aH=>c1.go.cls b cp ?_,c1.go.block⟩,c1.row,fun i q x hq hx cq=> ?_,c1.zar⟩
          ·rcases aH with aH|⟨i,x,hi,hx,hr⟩
           ·exact .inl aH
           ·refine .inr ⟨i,x,bu hi,hx,?_⟩
            have aY:i<J.length:=(Zb.1 hr).1
            obtain⟨ob',h6,_⟩:=c1.obj i _ _ hr (Zm (by rw[k0.len]at aY;exact aY)) (ND xz _ (Zf _))
            exact h6
          ·obtain⟨ob',h5,h6,h7⟩:=c1.obj i q x hq hx cq
           have aY:i<(ed [] xz).2.length:=by
            have:=(Zb.1 hx).1
            simpa using this
           exact⟨ob',hq,by rw[ZP,if_pos aY];exact h6,h7⟩
         have bP:∀M J h,LR M w' J h l v:=fun M J h=>by
          have:=Aa (M':=M) (J:=J) (h:=h) (by simpa[V.flat]using aF) bl
          have e:df l=l:=by cases l<;>first|rfl|cases aF
          simpa[da,e,VR]using this
         rcases aR with rfl|rfl
         ·exact bodyPost_end hv s1.fr.defers ⟨v,_,rfl,aC,bP,ho,k1,c2⟩
         ·exact bodyPost_ret hv s1.fr.defers ⟨v,_,rfl,aC,bP,ho,k1,c2⟩
        ·cases a5
       ·cases a5
      unfold xD at h
      split at h
      ·rename_i Z' he;exact key he (.inl rfl) h
      ·rename_i Z' he;exact key he (.inr rfl) h
      ·cases h
    ·cases h2
   ·cases h2
  ·obtain⟨cD,cr,hn⟩:=im.small f k hk
   simp only[run,hn]at h
   rw[if_pos (by omega),show k+2*fH-fH=k+fH by omega]at h
   simp only[cr]at h
   rw[if_pos (by omega),show k+2*fH-2*fH=k by omega]at h
   rcases im.fns f k hk with⟨fn,af,h1,h2,h3⟩|⟨h1,_,h2⟩
   case inr=>simp only[h1]at h;cases h
   simp only[h3]at h
   split at h
   case h_2=>cases h
   rename_i cE hp bV e3 hh
   cases e3
   split at h
   case isFalse=>cases h
   rename_i bs
   rw[E9]at h2
   split at h2
   ·rename_i c hb
    split at h2
    ·rename_i ac rs hc aQ
     split at h2
     ·cases h2
     ·cases h2
      have key:∀{e:Ex}{Z':St},ap (run Φ ext n) (eG n) ac (la ⟨fn.ntmps,rs,ac⟩ bV hp)=some (e,Z')->(e= .normal \/e= .ret)->OD ⟨fn.ntmps,rs,ac⟩ Z'=some r->N6 Γ P f xz r:=by
       intro e Z' he aR a5
       unfold OD at a5
       split at a5
       case h_2=>cases a5
       rename_i ls e0 b8 ct
       split at a5
       case h_2=>cases a5
       rename_i ps cu
       cases a5
       refine⟨hp,bV,e0,ps,Z'.h,ls,hh,rfl,vu ct,wK cu,fun M0 base w J a8 hG hB k0 hl hv=>calls_of_wp h1 hb ?_⟩
       refine yb (z:=true) (O:=M0) (w0:=w) (ρ0:=J) (h0:=hp) ok im.mixed n c hc (fun _=>bs) he ⟨M0,fun _ h=>h,fun _=>rfl,KV (fn:=⟨fn.ntmps,rs,ac⟩) hG hB k0 hl hv,Below.refl _ _,Ch.refl _ _ _ _⟩ (fun a' w' J' s'=> ?_)
       obtain⟨aE,i1,i2,s1,aC,c1⟩:=s'
       have cv:aE=M0:=i2 rfl
       rw[cv]at s1 c1
       obtain⟨us,cw,cx,cy⟩:=uF s1 aQ b8
       obtain⟨u,rfl⟩:=ZR.1 (cx.trans rfl)
       have aT:(results fn a'.tmps).run P w'= .ok u w':=by
        rw[G5,Array.mapM_eq_mapM_toList]
        simp only[Sem.run_bind,Sem.run_map,cw,Result.andThen_ok,Sem.run_pure]
        simp
       have bX:=cy 0 _ u rfl rfl
       rcases aR with rfl|rfl
       ·exact bodyPost_end aT s1.fr.defers ⟨u,J',rfl,aC,s1.hr,c1,bX⟩
       ·exact bodyPost_ret aT s1.fr.defers ⟨u,J',rfl,aC,s1.hr,c1,bX⟩
      unfold Fi at h
      split at h
      ·rename_i Z' he;exact key he (.inl rfl) h
      ·rename_i Z' he;exact key he (.inr rfl) h
      ·cases h
    ·cases h2
   ·cases h2
def R7 {Φ:Nat->Option AFn}{ext:Nat->List V->Option V}(im:ZE Γ P kf Φ ext)(n:Nat)(f k:Nat)(xz:List V)(r:V):kf f=some k->run Φ ext n k xz=some r->zh Γ P f xz r:=(T1 im n).1 f k xz r
end
end Gi
