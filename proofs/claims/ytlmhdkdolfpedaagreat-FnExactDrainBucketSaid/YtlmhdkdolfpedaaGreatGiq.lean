/- Of this proof. -/
import Derived.Test.YtlmhdkdolfpedaaGreatGip
import Derived.Deep.LoopGhost
set_option linter.all false
namespace Gi
open Go Go.RowKit
variable {KI:KF}
section
variable {Γ:Ctx}{P:Program}{M0:Nat->Prop}{base:Nat}{Z:St}{a:Act}{w:World}{J:List (Option Nat)}{call:Nat->List V->Option V}
def SX [KF](Γ:Ctx)(z:Bool)(O:Nat->Prop)(base:Nat)(w0:World)(ρ0:List (Option Nat))(h0:List Q0)(Z:St)(a:Act)(w:World)(J:List (Option Nat)):Prop:=
 ∃M0,(∀b,O b->M0 b)/\ (z=true->M0=O)/\ SR Γ M0 base Z a w J/\ Below base w0 w/\ Ch (Mu O ρ0 h0) (Mu M0 J Z.h) w0 w ρ0 J h0 Z.h
variable {z:Bool}{O:Nat->Prop}{w0:World}{ρ0:List (Option Nat)}{h0:List Q0}
def Gr (ok:QA Γ P kf call)(s:SX Γ z O base w0 ρ0 h0 Z a w J){ops:Array Oper}{o:Oper}{d:Md}{oo:X2}{Z':St}{K:Act->World->Prop}{Q:Exit->Act->World->Prop}(hz:z=true->oo.op.bX=true)
 (hc:A4 P kf d ops o=some oo) (he:cS call oo Z=some Z') (hK:∀a' w' J',SX Γ z O base w0 ρ0 h0 Z' a' w' J'->K a' w'):
 if Region.wanted o (yielded ops a.tmps)then o.wp P a w K Q else K (a.put o.dst undef) w:=by obtain⟨M0,i1,i2,s1,b1,c1⟩:=s;exact RJ ok s1 hc he fun az a' w' J' g0 g1 g2 g3 g4=>hK a' w' J' ⟨az,fun b h=>g0 b (i1 b h),fun bf=>(g1 (hz bf)).trans (i2 bf),g2,b1.trans g3,c1.trans g4⟩
def Mg (ok:QA Γ P kf call){ops:Array Oper}{d:Md}{Q:Exit->Act->World->Prop}:∀{l:List Oper}{a6:List X2}{Z Z':St}{a:Act}{w:World}{J:List (Option Nat)},SX Γ z O base w0 ρ0 h0 Z a w J->(z=true->∀oo∈a6,oo.op.bX=true)->
 jX (A4 P kf d ops) l=some a6->cj call a6 Z=some Z'->(∀a' w' J',SX Γ z O base w0 ρ0 h0 Z' a' w' J'->Q .normal a' w')->wpList P ops Q l a w
 |[],a6,Z,Z',a,w,J,s,hz,hc,he,hQ=>by simp[jX]at hc;subst hc;simp[cj]at he;subst he;exact wpList_nil (hQ a w J s)
 |o::l,a6,Z,Z',a,w,J,s,hz,hc,he,hQ=>by unfold jX at hc;split at hc;rename_i oo aS h1 h2;cases hc;unfold cj at he;split at he;rename_i σ1 he1;exact wpList_step fun K hK=>Gr ok s (fun h=>hz h oo (by simp)) h1 he1 fun a' w' J' s'=>hK _ _ (Mg ok s' (fun h o ho=>hz h o (by simp[ho])) h2 he hQ);cases he;cases hc
def Opd.cc {x:Opd}{t:List V}{h h':List Q0}{d:Nat}{v:V}(hd:d∉x.tmps):x.ev ⟨t.set d v,h⟩=x.ev ⟨t,h'⟩:=by
 cases x with
 |tmp n=>simp only[Opd.tmps,Qi]at hd;simp only[Opd.ev,List.getD];rw[Za hd]
 |_=>rfl
def VO {Z Z':St}(hh:Z.h=Z'.h){ao:AOp}(hx:∀x∈ao.bs,x.ev Z=x.ev Z'):dX call Z ao=dX call Z' ao:=by
 cases ao with
 |build zero parts=>
  have:(parts.map fun x=>(x.1,x.2.1,x.2.2.ev Z))=(parts.map fun x=>(x.1,x.2.1,x.2.2.ev Z')):=by apply ZO;intro x aa;rw[hx x.2.2 (by simp only[AOp.bs];exact ZV.2 ⟨x,aa,rfl⟩)]
  simp only[dX,this]
 |call f xz fl fz=>have:xz.map (Opd.ev Z)=xz.map (Opd.ev Z'):=ZO (fun x aa=>hx x aa);simp only[dX,this,hh]
 |bl x xz=>have h1:=hx x (by simp[AOp.bs]);have:xz.map (Opd.ev Z)=xz.map (Opd.ev Z'):=ZO (fun y hy=>hx y (by simp[AOp.bs,hy]));simp only[dX,this,hh,h1]
 |bu z x lo hi=>rfl
 |bY z parts=>have:parts.map (Opd.ev Z)=parts.map (Opd.ev Z'):=ZO (fun x aa=>hx x aa);simp only[dX,this]
 |c1 z x lo hi=>
  have h1:=hx x (by simp[AOp.bs]);have h2:∀d,eG Z d lo=eG Z' d lo:=by
   intro d;cases lo with
   |none=>rfl
   |some o=>simp only[eG,hx o (by simp[AOp.bs])]
  have h3:∀d,eG Z d hi=eG Z' d hi:=by
   intro d;cases hi with
   |none=>rfl
   |some o=>simp only[eG,hx o (by simp[AOp.bs])]
  simp only[dX,h1,h2,h3]
 |c7 k cs=>rfl
 |bQ k cs=>rfl
 |ba f xz=>have:xz.map (Opd.ev Z)=xz.map (Opd.ev Z'):=ZO (fun x aa=>hx x aa);simp only[dX,this,hh]
 |_=>simp_all[dX,AOp.bs]
def yN {Z Z':St}{d:Int}{x:Option Opd}(hx:∀y∈x.toList,y.ev Z=y.ev Z'):eG Z d x=eG Z' d x:=by
 cases x with
 |none=>rfl
 |some o=>simp only[eG,hx o (by simp)]
def Vz {Z Z':St}(hh:Z.h=Z'.h){ao:AOp}(hx:∀x∈ao.bs,x.ev Z=x.ev Z'):eX call Z ao=eX call Z' ao:=by
 cases ao with
 |bM z parts=>have:parts.map (Opd.ev Z)=parts.map (Opd.ev Z'):=ZO (fun x aa=>hx x aa);simp only[eX,this,hh]
 |call f xz fl fz=>have:xz.map (Opd.ev Z)=xz.map (Opd.ev Z'):=ZO (fun x aa=>hx x aa);cases fl<;>cases fz<;>first|rfl|simp only[eX,this,hh]
 |bQ f xz=>have:xz.map (Opd.ev Z)=xz.map (Opd.ev Z'):=ZO (fun x aa=>hx x aa);simp only[eX,this,hh]
 |c7 k cs=>have:cs.map (Opd.ev Z)=cs.map (Opd.ev Z'):=ZO (fun x aa=>hx x aa);simp only[eX,this,hh]
 |bN f xz=>have:xz.map (Opd.ev Z)=xz.map (Opd.ev Z'):=ZO (fun x aa=>hx x aa);simp only[eX,this,hh]
 |bp f xz=>have:xz.map (Opd.ev Z)=xz.map (Opd.ev Z'):=ZO (fun x aa=>hx x aa);simp only[eX,this,hh]
 |bb f xz=>have:xz.map (Opd.ev Z)=xz.map (Opd.ev Z'):=ZO (fun x aa=>hx x aa);simp only[eX,this,hh]
 |bV z parts=>have:parts.map (Opd.ev Z)=parts.map (Opd.ev Z'):=ZO (fun x aa=>hx x aa);simp only[eX,this,hh]
 |bu z x lo hi=>have h1:=hx x (by simp[AOp.bs]);have h2:∀d,eG Z d lo=eG Z' d lo:=fun d=>yN fun y hy=>hx y (by simp only[AOp.bs];exact Ym _ (List.mem_append_left _ hy));have h3:∀d,eG Z d hi=eG Z' d hi:=fun d=>yN fun y hy=>hx y (by simp only[AOp.bs];exact Ym _ (List.mem_append_right _ hy));simp only[eX,h1,h2,h3,hh]
 |_=>simp_all[eX,AOp.bs]
def nH (call:Nat->List V->Option V)(o:X2)(Z:St):Option (V×List Q0):=
 match dy Z o.guard with
 |some true=>match dX call Z o.op with
  |some v=>some (v,Z.h)
  |none=>eX call Z o.op
 |some false=>some (.b8 [],Z.h)
 |none=>none
def FJ (oo:X2)(Z:St):cS call oo Z=(nH call oo Z).map fun x=>⟨put Z.t oo.dst x.1,x.2⟩:=by
 unfold cS nH;cases hw:dy Z oo.guard with
 |none=>rfl
 |some b=>
  cases b with
  |false=>rfl
  |true=>
   simp only;cases hf:dX call Z oo.op with
   |some v=>rfl
   |none=>
    cases he:eX call Z oo.op with
    |none=>rfl
    |some x=>rfl
def Ua {x y:X2}(al:yJ x y=true){t:List V}{h:List Q0}{v:V}:nH call y ⟨put t x.dst v,h⟩=nH call y ⟨t,h⟩:=by
 cases hd:x.dst with
 |none=>rfl
 |some d=>
  have ar:d∉y.reads:=by simp only[yJ,hd,Zg,ZB]at al;have:=al.1.1;simpa using this
  have an:∀z∈y.op.bs,z.ev (⟨put t (some d) v,h⟩:St)=z.ev ⟨t,h⟩:=fun z hz=>Opd.cc (h':=h) (fun hm=>ar (List.mem_append_left _ (List.mem_flatMap.2 ⟨z,hz,hm⟩)));have hw:dy (⟨put t (some d) v,h⟩:St) y.guard=dy ⟨t,h⟩ y.guard:=by
   cases hg:y.guard with
   |none=>rfl
   |some gw=>obtain⟨g,b⟩:=gw;have ae:d≠g:=fun e=>ar (List.mem_append_right _ (by simp[hg,e]));simp only[dy,put,List.getD];rw[Za ae]
  unfold nH;rw[hw,VO (Z:=⟨put t (some d) v,h⟩) (Z':=⟨t,h⟩) rfl an,Vz (Z:=⟨put t (some d) v,h⟩) (Z':=⟨t,h⟩) rfl an]
def yz {x:Opd}{t:List V}{h h':List Q0}:x.ev ⟨t,h⟩=x.ev ⟨t,h'⟩:=by cases x<;>rfl
def qX {g:Option (Nat×Bool)}{t:List V}{h h':List Q0}:dy ⟨t,h⟩ g=dy ⟨t,h'⟩ g:=by
 cases g with
 |none=>rfl
 |some gw=>rfl
def abY {t:List V}{h h':List Q0}{d:Int}{x:Option Opd}:eG ⟨t,h⟩ d x=eG ⟨t,h'⟩ d x:=yN fun y _=>yz
def Is {ao:AOp}(hc:ao.cls<=1):eX call Z ao=none:=by
 cases ao with
 |call f xz fl fz=>cases fl<;>cases fz<;>first|rfl|simp[AOp.cls]at hc
 |_=>first|rfl|simp[AOp.cls]at hc
def aaF {ao:AOp}(hc:ao.cls=0){t:List V}{h h':List Q0}:dX call ⟨t,h⟩ ao=dX call ⟨t,h'⟩ ao:=by
 have e:∀x:Opd,x.ev ⟨t,h⟩=x.ev ⟨t,h'⟩:=fun x=>yz;have e2:∀d x,eG ⟨t,h⟩ d x=eG ⟨t,h'⟩ d x:=fun d x=>abY;have e3:Opd.ev ⟨t,h⟩=Opd.ev ⟨t,h'⟩:=funext e;cases ao with
 |bY z ps=>simp only[dX,e3]
 |call f xz fl fz=>cases fl<;>cases fz<;>simp[AOp.cls]at hc
 |_=>first|(simp[AOp.cls]at hc;done)|(simp only[dX,e,e2];done)|rfl
def sA (h h':List Q0):Prop:=∀(o:Nat)(ob:Q0),h[o]? =some ob->ob≠ .res->h'[o]? =some ob \/∃z es,ob.bq z es/\ h'[o]? =some (.bG z es)
def sA.refl (h:List Q0):sA h h:=fun _ _ e _=> .inl e
def sA.trans {a b c:List Q0}(h:sA a b)(k:sA b c):sA a c:=by intro o ob e hn;rcases h o ob e hn with e1|⟨z,es,hD,e1⟩;exact k o ob e1 hn;rcases k o _ e1 (by simp)with e2|⟨_,_,e3,_⟩;exact .inr ⟨z,es,hD,e2⟩;rcases e3 with e3|e3<;>cases e3
def sA.append (h l:List Q0):sA h (h++l):=fun o ob e _=> .inl (by rw[Ze (Zb.1 e).1];exact e)
def sA.freezeL (h:List Q0)(l:L):sA h (Gi.freezeL h l):=by
 cases l with
 |arr o=>simp only[Gi.freezeL];split;rename_i z es he;intro o' ob e _;by_cases q:o=o';subst q;rw[he]at e;cases e;exact .inr ⟨z,es, .inl rfl,by rw[Zd (Zb.1 he).1]⟩;exact .inl (by rw[Za q];exact e);rename_i z es he;intro o' ob e _;by_cases q:o=o';subst q;rw[he]at e;cases e;exact .inr ⟨z,es, .inr rfl,by rw[Zd (Zb.1 he).1]⟩;exact .inl (by rw[Za q];exact e);exact sA.refl h
 |_=>exact sA.refl h
def sA.freezeLs :∀(ls:List L)(h:List Q0),sA h (Gi.freezeLs h ls)
 |[],h=>sA.refl h
 |l::ls,h=>(sA.freezeL h l).trans (sA.freezeLs ls (Gi.freezeL h l))
def sA.freezeVs :∀(vs:List V)(h:List Q0),sA h (Gi.freezeVs h vs)
 |[],h=>sA.refl h
 |v::vs,h=>(sA.freezeLs v.cells h).trans (sA.freezeVs vs (Gi.freezeLs h v.cells))
def adx {ao:AOp}(hc:ao.cls=2){v:V}{h':List Q0}(he:eX call Z ao=some (v,h')):sA Z.h h':=by
 cases ao with
 |call f xz fl fz=>cases fl<;>cases fz<;>simp[AOp.cls]at hc
 |alloc zero=>simp only[eX]at he;cases he;exact sA.append _ _
 |bT n=>simp only[eX]at he;cases he;exact sA.append _ _
 |bZ zero=>simp only[eX]at he;cases he;exact sA.append _ _
 |bx n x=>simp only[eX]at he;split at he;cases he;exact sA.append _ _;cases he
 |bI i zero=>
  simp only[eX]at he;split at he;rename_i hi;cases he;intro o ob e hn;have q:i≠o:=by rintro rfl;rw[hi]at e;cases e;exact hn rfl
  exact .inl (by rw[Za q];exact e);cases he
 |box x=>simp only[eX]at he;split at he;cases he;exact sA.append _ _;cases he
 |bM z parts=>simp only[eX]at he;split at he;split at he;cases he;exact(sA.freezeVs _ _).trans (sA.append _ _);cases he;cases he
 |make b zero n=>simp only[eX]at he;split at he;split at he;cases he;exact sA.append _ _;cases he;cases he
 |bu z x lo hi=>simp only[eX]at he;split at he;split at he;split at he;cases he;exact sA.freezeLs _ _;cases he;cases he;cases he
 |_=>simp[AOp.cls]at hc
def OJ {h h':List Q0}(k:sA h h'){l:L}{p:PV}(e:l.view h=some p):l.view h'=some p:=by
 cases l with
 |arr o=>simp only[L.view]at e⊢;split at e;rename_i z es he;rcases k o _ he (by simp)with e1|⟨z',es',e2,e1⟩;rw[e1];exact e;rcases e2 with e2|e2<;>cases e2;rw[e1];exact e;rename_i z es he;rcases k o _ he (by simp)with e1|⟨z',es',e2,e1⟩;rw[e1];exact e;rcases e2 with e2|e2<;>cases e2;rename_i z es he;rcases k o _ he (by simp)with e1|⟨z',es',e2,e1⟩;rw[e1];exact e;rcases e2 with e2|e2<;>cases e2;rw[e1];exact e;cases e
 |_=>exact e
def Sn {h h':List Q0}(k:sA h h'):∀{ls:List L}{ps:List PV},viewL h ls=some ps->viewL h' ls=some ps
 |[],ps,e=>e
 |l::ls,ps,e=>by simp only[viewL]at e⊢;split at e;rename_i p qs e1 e2;rw[OJ k e1,Sn k e2];exact e;cases e
def W9 {h h':List Q0}(k:sA h h'){v u:V}(e:v.view h=some u):v.view h'=some u:=by unfold V.view at e⊢;split at e;exact e;rename_i l ar;split at e;rename_i p e1;rw[OJ k e1];simp only;exact e;cases e;split at e;rename_i ps e1;rw[Sn k e1];exact e;cases e;cases e
def vZ {h h':List Q0}(k:sA h h'):∀{vs us:List V},cy h vs=some us->cy h' vs=some us
 |[],us,e=>e
 |v::vs,us,e=>by simp only[cy]at e⊢;split at e;rename_i p qs e1 e2;rw[W9 k e1,vZ k e2];exact e;cases e
def D3 {h h':List Q0}(k:sA h h'){v:V}{es:List (List PV)}(e:asList h v=some es):asList h' v=some es:=by unfold asList at e⊢;split at e;split at e;rename_i es' e1;simp only[OJ k e1];exact e;cases e;cases e
def UB {h h':List Q0}(k:sA h h'){l:L}{p:PV}(e:l.view h=some p)(m:L.mut h l=false):L.mut h' l=false:=by
 cases l with
 |arr o=>simp only[L.view]at e;simp only[L.mut]at m⊢;split at e;rename_i z es he;rw[he]at m;simp at m;rename_i z es he;rcases k o _ he (by simp)with e1|⟨z',es',e2,e1⟩;rw[e1];rcases e2 with e2|e2<;>cases e2;rename_i z es he;rw[he]at m;simp at m;cases e
 |_=>rfl
def Rc {h h':List Q0}(k:sA h h'):∀{ls:List L}{ps:List PV},viewL h ls=some ps->ls.any (L.mut h)=false->ls.any (L.mut h')=false
 |[],_,_,_=>rfl
 |l::ls,ps,e,m=>by simp only[viewL]at e;split at e;rename_i p qs e1 e2;simp only[Qd,ZR]at m⊢;exact⟨UB k e1 m.1,Rc k e2 m.2⟩;cases e
def acp {h h':List Q0}(k:sA h h'){v u:V}(e:v.view h=some u)(m:v.mut h=false):v.mut h'=false:=by unfold V.view at e;unfold V.mut at m⊢;split at e;rfl;rename_i l ar;split at e;rename_i p e1;simp only[V.cells,Qd,List.any_nil,QX]at m⊢;exact UB k e1 m;cases e;split at e;rename_i ps e1;simp only[V.cells]at m⊢;exact Rc k e1 m;cases e;cases e
def Re {h h':List Q0}(k:sA h h'):∀{vs us:List V},cy h vs=some us->vs.any (V.mut h)=false->vs.any (V.mut h')=false
 |[],_,_,_=>rfl
 |v::vs,us,e,m=>by simp only[cy]at e;split at e;rename_i p qs e1 e2;simp only[Qd,ZR]at m⊢;exact⟨acp k e1 m.1,Re k e2 m.2⟩;cases e
def xh {h h':List Q0}(k:sA h h'){g:Bool}{n:Nat}{a v:V}(e:dM h g n a=some v):dM h' g n a=some v:=by unfold dM at e⊢;split at e;rename_i o i j;split at e;rename_i cs he;rcases k o _ he (by simp)with e1|⟨z',es',e2,e1⟩;simp only[e1];exact e;rcases e2 with e2|e2<;>cases e2;rename_i z es he;rcases k o _ he (by simp)with e1|⟨z',es',e2,e1⟩;simp only[e1];exact e;rcases e2 with e2|e2<;>cases e2;simp only[e1];exact e;rename_i z es he;rcases k o _ he (by simp)with e1|⟨z',es',e2,e1⟩;simp only[e1];exact e;rcases e2 with e2|e2<;>cases e2;rename_i z es he;rcases k o _ he (by simp)with e1|⟨z',es',e2,e1⟩;simp only[e1];exact e;rcases e2 with e2|e2<;>cases e2;simp only[e1];exact e;rename_i ps he;rcases k o _ he (by simp)with e1|⟨z',es',e2,e1⟩;simp only[e1];exact e;rcases e2 with e2|e2<;>cases e2;cases e;exact e;cases e
def Io {h h':List Q0}(k:sA h h'){z:Nat}{x v:V}{i:Nat}(e:cN h z x i=some v):cN h' z x i=some v:=by unfold cN at e⊢;split at e;rename_i o;split at e;rename_i z' es he;rcases k o _ he (by simp)with e1|⟨_,_,e2,e1⟩;simp only[e1];exact e;rcases e2 with e2|e2<;>cases e2;simp only[e1];exact e;rename_i z' es he;rcases k o _ he (by simp)with e1|⟨_,_,e2,e1⟩;simp only[e1];exact e;rcases e2 with e2|e2<;>cases e2;rename_i z' es he;rcases k o _ he (by simp)with e1|⟨_,_,e2,e1⟩;simp only[e1];exact e;rcases e2 with e2|e2<;>cases e2;simp only[e1];exact e;cases e;exact e;cases e
def sA.lent {h h':List Q0}(k:sA h h'):sA (Gi.lent h) (Gi.lent h'):=by intro o x e hn;obtain⟨ob,h1,rfl⟩:=qQ e;rcases k o ob h1 (by rintro rfl;exact hn rfl)with e1|⟨z,es,hD,e1⟩;exact .inl (An e1);refine .inr ⟨z,es,?_,An e1⟩;rcases hD with rfl|rfl;exact .inl rfl;exact .inr rfl
def V8 {h h':List Q0}(k:sA h h'){g:Bool}{n:Nat}{a v:V}(e:vk h g n a=some v):vk h' g n a=some v:=by
 unfold vk at e⊢;split at e;rename_i o i j;split at e;rename_i z es he;rcases k o _ he (by simp)with e1|⟨_,_,e2,e1⟩;simp only[e1];exact e;rcases e2 with e2|e2<;>cases e2;rename_i ar;have aT:∀z es,h'[o]? ≠some (.bB z es):=fun z es e1=>by
  have he:=e;unfold dM at he;simp only at he;cases h2:h[o]? with
  |none=>rw[h2]at he;cases he
  |some ob=>
   have hn:ob≠ .res:=by rintro rfl;rw[h2]at he;cases he
   rcases k o ob h2 hn with e3|⟨_,_,_,e3⟩;rw[e1]at e3;cases e3;exact ar z es h2;rw[e1]at e3;cases e3
 split;rename_i z es e1;exact absurd e1 (aT z es);exact xh k e;exact xh k e
def aaE {ao:AOp}(hc:ao.cls=1){t:List V}{h h':List Q0}(k:sA h h'){v:V}(e:dX call ⟨t,h⟩ ao=some v):dX call ⟨t,h'⟩ ao=some v:=by
 have ev:∀x:Opd,x.ev ⟨t,h⟩=x.ev ⟨t,h'⟩:=fun x=>yz;have aU:Opd.ev ⟨t,h⟩=Opd.ev ⟨t,h'⟩:=funext ev;cases ao with
 |load g n a=>simp only[dX,ev]at e⊢;exact xh k e
 |c0 g n a=>
  simp only[dX,ev]at e⊢;split at e;rename_i hq;have aV:ej h' (a.ev ⟨t,h'⟩)=true:=by unfold ej at hq⊢;split at hq;rename_i o i j hv;split at hq;rename_i cs ho;rcases k o _ ho (by simp)with e1|⟨z',es',e2,e1⟩;rw[e1];rcases e2 with e2|e2<;>cases e2;rename_i cs ho;rcases k o _ ho (by simp)with e1|⟨z',es',e2,e1⟩;rw[e1];rcases e2 with e2|e2<;>cases e2;cases hq;rfl;cases hq
  rw[if_pos aV];exact xh k e;cases e
 |bd g n a r=>simp only[dX,ev]at e⊢;split at e;rename_i hq;rw[if_pos hq];exact xh k e;cases e
 |bo g n a=>
  simp only[dX,ev]at e⊢;split at e;cases e;rename_i hq;have aV:¬ej h' (a.ev ⟨t,h'⟩)=true:=by intro ag;unfold ej at hq ag;unfold dM at e;split at e;rename_i o i j hv;rw[hv]at hq ag;simp only at hq ag;split at e;rename_i cs ho;rw[ho]at hq;exact hq rfl;rename_i z es ho;rcases k o _ ho (by simp)with e1|⟨z',es',e2,e1⟩;rw[e1]at ag;cases ag;rw[e1]at ag;cases ag;rename_i z es ho;rcases k o _ ho (by simp)with e1|⟨z',es',e2,e1⟩;rw[e1]at ag;cases ag;rcases e2 with e2|e2<;>cases e2;rename_i z es ho;rcases k o _ ho (by simp)with e1|⟨z',es',e2,e1⟩;rw[e1]at ag;cases ag;rw[e1]at ag;cases ag;rename_i cs ho;rw[ho]at hq;exact hq rfl;cases e;rename_i e1 j hv;rw[hv]at hq;exact hq rfl;cases e
  rw[if_neg aV];exact xh k e
 |cK x=>simp only[dX,ev]at e⊢;split at e;rename_i es e1;rw[D3 k e1];exact e;cases e
 |len x=>simp only[dX,ev]at e⊢;split at e;rename_i es e1;rw[D3 k e1];exact e;cases e
 |bF z x i=>simp only[dX,ev]at e⊢;split at e;split at e;rename_i hn;simp only[if_pos hn];exact Io k e;cases e;cases e
 |bl x xz=>simp only[dX,aU]at e⊢;split at e;split at e;rename_i us e1;simp only[vZ k e1];exact e;cases e;cases e
 |call f xz fl fz=>
  simp only[dX,aU]at e⊢;split at e;rename_i aA;rw[if_pos aA];split at e;rename_i hm;split at e;rename_i us e1;have aB:(fl|| !((xz.map (Opd.ev ⟨t,h'⟩)).any (V.mut h')))=true:=by
   cases fl with
   |true=>rfl
   |false=>simp only[Bool.false_or,ZB]at hm⊢;exact Re k e1 hm
  rw[if_pos aB,vZ k e1];exact e;cases e;cases e;cases e
 |bw x=>simp only[dX,ev]at e⊢;split at e;rename_i es e1;rw[D3 k.lent e1];exact e;cases e
 |bL z x i=>simp only[dX,ev]at e⊢;split at e;split at e;rename_i hn;simp only[if_pos hn];exact Io k.lent e;cases e;cases e
 |bm g n a=>simp only[dX,ev]at e⊢;exact V8 k e
 |ba f xz=>simp only[dX,aU]at e⊢;split at e;rename_i us e1;simp only[vZ k.lent e1];exact e;cases e
 |_=>simp[AOp.cls]at hc
def aa9 {x y:X2}(al:yJ x y=true)(t:List V)(v u:V):put (put t x.dst v) y.dst u=put (put t y.dst u) x.dst v:=by
 cases hd:x.dst with
 |none=>rfl
 |some d=>
  cases he:y.dst with
  |none=>rfl
  |some e=>
   have ae:d≠e:=by simp only[yJ,hd,he,Zg,bne_iff_ne,ne_eq]at al;intro e';exact al.1.2 (by rw[e'])
   simp only[put];exact YX v u ae
def OY {x y:X2}(h:yJ x y=true):yJ y x=true:=by unfold yJ at*;cases hx:x.dst<;>cases hy:y.dst<;>simp_all;exact fun e=>h.1.2 e.symm
def Im {x:X2}(hc:x.op.cls=0){t:List V}{h h1 h':List Q0}{v:V}(e:nH call x ⟨t,h⟩=some (v,h1)):h1=h/\ nH call x ⟨t,h'⟩=some (v,h'):=by unfold nH at e⊢;rw[qX (h:=h') (h':=h)];split at e;rw[aaF (h:=h') (h':=h) hc];split at e;cases e;exact⟨rfl,rfl⟩;rw[Is (by omega)]at e;cases e;cases e;exact⟨rfl,rfl⟩;cases e
def Pv {x:X2}(hc:x.op.cls=1){t:List V}{h h1 h':List Q0}(k:sA h h'){v:V}(e:nH call x ⟨t,h⟩=some (v,h1)):h1=h/\ nH call x ⟨t,h'⟩=some (v,h'):=by unfold nH at e⊢;rw[qX (h:=h') (h':=h)];split at e;split at e;rename_i hf;cases e;rw[aaE hc k hf];exact⟨rfl,rfl⟩;rw[Is (by omega)]at e;cases e;cases e;exact⟨rfl,rfl⟩;cases e
def adw {x:X2}(hc:x.op.cls<=2){Z:St}{h':List Q0}{v:V}(e:nH call x Z=some (v,h')):sA Z.h h':=by unfold nH at e;split at e;split at e;cases e;exact sA.refl _;by_cases h2:x.op.cls=2;exact adx h2 e;rw[Is (by omega)]at e;cases e;cases e;exact sA.refl _;cases e
def xu :∀(ls:List L)(h:List Q0),∃l,(thawL h ls).2=h++l/\ tn l
 |[],h=>⟨[],by simp[thawL],fun ob ai=>by cases ai⟩
 |l::ls,h=>by
  have push:∀ob:Q0,ob.bn->∃l,(thawL (h++[ob]) ls).2=h++l/\ tn l:=fun ob ho=>by
   obtain⟨l,e,ha⟩:=xu ls (h++[ob]);exact⟨ob::l,by rw[e];simp,fun x hx=>by
    rcases ZF.1 hx with rfl|hx
    ·exact ho
    ·exact ha x hx⟩
  cases l with
  |own z es=>exact push _ trivial
  |down z es=>exact push _ trivial
  |_=>exact xu ls h
def Ms :∀(xs:List (Bool×List L))(h:List Q0),∃l,(thawT h xs).2=h++l/\ tn l
 |[],h=>⟨[],by simp[thawT],fun ob ai=>by cases ai⟩
 |(b,ls)::xs,h=>by obtain⟨l,e,ha⟩:=xu ls h;obtain⟨l',e',bt⟩:=Ms xs (thawL h ls).2;refine⟨l++l',by simp only[thawT];rw[e',e,List.append_assoc],fun x hx=> ?_⟩;rcases Ye.1 hx with hx|hx;exact ha x hx;exact bt x hx
def R4 (h:List Q0)(r:V):∃l,(thaw h r).2=h++l/\ tn l:=by
 cases r with
 |one l=>obtain⟨l',h',e'⟩:=me h l;obtain⟨x,e,ha⟩:=xu [l] h;rw[e']at e;exact⟨x,by simp only[thaw,e'];exact e,ha⟩
 |agg ls=>exact xu ls h
 |b8 xs=>exact Ms xs h
def fS (h h':List Q0):Prop:=∀(o:Nat)(ob:Q0),(match ob with| .box _=>True| .bK _=>True|_=>False)->(h[o]? =some ob↔h'[o]? =some ob)
def fS.refl (h:List Q0):fS h h:=fun _ _ _=>Iff.rfl
def fS.symm {h h':List Q0}(k:fS h h'):fS h' h:=fun o ob q=>(k o ob q).symm
def fS.trans {a b c:List Q0}(h:fS a b)(k:fS b c):fS a c:=fun o ob q=>(h o ob q).trans (k o ob q)
def fS.app {h l:List Q0}(ha:tn l):fS h (h++l):=fun o ob q=>by
 by_cases hlt:o<h.length;rw[Ze hlt]
 ·rw[ZT (by omega),Zm (by omega)];constructor;intro e;cases e
  ·intro e;have:=ha ob (Zn e);cases ob<;>first|exact this.elim|exact q.elim
def fS.push (h:List Q0){z:Nat}{es:List (List PV)}:fS h (h++[.arr z es]):=fun o ob q=>by rcases QU o h.length with hlt|rfl|cp;rw[Ze hlt];simp only[Zm (Zi _),YH,Yg,ZT (Zi _)];constructor;intro e;cases e;intro e;cases e;exact q.elim;rw[ZT (by omega),ZT (by simp;omega)]
def fS.cB {h:List Q0}{o z:Nat}{es:List (List PV)}{bg:Q0}(ho:h[o]? =some bg)(hD:bg.bq z es){ob':Q0}(hb:match ob' with| .box _=>False| .bK _=>False|_=>True):fS h (h.set o ob'):=fun i ob q=>by by_cases hi:o=i;subst hi;rw[Zd (Zb.1 ho).1,ho];constructor;intro e;cases e;rcases hD with rfl|rfl<;>exact q.elim;intro e;cases e;revert q hb;cases ob'<;>simp;rw[Za hi]
def fS.freezeL (h:List Q0)(l:L):fS h (Gi.freezeL h l):=by
 cases l with
 |arr o=>simp only[Gi.freezeL];split;rename_i z es he;exact fS.cB he (.inl rfl) trivial;rename_i z es he;exact fS.cB he (.inr rfl) trivial;exact fS.refl h
 |_=>exact fS.refl h
def fS.freezeLs :∀(ls:List L)(h:List Q0),fS h (Gi.freezeLs h ls)
 |[],h=>fS.refl h
 |l::ls,h=>(fS.freezeL h l).trans (fS.freezeLs ls (Gi.freezeL h l))
def fS.freezeVs :∀(vs:List V)(h:List Q0),fS h (Gi.freezeVs h vs)
 |[],h=>fS.refl h
 |v::vs,h=>(fS.freezeLs v.cells h).trans (fS.freezeVs vs (Gi.freezeLs h v.cells))
def VA {Z:St}{ao:AOp}(hc:ao.cM=true){v:V}{h':List Q0}(he:eX call Z ao=some (v,h')):fS Z.h h':=by
 cases ao with
 |bM z parts=>simp only[eX]at he;split at he;split at he;cases he;exact(fS.freezeVs _ _).trans (fS.push _);cases he;cases he
 |make b zero n=>simp only[eX]at he;split at he;split at he;cases he;exact fS.push _;cases he;cases he
 |bu z x lo hi=>simp only[eX]at he;split at he;split at he;split at he;cases he;exact fS.freezeLs _ _;cases he;cases he;cases he
 |append z b x y=>simp only[eX]at he;split at he;split at he;cases he;exact fS.push _;cases he;split at he;rename_i z' es ho;split at he;cases he;exact(fS.cB ho (.inl rfl) trivial).trans (fS.push _);cases he;cases he;cases he
 |bR b x y=>simp only[eX]at he;split at he;split at he;cases he;exact fS.push _;cases he;split at he;rename_i z' es ho;split at he;cases he;exact(fS.cB ho (.inl rfl) trivial).trans (fS.push _);cases he;cases he;cases he
 |bV z parts=>simp only[eX]at he;split at he;split at he;cases he;exact(fS.freezeVs _ _).trans (fS.app fun ob ai=>by simp at ai;subst ai;trivial);cases he;cases he
 |bH z b x y=>
  simp only[eX]at he;split at he;cases he;rename_i sc bz;split at he;cases he;split at he;cases he;refine(fS.freezeLs (y.ev Z).cells _).trans (fS.trans ?_ (fS.app fun ob ai=>by simp at ai;subst ai;trivial));rcases Mo bz with⟨_,rfl⟩|⟨o,es,_,rfl,hd⟩;exact fS.refl _;have ai:∃ob,Z.h[o]? =some ob/\ ob.bq z es:=by unfold de at hd;split at hd;rename_i z' es' ho;split at hd;cases hd;exact⟨_,ho, .inl rfl⟩;cases hd;rename_i z' es' ho;cases hd;exact⟨_,ho, .inr rfl⟩;cases hd
  obtain⟨ob,ho,hD⟩:=ai;rcases sA.freezeLs (y.ev Z).cells Z.h o ob ho (by rcases hD with rfl|rfl<;>simp)with e1|⟨z',es',_,e1⟩;exact fS.cB e1 hD trivial;simp only[cJ];intro i x q;by_cases hi:o=i;subst hi;rw[Zd (Zb.1 e1).1,e1];constructor;intro e;cases e;exact q.elim;intro e;cases e;exact q.elim;rw[Za hi];cases he
 |bN f xz=>
  have th:∀(h:List Q0)(r:V),fS h (thaw h r).2:=fun h r=>by obtain⟨l,e,ha⟩:=R4 h r;rw[e];exact fS.app ha
  simp only[eX]at he;split at he;split at he;rename_i r _;have bA:=Option.some.inj he;have e2:=congrArg Prod.snd bA;simp only at e2;rw[<-e2];refine fS.trans ?_ (th _ _);split;exact fS.refl _;exact fS.freezeVs _ _;cases he;cases he
 |_=>simp[AOp.cM]at hc
def L5 {x:X2}(hc:x.op.cM=true){Z:St}{h':List Q0}{v:V}(e:nH call x Z=some (v,h')):fS Z.h h':=by unfold nH at e;split at e;split at e;cases e;exact fS.refl _;exact VA hc e;cases e;exact fS.refl _;cases e
def P6 {h h':List Q0}(k:fS h h')(v:V):ej h v=ej h' v:=by
 cases v with
 |one l=>
  cases l with
  |ptr o i j=>
   simp only[ej];cases e1:h[o]? with
   |none=>
    cases e2:h'[o]? with
    |none=>rfl
    |some ob'=>
     cases ob' with
     |box cs=>rw[(k o _ trivial).2 e2]at e1;cases e1
     |bK cs=>rw[(k o _ trivial).2 e2]at e1;cases e1
     |_=>rfl
   |some ob=>
    cases ob with
    |box cs=>rw[(k o _ trivial).1 e1]
    |bK cs=>rw[(k o _ trivial).1 e1]
    |_=>
     cases e2:h'[o]? with
     |none=>rfl
     |some ob'=>
      cases ob' with
      |box cs=>rw[(k o _ trivial).2 e2]at e1;cases e1
      |bK cs=>rw[(k o _ trivial).2 e2]at e1;cases e1
      |_=>rfl
  |_=>rfl
 |_=>rfl
def V7 {h h':List Q0}(k:fS h h'){g:Bool}{n:Nat}(v:V)(q:ej h v=true):dM h g n v=dM h' g n v:=by unfold ej at q;split at q;rename_i o i j;split at q;rename_i cs e1;simp only[dM,e1,(k o _ trivial).1 e1];rename_i cs e1;simp only[dM,e1,(k o _ trivial).1 e1];cases q;rfl;cases q
def aaX {h h':List Q0}(k:fS h h'){g:Bool}{n:Nat}(v:V):(if ej h v then dM h g n v else none)=(if ej h' v then dM h' g n v else none):=by by_cases q:ej h v=true;rw[if_pos q,if_pos (by rw[<-P6 k];exact q),V7 k v q];rw[if_neg q,if_neg (by rw[<-P6 k];exact q)]
def Ik {x:X2}(hc:x.op.cU=true){t:List V}{h h1 h':List Q0}(k:fS h h'){v:V}(e:nH call x ⟨t,h⟩=some (v,h1)):h1=h/\ nH call x ⟨t,h'⟩=some (v,h'):=by
 unfold nH at e⊢;rw[qX (h:=h') (h':=h)];have hf:dX call ⟨t,h⟩ x.op=dX call ⟨t,h'⟩ x.op/\ ∀s,eX call s x.op=none:=by
  cases hx:x.op with
  |c0 g n a=>refine⟨?_,fun _=>rfl⟩;simp only[dX];rw[yz (h:=h) (h':=h')];exact aaX k _
  |_=>rw[hx]at hc;cases hc
 split at e;rw[<-hf.1];split at e;cases e;exact⟨rfl,rfl⟩;rw[hf.2]at e;cases e;cases e;exact⟨rfl,rfl⟩;cases e
def Ty {h h':List Q0}{n:Nat}{a v:V}(q:ej h a=true)(e:dK h n a v=some h'):∃o cs cs',h[o]? =some (.box cs)/\ h'=h.set o (.box cs'):=by simp only[dK]at e;split at e;split at e;rename_i o i j;split at e;rename_i cs ho;split at e;cases e;exact⟨o,cs,_,ho,rfl⟩;cases e;rename_i z es ho;simp[ej,ho]at q;cases e;cases e;cases e
def vP {h:List Q0}{o:Nat}{cs cs':List L}(ho:h[o]? =some (.box cs))(i:Nat):(h.set o (.box cs'))[i]? =h[i]? \/(h[i]? =some (.box cs)/\ (h.set o (.box cs'))[i]? =some (.box cs')):=by by_cases e:o=i;subst e;exact .inr ⟨ho,Zd (Zb.1 ho).1⟩;exact .inl (Za e)
def V1 {h:List Q0}{o:Nat}{cs cs':List L}(ho:h[o]? =some (.box cs))(v:V):ej (h.set o (.box cs')) v=ej h v:=by
 cases v with
 |one l=>
  cases l with
  |ptr i a b=>simp only[ej];rcases vP (cs':=cs') ho i with e|⟨e1,e2⟩;rw[e];rw[e1,e2]
  |_=>rfl
 |_=>rfl
def V6 {h:List Q0}{o:Nat}{cs cs':List L}(ho:h[o]? =some (.box cs)){g:Bool}{n:Nat}(v:V):(if ej (h.set o (.box cs')) v then none else dM (h.set o (.box cs')) g n v)=(if ej h v then none else dM h g n v):=by
 rw[V1 ho];by_cases q:ej h v=true;rw[if_pos q,if_pos q];rw[if_neg q,if_neg q];cases v with
 |one l=>
  cases l with
  |ptr i a b=>simp only[dM];rcases vP (cs':=cs') ho i with e|⟨e1,e2⟩;rw[e];simp[ej,e1]at q
  |_=>rfl
 |_=>rfl
def Pw {h:List Q0}{o:Nat}{cs cs':List L}(ho:h[o]? =some (.box cs)){z:Nat}(x:V)(i:Nat):cN (h.set o (.box cs')) z x i=cN h z x i:=by
 cases x with
 |one l=>
  cases l with
  |arr q=>simp only[cN];rcases vP (cs':=cs') ho q with e|⟨e1,e2⟩;rw[e];rw[e1,e2]
  |pv p=>cases p<;>rfl
  |_=>rfl
 |_=>rfl
def SB {h:List Q0}{o:Nat}{cs cs':List L}(ho:h[o]? =some (.box cs))(x:V):asList (h.set o (.box cs')) x=asList h x:=by
 cases x with
 |one l=>
  cases l with
  |arr q=>simp only[asList,L.view];rcases vP (cs':=cs') ho q with e|⟨e1,e2⟩;rw[e];rw[e1,e2]
  |pv p=>cases p<;>rfl
  |_=>rfl
 |_=>rfl
def Pt {nb:Bool}{x:X2}(hc:x.op.cR nb=true){t:List V}{h:List Q0}{o:Nat}{cs cs':List L}(ho:h[o]? =some (.box cs)):nH call x ⟨t,h.set o (.box cs')⟩=(nH call x ⟨t,h⟩).map fun y=>(y.1,h.set o (.box cs')):=by
 have hf:dX call ⟨t,h.set o (.box cs')⟩ x.op=dX call ⟨t,h⟩ x.op/\ ∀s,eX call s x.op=none:=by
  cases hx:x.op with
  |bo g n a=>refine⟨?_,fun _=>rfl⟩;simp only[dX];rw[yz (h:=h.set o (.box cs')) (h':=h)];exact V6 ho _
  |bF z a i=>refine⟨?_,fun _=>rfl⟩;simp only[dX];rw[yz (x:=a) (h:=h.set o (.box cs')) (h':=h),yz (x:=i) (h:=h.set o (.box cs')) (h':=h)];simp only[Pw ho]
  |len a=>refine⟨?_,fun _=>rfl⟩;simp only[dX];rw[yz (x:=a) (h:=h.set o (.box cs')) (h':=h),SB ho]
  |_=>rw[hx]at hc;cases hc
 unfold nH;rw[qX (h:=h.set o (.box cs')) (h':=h)];cases dy ⟨t,h⟩ x.guard with
 |none=>rfl
 |some b=>
  cases b with
  |false=>rfl
  |true=>simp only;rw[hf.1,hf.2,hf.2];cases dX call ⟨t,h⟩ x.op<;>rfl
def wb {nb:Bool}{x:X2}(hc:x.op.cR nb=true){t:List V}{h h1:List Q0}{v:V}(e:nH call x ⟨t,h⟩=some (v,h1)):h1=h:=by
 have he:∀s,eX call s x.op=none:=by
  cases hx:x.op with
  |bo g n a=>exact fun _=>rfl
  |bF z a i=>exact fun _=>rfl
  |len a=>exact fun _=>rfl
  |_=>rw[hx]at hc;cases hc
 unfold nH at e;split at e;split at e;cases e;rfl;rw[he]at e;cases e;cases e;rfl;cases e
def Pu {x:X2}(hc:x.op.cV=true){t:List V}{h h1:List Q0}{v:V}(e:nH call x ⟨t,h⟩=some (v,h1)):h1=h \/∃o cs cs',h[o]? =some (.box cs)/\ h1=h.set o (.box cs'):=by
 cases hx:x.op with
 |bP n a y=>unfold nH at e;rw[hx]at e;split at e;split at e;rename_i hf;cases hf;simp only[eX]at e;split at e;rename_i hq;split at e;rename_i h2 hs;cases e;exact .inr (Ty hq hs);cases e;cases e;cases e;exact .inl rfl;cases e
 |_=>rw[hx]at hc;cases hc
def Il {x:X2}(hc:x.op.cW=true){t:List V}{h h1 h':List Q0}{v:V}(e:nH call x ⟨t,h⟩=some (v,h1)):h1=h/\ nH call x ⟨t,h'⟩=some (v,h'):=by
 cases hx:x.op with
 |storeT n a y=>unfold nH at e⊢;rw[qX (h:=h') (h':=h)];rw[hx]at e⊢;split at e;split at e;rename_i hf;cases hf;simp only[eX]at e;simp only[dX,eX];rw[yz (x:=a) (h:=h') (h':=h),yz (x:=y) (h:=h') (h':=h)];split at e;rename_i m aW;split at e;rename_i hq;cases e;refine⟨rfl,?_⟩;simp only[aW,if_pos hq];cases e;cases e;cases e;exact⟨rfl,rfl⟩;cases e
 |_=>rw[hx]at hc;cases hc
def Ii {x:X2}{n:Nat}(hx:x.op= .bT n){t:List V}{h:List Q0}:(∀h',nH call x ⟨t,h'⟩=some (.one (.tp n),h'++[.bS n])) \/(∀h',nH call x ⟨t,h'⟩=some (.b8 [],h')) \/(∀h',nH call x ⟨t,h'⟩=none):=by
 have hw:∀h',dy ⟨t,h'⟩ x.guard=dy ⟨t,h⟩ x.guard:=fun h'=>qX;cases q:dy ⟨t,h⟩ x.guard with
 |none=>exact .inr (.inr fun h'=>by unfold nH;rw[hw,q])
 |some b=>
  cases b with
  |true=>exact .inl fun h'=>by unfold nH;rw[hw,q,hx];rfl
  |false=>exact .inr (.inl fun h'=>by unfold nH;rw[hw,q])
def Ie {h:List Q0}{i:Nat}{cs:List L}(hi:h[i]? =some .res)(o:Nat):de (h.set i (.box cs)) o=de h o:=by unfold de;by_cases q:i=o;subst q;rw[Zd (Zb.1 hi).1,hi];rw[Za q]
def Vx {h:List Q0}{i o:Nat}{r:Nat×List (List PV)}(hi:h[i]? =some .res)(e:de h o=some r):o≠i:=by rintro rfl;simp[de,hi]at e
def abq {h:List Q0}{i z:Nat}{cs:List L}(hi:h[i]? =some .res)(v:V):hJ (h.set i (.box cs)) z v=hJ h z v:=by unfold hJ;split<;>simp only[Ie hi]
def acQ {h:List Q0}{i z:Nat}{cs:List L}(hi:h[i]? =some .res)(src:Option (Nat×List (List PV)))(v:V):nI (h.set i (.box cs)) z src v=nI h z src v:=by unfold nI;split<;>simp only[Ie hi]
def PW {h:List Q0}{i:Nat}{cs:List L}(hi:h[i]? =some .res)(l:L):freezeL (h.set i (.box cs)) l=(freezeL h l).set i (.box cs)/\ (freezeL h l)[i]? =some .res:=by
 have hlt:=(Zb.1 hi).1;cases l with
 |arr o=>by_cases q:i=o;subst q;simp only[freezeL,Zd hlt,hi];exact⟨trivial,trivial⟩;simp only[freezeL,Za q];split;exact⟨YX _ _ q,by rw[Za (fun e=>q e.symm)];exact hi⟩;exact⟨YX _ _ q,by rw[Za (fun e=>q e.symm)];exact hi⟩;exact⟨rfl,hi⟩
 |_=>exact⟨rfl,hi⟩
def xL {i:Nat}{cs:List L}:∀(ls:List L){h:List Q0},h[i]? =some .res->freezeLs (h.set i (.box cs)) ls=(freezeLs h ls).set i (.box cs)/\ (freezeLs h ls)[i]? =some .res
 |[],h,hi=>⟨rfl,hi⟩
 |l::ls,h,hi=>by obtain⟨e1,e2⟩:=PW (cs:=cs) hi l;obtain⟨e3,e4⟩:=xL (cs:=cs) ls e2;simp only[freezeLs,YW]at e3 e4⊢;rw[e1];exact⟨e3,e4⟩
def O4 {h:List Q0}{i z b:Nat}{x y:Opd}{t:List V}{cs:List L}(hi:h[i]? =some .res):eX call ⟨t,h.set i (.box cs)⟩ (.bH z b x y)=(eX call ⟨t,h⟩ (.bH z b x y)).map (fun q=>(q.1,q.2.set i (.box cs)))/\
 ∀q,eX call ⟨t,h⟩ (.bH z b x y)=some q->q.2[i]? =some .res:=by
 have hlt:=(Zb.1 hi).1;simp only[eX];rw[yz (x:=x) (h:=h.set i (.box cs)) (h':=h),yz (x:=y) (h:=h.set i (.box cs)) (h':=h),abq hi];cases hs:hJ h z (x.ev ⟨t,h⟩)with
 |none=>exact⟨rfl,fun q e=>by cases e⟩
 |some src=>
  simp only[acQ hi];cases hy:nI h z src (y.ev ⟨t,h⟩)with
  |none=>exact⟨rfl,fun q e=>by cases e⟩
  |some ys=>
   simp only;obtain⟨f1,f2⟩:=xL (cs:=cs) (y.ev ⟨t,h⟩).cells hi;have aA:i<(freezeLs h (y.ev ⟨t,h⟩).cells).length:=(Zb.1 f2).1;have g1:cJ src ((freezeLs h (y.ev ⟨t,h⟩).cells).set i (.box cs))=(cJ src (freezeLs h (y.ev ⟨t,h⟩).cells)).set i (.box cs)/\ (cJ src (freezeLs h (y.ev ⟨t,h⟩).cells))[i]? =some .res:=by
    cases src with
    |none=>exact⟨rfl,f2⟩
    |some x0=>
     have ae:x0.1≠i:=by unfold hJ at hs;split at hs;cases hs;rename_i o _;split at hs;rename_i z' es hd;split at hs;cases hs;exact Vx hi hd;cases hs;cases hs;cases hs
     exact⟨YX _ _ fun e=>ae e.symm,by simp only[cJ];rw[Za ae];exact f2⟩
   have bh:i<(cJ src (freezeLs h (y.ev ⟨t,h⟩).cells)).length:=(Zb.1 g1.2).1;rw[f1,g1.1];split;refine⟨?_,fun q e=> ?_⟩;simp only[Qe,ZC];rw[Qw _ _ bh];cases e;simp only;rw[Ze bh];exact g1.2;exact⟨rfl,fun q e=>by cases e⟩
def Ps {x:X2}{z b:Nat}{p q:Opd}(hx:x.op= .bH z b p q){t:List V}{h:List Q0}{i:Nat}{cs:List L}(hi:h[i]? =some .res):nH call x ⟨t,h.set i (.box cs)⟩=(nH call x ⟨t,h⟩).map (fun y=>(y.1,y.2.set i (.box cs)))/\ ∀y,nH call x ⟨t,h⟩=some y->y.2[i]? =some .res:=by
 obtain⟨e1,e2⟩:=O4 (call:=call) (z:=z) (b:=b) (x:=p) (y:=q) (t:=t) (cs:=cs) hi;unfold nH;rw[qX (h:=h.set i (.box cs)) (h':=h),hx];cases dy ⟨t,h⟩ x.guard with
 |none=>exact⟨rfl,fun y e=>by cases e⟩
 |some w=>
  cases w with
  |true=>simp only[dX];exact⟨e1,e2⟩
  |false=>exact⟨rfl,fun y e=>by cases e;exact hi⟩
def Nr {h:List Q0}{i:Nat}{l:L}(e:(freezeL h l)[i]? =some .res):h[i]? =some .res:=by
 cases l with
 |arr o=>simp only[freezeL]at e;by_cases q:o=i;subst q;split at e;rename_i ho;rw[Zd (Zb.1 ho).1]at e;cases e;rename_i ho;rw[Zd (Zb.1 ho).1]at e;cases e;exact e;split at e;rwa[Za q]at e;rwa[Za q]at e;exact e
 |_=>exact e
def wD {i:Nat}:∀(ls:List L){h:List Q0},(freezeLs h ls)[i]? =some .res->h[i]? =some .res
 |[],h,e=>e
 |l::ls,h,e=>Nr (wD ls (h:=freezeL h l) e)
def KN {x:X2}{z b:Nat}{p q:Opd}(hx:x.op= .bH z b p q){t:List V}{h h1:List Q0}{v:V}{i:Nat}(e:nH call x ⟨t,h⟩=some (v,h1))(hi:h1[i]? =some .res):h[i]? =some .res:=by
 unfold nH at e;split at e;rw[hx]at e;simp only[dX,eX]at e;split at e;cases e;rename_i src hs;split at e;cases e;split at e;cases e;by_cases hl:i<(cJ src (freezeLs h (q.ev ⟨t,h⟩).cells)).length;rw[Ze hl]at hi;refine wD (q.ev ⟨t,h⟩).cells ?_;cases src with
 |none=>exact hi
 |some x0=>simp only[cJ]at hi hl⊢;by_cases hq:x0.1=i;rw[ZC]at hl;rw[hq,Zd hl]at hi;cases hi;rwa[Za hq]at hi
 rw[Zm (by omega)]at hi;cases hk:i-(cJ src (freezeLs h (q.ev ⟨t,h⟩).cells)).length with
 |zero=>rw[hk]at hi;simp at hi
 |succ n=>rw[hk]at hi;simp at hi
 cases e;cases e;exact hi;cases e
def So {h:List Q0}{i:Nat}{cs:List L}(hi:h[i]? =some .res)(l:L):l.view (h.set i (.box cs))=l.view h:=by
 cases l with
 |arr o=>by_cases q:i=o;subst q;simp only[L.view,Zd (Zb.1 hi).1,hi];simp only[L.view,Za q]
 |_=>rfl
def My {h:List Q0}{i:Nat}{cs:List L}(hi:h[i]? =some .res):∀ls:List L,viewL (h.set i (.box cs)) ls=viewL h ls
 |[]=>rfl
 |l::ls=>by simp only[viewL,So hi,My hi ls]
def WO {h:List Q0}{i:Nat}{cs:List L}(hi:h[i]? =some .res)(v:V):v.view (h.set i (.box cs))=v.view h:=by
 cases v with
 |one l=>cases l<;>simp only[V.view,So hi]
 |agg ls=>simp only[V.view,My hi]
 |b8 vs=>rfl
def DZ {h:List Q0}{i:Nat}{cs:List L}(hi:h[i]? =some .res):∀vs:List V,cy (h.set i (.box cs)) vs=cy h vs
 |[]=>rfl
 |v::vs=>by simp only[cy,WO hi,DZ hi vs]
def Dd {i:Nat}{cs:List L}:∀(vs:List V){h:List Q0},h[i]? =some .res->freezeVs (h.set i (.box cs)) vs=(freezeVs h vs).set i (.box cs)/\ (freezeVs h vs)[i]? =some .res
 |[],h,hi=>⟨rfl,hi⟩
 |v::vs,h,hi=>by obtain⟨e1,e2⟩:=xL (cs:=cs) v.cells hi;obtain⟨e3,e4⟩:=Dd (cs:=cs) vs e2;simp only[freezeVs,YW]at e3 e4⊢;rw[e1];exact⟨e3,e4⟩
def xw {i:Nat}{ob:Q0}:∀(ls:List L){h:List Q0},i<h.length->thawL (h.set i ob) ls=((thawL h ls).1,(thawL h ls).2.set i ob)/\ (thawL h ls).2[i]? =h[i]? /\ i<(thawL h ls).2.length
 |[],h,hi=>⟨rfl,rfl,hi⟩
 |l::ls,h,hi=>by
  have key:∀x:Q0,thawL (h.set i ob++[x]) ls=((thawL (h++[x]) ls).1,(thawL (h++[x]) ls).2.set i ob)/\ (thawL (h++[x]) ls).2[i]? =h[i]? /\ i<(thawL (h++[x]) ls).2.length:=fun x=>by obtain⟨e1,e2,e3⟩:=xw (i:=i) (ob:=ob) ls (h:=h++[x]) (by simp;omega);rw[Qw _ _ hi]at e1;rw[Ze hi]at e2;exact⟨e1,e2,e3⟩
  cases l with
  |own z es=>obtain⟨e1,e2,e3⟩:=key (.arr z es);simp only[thawL];rw[e1];exact⟨by simp,e2,e3⟩
  |down z es=>obtain⟨e1,e2,e3⟩:=key (.b9 z es);simp only[thawL];rw[e1];exact⟨by simp,e2,e3⟩
  |_=>obtain⟨e1,e2,e3⟩:=xw (ob:=ob) ls hi;simp only[thawL];rw[e1];exact⟨rfl,e2,e3⟩
def Mw {i:Nat}{ob:Q0}:∀(vs:List (Bool×List L)){h:List Q0},i<h.length->thawT (h.set i ob) vs=((thawT h vs).1,(thawT h vs).2.set i ob)/\ (thawT h vs).2[i]? =h[i]? /\ i<(thawT h vs).2.length
 |[],h,hi=>⟨rfl,rfl,hi⟩
 |(b,ls)::vs,h,hi=>by obtain⟨e1,e2,e3⟩:=xw (ob:=ob) ls hi;obtain⟨f1,f2,f3⟩:=Mw (ob:=ob) vs e3;simp only[thawT];rw[e1];simp only;rw[f1];exact⟨rfl,f2.trans e2,f3⟩
def R6 {i:Nat}{ob:Q0}{h:List Q0}(hi:i<h.length)(r:V):thaw (h.set i ob) r=((thaw h r).1,(thaw h r).2.set i ob)/\ (thaw h r).2[i]? =h[i]? :=by
 cases r with
 |one l=>
  obtain⟨e1,e2,e3⟩:=xw (ob:=ob) [l] hi;simp only[thaw];rw[e1];cases q:thawL h [l]with
  |mk a b=>
   rw[q]at e2;cases a with
   |nil=>exact⟨rfl,rfl⟩
   |cons x xs=>cases xs with
    |nil=>exact⟨rfl,e2⟩
    |cons _ _=>exact⟨rfl,rfl⟩
 |agg ls=>obtain⟨e1,e2,e3⟩:=xw (ob:=ob) ls hi;simp only[thaw];rw[e1];exact⟨rfl,e2⟩
 |b8 vs=>obtain⟨e1,e2,e3⟩:=Mw (ob:=ob) vs hi;simp only[thaw];rw[e1];exact⟨rfl,e2⟩
def Vk {h:List Q0}{i f:Nat}{xz:List Opd}{t:List V}{cs:List L}(hi:h[i]? =some .res):eX call ⟨t,h.set i (.box cs)⟩ (.bN f xz)=(eX call ⟨t,h⟩ (.bN f xz)).map (fun q=>(q.1,q.2.set i (.box cs)))/\
 ∀q,eX call ⟨t,h⟩ (.bN f xz)=some q->q.2[i]? =some .res:=by
 have hlt:=(Zb.1 hi).1;have aW:xz.map (Opd.ev ⟨t,h.set i (.box cs)⟩)=xz.map (Opd.ev ⟨t,h⟩):=ZO fun x _=>yz;simp only[eX];rw[aW,DZ hi];cases cy h (xz.map (Opd.ev ⟨t,h⟩))with
 |none=>exact⟨rfl,fun q e=>by cases e⟩
 |some vs=>
  simp only;cases call f vs with
  |none=>exact⟨rfl,fun q e=>by cases e⟩
  |some r=>
   simp only;cases r.closed with
   |true=>simp only[if_true];obtain⟨e1,e2⟩:=R6 (ob:= .box cs) hlt r;refine⟨by rw[e1];rfl,fun q e=> ?_⟩;cases e;exact e2.trans hi
   |false=>simp only[Zz,if_false];obtain⟨f1,f2⟩:=Dd (cs:=cs) (xz.map (Opd.ev ⟨t,h⟩)) hi;obtain⟨e1,e2⟩:=R6 (ob:= .box cs) (Zb.1 f2).1 r;refine⟨by rw[f1,e1];rfl,fun q e=> ?_⟩;cases e;exact e2.trans f2
def L3 {x:X2}{f:Nat}{xz:List Opd}(hx:x.op= .bN f xz){t:List V}{h:List Q0}{i:Nat}{cs:List L}(hi:h[i]? =some .res):nH call x ⟨t,h.set i (.box cs)⟩=(nH call x ⟨t,h⟩).map (fun y=>(y.1,y.2.set i (.box cs)))/\ ∀y,nH call x ⟨t,h⟩=some y->y.2[i]? =some .res:=by
 obtain⟨e1,e2⟩:=Vk (call:=call) (f:=f) (xz:=xz) (t:=t) (cs:=cs) hi;unfold nH;rw[qX (h:=h.set i (.box cs)) (h':=h),hx];cases dy ⟨t,h⟩ x.guard with
 |none=>exact⟨rfl,fun y e=>by cases e⟩
 |some w=>
  cases w with
  |true=>simp only[dX];exact⟨e1,e2⟩
  |false=>exact⟨rfl,fun y e=>by cases e;exact hi⟩
def A9 {i:Nat}:∀(vs:List V){h:List Q0},(freezeVs h vs)[i]? =some .res->h[i]? =some .res
 |[],h,e=>e
 |v::vs,h,e=>wD v.cells (A9 vs (h:=freezeLs h v.cells) e)
def sw {i:Nat}:∀(ls:List L){h:List Q0},(thawL h ls).2[i]? =some .res->h[i]? =some .res
 |[],h,e=>e
 |l::ls,h,e=>by
  have key:∀x:Q0,x≠ .res->(h++[x])[i]? =some .res->h[i]? =some .res:=fun x hx q=>by
   by_cases hl:i<h.length;rwa[Ze hl]at q;rw[Zm (by omega)]at q;cases hk:i-h.length with
   |zero=>rw[hk]at q;simp at q;exact absurd q hx
   |succ n=>rw[hk]at q;simp at q
  cases l with
  |own z es=>exact key _ (by simp) (sw ls e)
  |down z es=>exact key _ (by simp) (sw ls e)
  |_=>exact sw ls e
def Kq {i:Nat}:∀(vs:List (Bool×List L)){h:List Q0},(thawT h vs).2[i]? =some .res->h[i]? =some .res
 |[],h,e=>e
 |(b,ls)::vs,h,e=>sw ls (Kq vs e)
def Wz {i:Nat}{h:List Q0}{r:V}(e:(thaw h r).2[i]? =some .res):h[i]? =some .res:=by
 cases r with
 |one l=>simp only[thaw]at e;split at e;rename_i l' h' q;have:=sw [l] (h:=h) (i:=i);rw[q]at this;exact this e;exact e
 |agg ls=>exact sw ls e
 |b8 vs=>exact Kq vs e
def Ij {x:X2}{f:Nat}{xz:List Opd}(hx:x.op= .bN f xz){t:List V}{h h1:List Q0}{v:V}{i:Nat}(e:nH call x ⟨t,h⟩=some (v,h1))(hi:h1[i]? =some .res):h[i]? =some .res:=by
 unfold nH at e;split at e;rw[hx]at e;simp only[dX,eX]at e;split at e;split at e;rename_i r hr;simp only[Option.some.injEq]at e;have hq:(thaw (if r.closed=true then h else freezeVs h (xz.map (Opd.ev ⟨t,h⟩))) r).2[i]? =some .res:=by rw[e];exact hi
 have:=Wz hq;split at this;exact this;exact A9 _ this;cases e;cases e;cases e;exact hi;cases e
def sY {x:X2}{i:Nat}{zero:List L}(hx:x.op= .bI i zero){t:List V}{h h1:List Q0}{v:V}(e:nH call x ⟨t,h⟩=some (v,h1)):
 (h[i]? =some .res/\ v= .one (.ptr i 0 0)/\ h1=h.set i (.box zero)/\ ∀h',h'[i]? =some .res->nH call x ⟨t,h'⟩=some (v,h'.set i (.box zero))) \/(h1=h/\ ∀h',nH call x ⟨t,h'⟩=some (v,h')):=by
 have hw:∀h',dy ⟨t,h'⟩ x.guard=dy ⟨t,h⟩ x.guard:=fun h'=>qX;cases q:dy ⟨t,h⟩ x.guard with
 |none=>unfold nH at e;rw[q]at e;cases e
 |some b=>
  cases b with
  |true=>unfold nH at e;rw[q,hx]at e;simp only[dX,eX]at e;split at e;rename_i hi;cases e;refine .inl ⟨hi,rfl,rfl,fun h' aX=> ?_⟩;unfold nH;rw[hw,q,hx];simp only[dX,eX,aX];cases e
  |false=>unfold nH at e;rw[q]at e;cases e;exact .inr ⟨rfl,fun h'=>by unfold nH;rw[hw,q]⟩
def Wr {h h':List Q0}{n:Nat}{x v:V}(q:ej h x=true)(e:dK h n x v=some h'):∃o i j cs cs',x= .one (.ptr o i j)/\ h[o]? =some (.box cs)/\ h'=h.set o (.box cs'):=by simp only[dK]at e;split at e;split at e;rename_i o i j;split at e;rename_i cs ho;split at e;cases e;exact⟨o,i,j,cs,_,rfl,ho,rfl⟩;cases e;rename_i z es ho;simp[ej,ho]at q;cases e;cases e;cases e
def M6 {x y:X2}{g:Bool}{n m r t':Nat}{a w:Opd}(hx:x.op= .bd g n a r)(hy:y.op= .bP m (.tmp t') w)(hr:lnR r t'=true){t:List V}{h h1:List Q0}{u:V}(e:nH call y ⟨t,h⟩=some (u,h1)):
 (∀{hh:List Q0}{v:V}{h2:List Q0},nH call x ⟨t,hh⟩=some (v,h2)->h2=hh)/\ nH call x ⟨t,h1⟩=(nH call x ⟨t,h⟩).map fun q=>(q.1,h1):=by
 have hs:∀{hh:List Q0}{v:V}{h2:List Q0},nH call x ⟨t,hh⟩=some (v,h2)->h2=hh:=by intro hh v h2 e;unfold nH at e;rw[hx]at e;split at e;split at e;cases e;rfl;cases e;cases e;rfl;cases e
 refine⟨hs,?_⟩;have key:dX call ⟨t,h1⟩ x.op=dX call ⟨t,h⟩ x.op:=by
  unfold nH at e;rw[hy]at e;split at e;split at e;rename_i hf;cases hf;simp only[eX]at e;split at e;rename_i hq;split at e;rename_i h2 bC;cases e;obtain⟨o,i,j,cs,cs',ho,hb,rfl⟩:=Wr hq bC;rw[hx];simp only[dX];rw[yz (x:=a) (h:=h.set o (.box cs')) (h':=h),yz (x:= .tmp (r%65536)) (h:=h.set o (.box cs')) (h':=h),yz (x:= .tmp (r/65536)) (h:=h.set o (.box cs')) (h':=h)];cases hv:a.ev ⟨t,h⟩with
  |one l=>
   cases l with
   |ptr i' b c=>
    by_cases q:i'=o;subst q;unfold lnR at hr;rw[YL,Zg,beq_iff_eq,beq_iff_eq]at hr;rcases hr with rfl|⟨aY,rfl⟩;rw[ho];simp[oL];rw[ho];have bD:(r/65536==0)=false:=by simpa using aY
    simp[oL,bD];have q2:(h.set o (Q0.box cs'))[i']? =h[i']? :=Za (Ne.symm q);simp only[dM,q2]
   |_=>rfl
  |_=>rfl
  cases e;cases e;cases e;rfl;cases e
 unfold nH;rw[qX (h:=h1) (h':=h)];cases dy ⟨t,h⟩ x.guard with
 |none=>rfl
 |some b=>
  cases b with
  |false=>rfl
  |true=>simp only;rw[key,hx];cases dX call ⟨t,h⟩ (.bd g n a r)<;>rfl
def L4 {x:X2}{i:Nat}(hx:x.op.place=some i){t:List V}{h h1:List Q0}{v:V}(e:nH call x ⟨t,h⟩=some (v,h1)):
 (∃ob ob',h[i]? =some ob/\ h1=h.set i ob'/\ ∀h',h'[i]? =some ob->nH call x ⟨t,h'⟩=some (v,h'.set i ob')) \/(h1=h/\ ∀h',nH call x ⟨t,h'⟩=some (v,h')):=by
 have hw:∀h',dy ⟨t,h'⟩ x.guard=dy ⟨t,h⟩ x.guard:=fun h'=>qX;cases an:x.op with
 |bI j zero=>rw[an]at hx;obtain rfl:j=i:=Option.some.inj hx;rcases sY an e with⟨hi,rfl,rfl,a7⟩|⟨rfl,a7⟩;exact .inl ⟨_,_,hi,rfl,a7⟩;exact .inr ⟨rfl,a7⟩
 |storeAt j n a y=>
  rw[an]at hx;obtain rfl:j=i:=Option.some.inj hx;cases q:dy ⟨t,h⟩ x.guard with
  |none=>unfold nH at e;rw[q]at e;cases e
  |some b=>
   cases b with
   |true=>unfold nH at e;rw[q,an]at e;simp only[dX,eX]at e;split at e;rename_i o k cs ha hi;split at e;rename_i hp;cases e;refine .inl ⟨_,_,hi,rfl,fun h' aX=> ?_⟩;unfold nH;rw[hw,q,an];simp only[dX,eX];rw[yz (x:=a) (h:=h') (h':=h),yz (x:=y) (h:=h') (h':=h),ha,aX];simp only[if_pos hp];cases e;cases e
   |false=>unfold nH at e;rw[q]at e;cases e;exact .inr ⟨rfl,fun h'=>by unfold nH;rw[hw,q]⟩
 |_=>rw[an]at hx;cases hx
def SN {nb:Bool}{x y:X2}(hc:Pm nb x y=true){Z σ1 σ2:St}(h1:cS call x Z=some σ1)(h2:cS call y σ1=some σ2):∃σ3,cS call y Z=some σ3/\ cS call x σ3=some σ2:=by
 obtain⟨t,h⟩:=Z;simp only[Pm,Zg,YL,beq_iff_eq,Nat.ble_eq]at hc;obtain⟨al,bE⟩:=hc;rw[FJ,Zl]at h1 h2;obtain⟨⟨v,hv⟩,e1,rfl⟩:=h1;obtain⟨⟨u,hu⟩,e2,rfl⟩:=h2;simp only at e1 e2;rw[Ua al]at e2;have fin:∀{h3:List Q0},nH call y ⟨t,h⟩=some (u,h3)->nH call x ⟨t,h3⟩=some (v,hu)->∃σ3,cS call y ⟨t,h⟩=some σ3/\ cS call x σ3=some ⟨put (put t x.dst v) y.dst u,hu⟩:=by intro h3 q1 q2;refine⟨⟨put t y.dst u,h3⟩,by rw[FJ,q1];rfl,?_⟩;rw[FJ,Ua (OY al),q2,aa9 al];rfl
 rcases bE with(((((((((((hx|hy)|⟨hx,hy⟩)|⟨hx,hy⟩)|⟨hx,hy⟩)|⟨hx,hy⟩)|⟨hx,hy⟩)|hx)|hy)|ab)|ab)|ab)|ab;obtain⟨rfl,_⟩:=Im (h':=h) hx e1;exact fin e2 (Im hx e1).2;obtain⟨rfl,q⟩:=Im (h':=h) hy e2;exact fin q e1;obtain⟨rfl,_⟩:=Pv hx (sA.refl _) e1;exact fin e2 (Pv hx (adw hy e2) e1).2;obtain⟨rfl,_⟩:=Ik hx (fS.refl _) e1;exact fin e2 (Ik hx (L5 hy e2) e1).2;obtain⟨rfl,q⟩:=Ik hy (L5 hx e1).symm e2;exact fin q e1;obtain rfl:=wb hx e1;refine fin e2 ?_;rcases Pu hy e2 with rfl|⟨o,cs,cs',ho,rfl⟩;exact e1;rw[Pt hx ho,e1];rfl;rcases Pu hx e1 with rfl|⟨o,cs,cs',ho,rfl⟩;obtain rfl:=wb hy e2;exact fin e2 e1;rw[Pt hy ho,Zl]at e2;obtain⟨⟨u',h3⟩,q1,q2⟩:=e2;obtain rfl:=wb hy q1;cases q2;exact fin q1 e1;obtain⟨rfl,_⟩:=Il (h':=h) hx e1;exact fin e2 (Il hx e1).2;obtain⟨rfl,q⟩:=Il (h':=h) hy e2;exact fin q e1;unfold abf at ab;split at ab;rename_i n m hx hy;have bJ:n=m:=by simpa using ab
 subst bJ;rcases Ii (call:=call) hx (t:=t) (h:=h)with p|p|p;rw[p]at e1;cases e1;rcases Ii (call:=call) hy (t:=t) (h:=h)with q|q|q;rw[q]at e2;cases e2;exact fin (q h) (p _);rw[q]at e2;cases e2;exact fin (q h) (p _);rw[q]at e2;cases e2;rw[p]at e1;cases e1;exact fin e2 (p _);rw[p]at e1;cases e1;cases ab;unfold ac9 at ab;split at ab;rename_i i zero z b p q hx hy;rcases sY hx e1 with⟨hi,rfl,rfl,a7⟩|⟨rfl,a7⟩;obtain⟨a1,a2⟩:=Ps (call:=call) hy (t:=t) (cs:=zero) hi;rw[a1,Zl]at e2;obtain⟨⟨u',h3⟩,q1,q2⟩:=e2;cases q2;exact fin q1 (a7 _ (a2 _ q1));exact fin e2 (a7 _);rename_i z b p q i zero hx hy;rcases sY hy e2 with⟨hi,rfl,rfl,a7⟩|⟨rfl,a7⟩;have aC:h[i]? =some .res:=KN hx e1 hi;obtain⟨a1,a2⟩:=Ps (call:=call) hx (t:=t) (cs:=zero) aC;exact fin (a7 _ aC) (by rw[a1,e1];rfl);exact fin (a7 _) e1;rename_i i zero f xz hx hy;rcases sY hx e1 with⟨hi,rfl,rfl,a7⟩|⟨rfl,a7⟩;obtain⟨a1,a2⟩:=L3 (call:=call) hy (t:=t) (cs:=zero) hi;rw[a1,Zl]at e2;obtain⟨⟨u',h3⟩,q1,q2⟩:=e2;cases q2;exact fin q1 (a7 _ (a2 _ q1));exact fin e2 (a7 _);rename_i f xz i zero hx hy;rcases sY hy e2 with⟨hi,rfl,rfl,a7⟩|⟨rfl,a7⟩;have aC:h[i]? =some .res:=Ij hx e1 hi;obtain⟨a1,a2⟩:=L3 (call:=call) hx (t:=t) (cs:=zero) aC;exact fin (a7 _ aC) (by rw[a1,e1];rfl);exact fin (a7 _) e1;cases ab;unfold aeE at ab;split at ab;rename_i g n a r m t' w hx hy;obtain rfl:=(M6 hx hy ab e2).1 e1;exact fin e2 (by rw[(M6 hx hy ab e2).2,e1];rfl);rename_i m t' w g n a r hx hy;rw[(M6 hy hx ab e1).2,Zl]at e2;obtain⟨⟨u',h3⟩,q1,q2⟩:=e2;obtain rfl:=(M6 hy hx ab e1).1 q1;cases q2;exact fin q1 e1;cases ab;unfold aeJ at ab;split at ab;rename_i i j hx hy;have ae:i≠j:=by simpa using ab
 rcases L4 hx e1 with⟨ob,ob',g1,rfl,g2⟩|⟨rfl,g2⟩;rcases L4 hy e2 with⟨oc,cq,k1,rfl,k2⟩|⟨rfl,k2⟩;rw[Za ae]at k1;exact fin (k2 _ k1) (by rw[g2 _ (by rw[Za (Ne.symm ae)];exact g1),YX _ _ ae]);exact fin (k2 _) e1;exact fin e2 (g2 _);cases ab
inductive Anc (ops:Array Oper) (listed:Array Bool) (k:Nat):Nat->Prop
 |dir {i:Nat} {o:Oper} {e:Edge}:ops[i]? =some o->e∈o.after->Region.binds .any e=true->listed.getD e.on true=false->e.on=k->Anc ops listed k i
 |via {i:Nat} {o:Oper} {e:Edge}:ops[i]? =some o->e∈o.after->Region.binds .any e=true->listed.getD e.on true=false->Anc ops listed k e.on->Anc ops listed k i
def Bi {ops:Array Oper}{listed:Array Bool}{j:Nat}(hj:j∈Region.ready .any ops listed){o:Oper}{e:Edge}(ho:ops[j]? =some o)(he:e∈o.after)(hb:Region.binds .any e=true)(hu:listed.getD e.on true=false):False:=by obtain⟨_,o',ho',a7⟩:=mem_ready.1 hj;rw[ho]at ho';cases ho';have h1:=a7 e he hb;rcases Nat.lt_or_ge e.on listed.size with h'|h';simp[h']at hu h1;rw[hu]at h1;cases h1;simp[Yt h']at h1
def Bh {ops:Array Oper}{listed:Array Bool}{k j:Nat}(hj:j∈Region.ready .any ops listed)(h:Anc ops listed k j):False:=by
 cases h with
 |dir ho he hb hu _=>exact Bi hj ho he hb hu
 |via ho he hb hu _=>exact Bi hj ho he hb hu
def aac {ops:Array Oper}{listed:Array Bool}{k j:Nat}(hj:j∈Region.ready .any ops listed)(aN:j≠k){i:Nat}(h:Anc ops listed k i):Anc ops (listed.setIfInBounds j true) k i:=by
 induction h with
 |dir ho he hb hu hk=>exact .dir ho he hb (by rw[hk]at hu⊢;rw[getD_set_ne true aN];exact hu) hk
 |via ho he hb hu ha ih=>rename_i i o e;by_cases q:j=e.on;exact(Bh (q▸hj) ha).elim;exact .via ho he hb (by rw[getD_set_ne true q];exact hu) ih
def H0 {ops:Array Oper}{listed:Array Bool}{k:Nat}:∀(l:List Oper)(acc:Array Bool),(∀j,l[j]? =ops[acc.size+j]?)->(∀i,acc.getD i false=true->Anc ops listed k i)->∀i,(U9 listed k l acc).getD i false=true->Anc ops listed k i
 |[],acc,_,ha,i,h=>ha i h
 |o::l,acc,hl,ha,i,h=>by
  simp only[U9]at h;refine H0 l _ (fun j=> ?_) (fun i hi=> ?_) i h;have:=hl (j+1);simp only[Yp]at this;rw[this,Array.size_push];congr 1;omega;by_cases q:i<acc.size;refine ha i ?_;simp only[YZ]at hi⊢;rwa[Array.getElem?_push_lt q,<-Array.getElem?_eq_getElem q]at hi;by_cases q2:i=acc.size;subst q2;simp only[YZ,Array.getElem?_push_size,Ys,Array.any_eq_true]at hi;obtain⟨x,hx,hq⟩:=hi;simp only[Zg,ZB,YL,beq_iff_eq]at hq;obtain⟨⟨hb,hu⟩,hq⟩:=hq;have ho:ops[acc.size]? =some o:=by simpa using(hl 0).symm
  rcases hq with hk|hk;exact .dir ho (QV hx) hb (by simpa using hu) hk;exact .via ho (QV hx) hb (by simpa using hu) (ha _ (by simpa using hk));rw[YZ,Yt (by simp;omega)]at hi;simp at hi
def Gq (call:Nat->List V->Option V)(a6:List X2)(i:Nat)(Z:St):Option St:=
 match a6[i]? with
 |none=>some Z
 |some oo=>cS call oo Z
def DG (call:Nat->List V->Option V)(a6:List X2):List Nat->St->Option St
 |[],Z=>some Z
 |i::l,Z=>match Gq call a6 i Z with
  |some Z'=>DG call a6 l Z'
  |none=>none
def aaa (call:Nat->List V->Option V)(ops:Array Oper)(a6:List X2)(σ₁:St):Nat->Array Bool->St->Prop
 |0,listed,Z=>Region.ready .any ops listed=[]/\ Z=σ₁
 |fuel+1,listed,Z=>(Region.ready .any ops listed=[]->Z=σ₁)/\ ∀i∈Region.ready .any ops listed,∃Z',Gq call a6 i Z=some Z'/\ aaa call ops a6 σ₁ fuel (listed.setIfInBounds i true) Z'
def Sy {ops:Array Oper}{a6:List X2}{σ₁:St}:∀(fuel t:Nat)(listed:Array Bool)(Z:St),aaa call ops a6 σ₁ fuel listed Z->DG call a6 (Region.linearise.go .any ops fuel t listed []) Z=some σ₁:=by
 intro fuel;induction fuel with
 |zero=>intro t listed Z h;simpa[Region.linearise.go,DG]using h.2
 |succ fuel ih=>
  intro t listed Z h;obtain⟨h₀,h₁⟩:=h;simp only[Region.linearise.go];change DG call a6 (match(Region.ready .any ops listed)[t%(Region.ready .any ops listed).length]? with
   |some i=>Region.linearise.go .any ops fuel (t/(Region.ready .any ops listed).length) (listed.setIfInBounds i true) [i]
   |none=>[].reverse) Z=some σ₁
  cases hi:(Region.ready .any ops listed)[t%(Region.ready .any ops listed).length]? with
  |none=>
   have aZ:Region.ready .any ops listed=[]:=by
    cases hr:Region.ready .any ops listed with
    |nil=>rfl
    |cons x xs=>rw[hr]at hi;have hlt:t%(x::xs).length<(x::xs).length:=Qh _ (by simp);simp at hi;simp at hlt;omega
   simp[DG,h₀ aZ]
  |some i=>simp only[];rw[linearise_go_acc,List.reverse_singleton,List.singleton_append];obtain⟨Z',e1,e2⟩:=h₁ i (Zn hi);simp only[DG,e1];exact ih _ _ _ e2
def Sx {nb:Bool}{ops:Array Oper}{a6:List X2}{σ₁:St}(hlen:a6.length=ops.size){i:Nat}{oi:X2}(hi:a6[i]? =some oi):
 ∀(fuel:Nat)(listed:Array Bool)(Z Z':St),(∀j oj,a6[j]? =some oj->j≠i->listed.getD j true=false->¬Anc ops listed i j->Pm nb oi oj=true)->
  i∈Region.ready .any ops listed->cS call oi Z=some Z'->aaa call ops a6 σ₁ fuel (listed.setIfInBounds i true) Z'->aaa call ops a6 σ₁ (fuel+1) listed Z:=by
 have au:∀{Z Z':St},cS call oi Z=some Z'->Gq call a6 i Z=some Z':=fun{Z Z'}h=>by simp only[Gq,hi,h]
 intro fuel;induction fuel with
 |zero=>intro listed Z Z' _ hr hy H;refine⟨fun h=>(by rw[h]at hr;cases hr),fun j hj=> ?_⟩;by_cases aq:j=i;subst aq;exact⟨_,au hy,H⟩;have:=ready_mono (md:= .any) hj aq;rw[H.1]at this;cases this
 |succ fuel ih=>
  intro listed Z Z' av hr hy H;refine⟨fun h=>(by rw[h]at hr;cases hr),fun j hj=> ?_⟩;by_cases aq:j=i;subst aq;exact⟨_,au hy,H⟩;obtain⟨σj,e1,e2⟩:=H.2 j (ready_mono hj aq);obtain⟨aD,o,ho,a7⟩:=mem_ready.1 hj;have b2:j<a6.length:=by rw[hlen];exact(Yq.1 ho).1
  have b3:a6[j]? =some a6[j]:=by simp[b2]
  have hc:=av j _ b3 aq aD (fun h=>Bh hj h);simp only[Gq,b3]at e1;obtain⟨σ3,q1,q2⟩:=SN hc hy e1;refine⟨σ3,by simp only[Gq,b3,q1],?_⟩;refine ih (listed.setIfInBounds j true) σ3 σj (fun k ok hk bO aO ar=> ?_) (ready_mono hr (Ne.symm aq)) q2 ?_;refine av k ok hk bO ?_ (fun h=>ar (aac hj aq h));by_cases aN:j=k;subst aN;exact aD;rw[getD_set_ne true aN]at aO;exact aO;rw[Array.setIfInBounds_comm _ _ aq];exact e2
def VQ {nb:Bool}{ops:Array Oper}{a6:List X2}{listed:Array Bool}{k:Nat}{ok:X2}(hk:a6[k]? =some ok)(h:aaH nb ops a6 listed k=true):
 ∀j oj,a6[j]? =some oj->j≠k->listed.getD j true=false->¬Anc ops listed k j->Pm nb ok oj=true:=by
 intro j oj hj ae aO hw;have b2:j<a6.length:=(Zb.1 hj).1;simp only[aaH,Zu,QO]at h;have:=h j b2;have ha:(U9 listed k ops.toList #[]).getD j false=false:=by
  cases q:(U9 listed k ops.toList #[]).getD j false with
  |false=>rfl
  |true=>exact(hw (H0 ops.toList #[] (fun j=>by simp) (fun i hi=>by simp at hi) j q)).elim
 simp only[hk,hj,aO,ha,QX,YL,beq_iff_eq,ae,false_or]at this;exact this
def OV {nb:Bool}{ops:Array Oper}{a6:List X2}{σ₁:St}(hlen:a6.length=ops.size):∀(l:List X2)(k:Nat)(listed:Array Bool)(Z:St),(∀j,l[j]? =a6[k+j]?)->
 qR nb ops a6 l.length k listed=true->cj call l Z=some σ₁->aaa call ops a6 σ₁ l.length listed Z
 |[],_,_,_,_,hB,h=>⟨by simpa[qR]using hB,by simpa[cj]using h⟩
 |o::l,k,listed,Z,hl,hB,h=>by
  have h0:a6[k]? =some o:=by simpa using(hl 0).symm
  simp only[Zo,qR,Zg]at hB;obtain⟨⟨hr,hf⟩,bU⟩:=hB;unfold cj at h;split at h;rename_i Z' he;exact Sx hlen h0 l.length listed Z Z' (VQ h0 hf) (by simpa using hr) he
   (OV hlen l (k+1) _ _ (fun j=>by have:=hl (j+1);simpa[Nat.add_assoc,Nat.add_comm 1 j]using this) bU h)
  cases h
def zU (ok:QA Γ P kf call){ops:Array Oper}{d:Md}{a6:List X2}(hc:jX (A4 P kf d ops) ops.toList=some a6){Q:Exit->Act->World->Prop}:∀{l:List Nat}{Z Z':St}{a:Act}{w:World}{J:List (Option Nat)},SX Γ z O base w0 ρ0 h0 Z a w J->(z=true->∀oo∈a6,oo.op.bX=true)->
 DG call a6 l Z=some Z'->(∀a' w' J',SX Γ z O base w0 ρ0 h0 Z' a' w' J'->Q .normal a' w')->wpOps P ops Q l a w
 |[],Z,Z',a,w,J,s,hz,he,hQ=>by simp[DG]at he;subst he;exact hQ a w J s
 |i::l,Z,Z',a,w,J,s,hz,he,hQ=>by
  simp only[DG]at he;split at he;rename_i σ1 he1;rw[wpOps_cons];unfold wpOp;cases ho:ops[i]? with
  |none=>
   have:a6[i]? =none:=by
    have hl:=iC hc;have:¬i<ops.size:=by intro hlt;simp[hlt]at ho
    exact ZT (by rw[hl];simp;omega)
   simp only[Gq,this]at he1;cases he1;exact zU ok hc s hz he hQ
  |some o=>obtain⟨oo,hoo,bW⟩:=kX hc i o (by simpa using ho);simp only[Gq,hoo]at he1;have key:=Gr (Q:=Q) ok s (fun h=>hz h oo (Zn hoo)) bW he1 (K:=wpOps P ops Q l) (fun a' w' J' s'=>zU ok hc s' hz he hQ);simp only;split;rename_i hw;rw[if_pos hw]at key;exact .inl key;rename_i hw;rw[if_neg hw]at key;exact key
  cases he
def aav (s:SR Γ M0 base Z a w J):SR Γ M0 base Z a {w with drawn:=w.drawn+1} J:=by obtain⟨k1,c1⟩:=s.hr.world (w':={w with drawn:=w.drawn+1}) (Zi _) (fun _ _=>rfl);exact⟨k1,s.fr.ch c1,Γ.keep _ _ s.inv ⟨rfl,rfl,rfl,Zi _,fun _ _=>rfl⟩,s.b0⟩
def aaw (s:SX Γ z O base w0 ρ0 h0 Z a w J):SX Γ z O base w0 ρ0 h0 Z a {w with drawn:=w.drawn+1} J:=by obtain⟨M0,i1,i2,s1,b1,c1⟩:=s;obtain⟨_,c2⟩:=s1.hr.world (w':={w with drawn:=w.drawn+1}) (Zi _) (fun _ _=>rfl);exact⟨M0,i1,i2,aav s1,b1.trans ⟨rfl,rfl,rfl,Zi _,fun _ _=>rfl⟩,c1.trans c2⟩
def QE [KF](Γ:Ctx)(z:Bool)(O:Nat->Prop)(base:Nat)(w0:World)(ρ0:List (Option Nat))(h0:List Q0)(e:Ex)(Z':St)(Q:Exit->Act->World->Prop):Prop:=
 ∀a' w' J',SX Γ z O base w0 ρ0 h0 Z' a' w' J'->Q (match e with| .normal=> .normal| .exit id=> .exit id| .ret=> .ret) a' w'
def Bt (ok:QA Γ P kf call)(hm:P.follows .mixedOrders=true)(n:Nat){dt dp zn:Bool}{zl tr:List Nat}:∀(c:Code){ac:Q6}{Z Z':St}{e:Ex}{a:Act}{w:World}{J:List (Option Nat)}{Q:Exit->Act->World->Prop},vN P kf dt dp zn zl tr c=some ac->(z=true->ac.bX=true)->
 cD call (gZ n) ac Z=some (e,Z')->SX Γ z O base w0 ρ0 h0 Z a w J->QE Γ z O base w0 ρ0 h0 e Z' Q->c.wp P Q a w:=by
 intro c;induction c with
 |skip=>intro ac Z Z' e a w J Q hc hz he s hQ;cases hc;simp only[cD]at he;cases he;exact wp_skip (hQ a w J s)
 |region id ops draw=>
  intro ac Z Z' e a w J Q hc hz he s hQ;simp only[vN]at hc;split at hc;rename_i a6 aj;have ak:∀{a6:List X2}{σ2},cD call (gZ n) (.region a6) Z=some (e,σ2)->cj call a6 Z=some σ2/\ e= .normal:=by intro a6 σ2 h;simp only[cD]at h;split at h;rename_i σ3 h3;cases h;exact⟨h3,rfl⟩;cases h
  have aP:∀{nb:Bool}{md:Md}{a6:List X2},jX (A4 P kf md ops) ops.toList=some a6->qR nb ops a6 ops.size 0 (Array.replicate ops.size false)=true->∀{σ2},cj call a6 Z=some σ2->
   (z=true->(Q6.region a6).bX=true)->QE Γ z O base w0 ρ0 h0 .normal σ2 Q->(Code.region id ops true).wp P Q a w:=by
   intro nb md a6 aj ad σ2 hx hz hQ;have hlen:a6.length=ops.size:=by rw[iC aj];simp
   refine wp_region_draw fun t=> ?_;simp only[Region.schedule,hm,YI,if_true];have aE:=OV hlen a6 0 (Array.replicate ops.size false) Z (by simp) (by rw[hlen];exact ad) hx;rw[hlen]at aE;have hr:=Sy ops.size t _ Z aE;exact zU ok aj (aaw s) (fun h=>Zu.1 (hz h)) hr hQ
  split at hc;rename_i hd;subst hd;split at hc;rename_i ad;cases hc;obtain⟨hx,rfl⟩:=ak he;exact aP aj ad hx hz hQ;split at hc;rename_i aS c3 aF aG;split at hc;rename_i ad;cases hc;obtain⟨hx,rfl⟩:=ak he;exact aP aF ad hx hz hQ;split at hc;rename_i ad;cases hc;obtain⟨hx,rfl⟩:=ak he;exact aP aG ad hx hz hQ;split at hc;rename_i c4 aH;split at hc;rename_i ad;cases hc;obtain⟨hx,rfl⟩:=ak he;exact aP aH ad hx hz hQ;cases hc;cases hc;cases hc;rename_i hd;cases hc;obtain⟨hx,rfl⟩:=ak he;have:draw=false:=by simpa using hd
  subst this;exact wp_region_list (Mg ok s (fun h=>Zu.1 (hz h)) aj hx hQ);cases hc
 |seq x y aQ b4=>
  intro ac Z Z' e a w J Q hc hz he s hQ;simp only[vN]at hc;split at hc;rename_i ax ay hx hy;cases hc;simp only[cD]at he;refine wp_seq ?_;split at he;rename_i σ1 he1;exact aQ hx (fun h=>(Zg _ _▸hz h).1) he1 s (fun a' w' J' s'=>b4 hy (fun h=>(Zg _ _▸hz h).2) he s' hQ);rename_i ae;refine aQ hx (fun h=>(Zg _ _▸hz h).1) he s (fun a' w' J' s'=> ?_);cases e with
  |normal=>exact absurd he (ae Z')
  |exit id=>exact hQ a' w' J' s'
  |ret=>exact hQ a' w' J' s'
  cases hc
 |cond c x y aQ b4=>
  intro ac Z Z' e a w J Q hc hz he s hQ;simp only[vN]at hc;split at hc;rename_i oc ax ay h1 hx hy;cases hc;simp only[cD]at he;split at he;rename_i t ht;have hb:a.eval c= .bool t:=by obtain⟨M0,_,_,s1,_,_⟩:=s;exact(cQ s1 h1).bool ht
  refine wp_cond hb ?_;cases t with
  |true=>exact aQ hx (fun h=>(Zg _ _▸hz h).1) he s hQ
  |false=>exact b4 hy (fun h=>(Zg _ _▸hz h).2) he s hQ
  cases he;cases hc
 |block id c ih=>
  intro ac Z Z' e a w J Q hc hz he s hQ;simp only[vN,Zl]at hc;obtain⟨ax,hx,rfl⟩:=hc;simp only[cD]at he;refine wp_block ?_;split at he;rename_i i σ1 he1;refine ih hx hz he1 s (fun a' w' J' s'=> ?_);simp only[Exit.inBlock];split at he;rename_i e1;cases he;rw[if_pos e1];exact hQ a' w' J' s';rename_i e1;cases he;rw[if_neg e1];exact hQ a' w' J' s';rename_i ae;refine ih hx hz he s (fun a' w' J' s'=> ?_);cases e with
  |normal=>exact hQ a' w' J' s'
  |exit i=>exact absurd he (ae i Z')
  |ret=>exact hQ a' w' J' s'
 |loop c ih=>
  intro ac Z Z' e a w J Q hc hz he s hQ;simp only[vN,Zl]at hc;obtain⟨ax,hx,rfl⟩:=hc;simp only[cD]at he;refine wp_loop_ghost (fun k a1 w1=>∃σ1 ρ1,SX Γ z O base w0 ρ0 h0 σ1 a1 w1 ρ1/\ gZ k (cD call (gZ n) ax) σ1=some (e,Z')) n ⟨Z,J,s,he⟩ ?_;intro k a1 w1 ⟨σ1,ρ1,s1,he1⟩;cases k with
  |zero=>simp[gZ]at he1
  |succ k=>
   simp only[gZ]at he1;split at he1;rename_i σ2 c5;refine ih hx hz c5 s1 (fun a' w' J' s'=> ?_);exact⟨k,Nat.lt_succ_self k,σ2,J',s',he1⟩;rename_i ae;refine ih hx hz he1 s1 (fun a' w' J' s'=> ?_);cases e with
   |normal=>exact absurd he1 (ae Z')
   |exit id=>exact hQ a' w' J' s'
   |ret=>exact hQ a' w' J' s'
 |exit id=>intro ac Z Z' e a w J Q hc hz he s hQ;cases hc;simp only[cD]at he;cases he;exact wp_exit (hQ a w J s)
 |ret=>intro ac Z Z' e a w J Q hc hz he s hQ;cases hc;simp only[cD]at he;cases he;exact wp_ret (hQ a w J s)
 |_=>intro ac Z Z' e a w J Q hc;cases hc
structure QI [KI:KF] (Γ:Ctx) (P:Program) (kf:FuncId->Option Nat) (Φ:Nat->Option AFn) (ext:Nat->List V->Option V):Prop where
 prog:KI.pr=P
 mixed:P.follows .mixedOrders=true
 fns:∀f k,kf f=some k->(∃fn af,P.funcs[f]? =some fn/\ cFn P kf k fn=some af/\ Φ k=some af) \/
  (Φ k=none/\ (∃fn,P.funcs[f]? =some fn/\ fn.body.isNone=false/\ (fn.name== "runtime.NumGoroutine")=false)/\ ∀xz r,ext k xz=some r->Cs Γ P f xz r)
 small:∀f k,kf f=some k->k<iP/\ Φ (k+iP)=none/\ Φ (k+2*iP)=none
 ins:∀f k fn t e z b,kf f=some k->P.funcs[f]? =some fn->fn.origin= "slices.Insert" ->fn.params.toList.head? =some t->lJ P t=some e->vJ P e=some z->SH P e=some b->Cq P f z b
 del:∀f k fn t e z,kf f=some k->P.funcs[f]? =some fn->fn.origin= "slices.DeleteFunc" ->fn.params.toList.head? =some t->lJ P t=some e->vJ P e=some z->abU Γ P f z
def QI.there {Φ:Nat->Option AFn}{ext:Nat->List V->Option V}(im:QI Γ P kf Φ ext):∀f k,kf f=some k->∃fn,P.funcs[f]? =some fn/\ fn.body.isNone=false/\ (fn.name== "runtime.NumGoroutine")=false:=by intro f k hk;rcases im.fns f k hk with⟨fn,af,h1,h2,h3⟩|⟨_,h,_⟩;refine⟨fn,h1,?_,?_⟩;rw[H8]at h2;split at h2;rename_i c hb;rw[hb];rfl;cases h2;rw[H8]at h2;split at h2;split at h2;split at h2;cases h2;rename_i hn;simpa using hn;cases h2;cases h2;exact h
def LR.weak {M M':Nat->Prop}{h:List Q0}(mu:∀b,M' b->M b){l:L}{v:Value}(r:LR M w J h l v):LR M' w J h l v:=
 r.ch (M':=M') ⟨⟨Zi _,fun b _ hm=>mu b hm,fun _ _ _=>rfl⟩,fun _ cur hr=>⟨cur,hr,rfl⟩,fun _ _ ob hr ho _=>⟨ob,hr,ho,wa.refl ob⟩,fun _ _ _ _ _ _ _ _ _ h=>h⟩
def VR.weak {M M':Nat->Prop}{h:List Q0}(mu:∀b,M' b->M b){x:V}{v:Value}(r:VR M w J h x v):VR M' w J h x v:=
 r.ch (M':=M') ⟨⟨Zi _,fun b _ hm=>mu b hm,fun _ _ _=>rfl⟩,fun _ cur hr=>⟨cur,hr,rfl⟩,fun _ _ ob hr ho _=>⟨ob,hr,ho,wa.refl ob⟩,fun _ _ _ _ _ _ _ _ _ h=>h⟩
def Az.less {M M':Nat->Prop}{b0:Nat}{r:V}{v:Value}(hM:∀b,M b->M' b)(rr:Az M' b0 w r v):Az M b0 w r v:=by obtain⟨ρr,k,vr⟩:=rr;have mu:∀b,Mu M ρr (thaw [] r).2 b->Mu M' ρr (thaw [] r).2 b:=fun b hm=>hm.elim (fun h=> .inl (hM b h)) .inr;obtain⟨κ,d,n⟩:=k.deep;have C:Ch (Mu M' ρr (thaw [] r).2) (Mu M ρr (thaw [] r).2) w w ρr ρr (thaw [] r).2 (thaw [] r).2:=⟨⟨Zi _,fun b _ hm=>mu b hm,fun _ _ _=>rfl⟩,fun _ cur hr=>⟨cur,hr,rfl⟩,fun _ _ ob hr ho _=>⟨ob,hr,ho,wa.refl ob⟩,fun _ _ _ _ _ _ _ _ _ h=>h⟩;refine⟨ρr,⟨⟨k.len,fun b hm=>k.old b (hM b hm),k.le,fun o ob q ho hq=>(k.objs o ob q ho hq).keep C (fun _ _ _=>rfl),k.apart⟩,κ,d,n.new,fun b o c X z es e ho=> ?_⟩,vr.weak mu⟩;exact(R5 r _ (Zn ho)).elim
def N8 {M0:Nat->Prop}{fn:AFn}{xz:List V}{a8:Array Value}(hG:Γ.G w)(hB:Γ.B0<=base)(k:HR M0 base w J ((gM [] xz).2.map Q0.zone))(hl:(gM [] xz).1.length=a8.size)(b5:xz.length=a8.size)
 (hv:∀(i:Nat)(x:V)(u:Value),(gM [] xz).1[i]? =some x->a8.toList[i]? =some u->VR (Mu M0 J ((gM [] xz).2.map Q0.zone)) w J ((gM [] xz).2.map Q0.zone) x u):
 SR Γ M0 base (ma fn xz) {tmps:=a8++Array.replicate (fn.ntmps-a8.size) undef,defers:=[]} w J:=by
 refine⟨k,⟨rfl,by simp[ma,hl,b5],fun i v u hx hu=> ?_⟩,hG,hB⟩;simp only[ma]at hx;by_cases hi:i<(gM [] xz).1.length;rw[Ze hi]at hx;rw[ZW (by omega)]at hu;exact hv i v u hx (by simpa using hu);rw[Zm (by omega)]at hx;rw[YM (by omega)]at hu;have e1:v= .b8 []:=by have:=(Zb.1 hx).2;simp at this;exact this.symm
 have e2:u=undef:=by have:=(Yq.1 hu).2;simp at this;exact this.symm
 rw[e1,e2];exact VR.undef
def Mq :∀(vs:List V)(h:List Q0),(gM h vs).1.length=vs.length
 |[],h=>rfl
 |v::vs,h=>by simp only[gM,Zo,Mq vs]
def Ge :∀{h:List Q0}{os:List (Bool×List L)},kD h=some os->∀ob∈h,∃z es,ob= .bB z es
 |[],os,e,ob,hm=>by cases hm
 |x::h,os,e,ob,hm=>by unfold kD at e;split at e;rename_i h2;cases h2;rename_i z es h' h2;cases h2;split at e;rename_i xs c6;rcases ZF.1 hm with rfl|hm;exact⟨z,es,rfl⟩;exact Ge c6 ob hm;cases e;cases e
def HR.first {h':List Q0}{J':List (Option Nat)}(k:HR M0 base w J' h'){m:Nat}{os:List (Bool×List L)}(ho:kD (h'.take m)=some os):HR M0 base w (J'.take m) (h'.take m):=by
 obtain⟨κ,d,n⟩:=k.deep;have get:∀{i:Nat}{x:Q0},(h'.take m)[i]? =some x->h'[i]? =some x:=fun{i x}e=>by rw[ZL]at e;split at e;exact e;cases e
 have ah:∀{i:Nat}{x:Option Nat},(J'.take m)[i]? =some x->J'[i]? =some x:=fun{i x}e=>by rw[ZL]at e;split at e;exact e;cases e
 refine⟨⟨by simp[k.len],fun b hm=>⟨(k.old b hm).1,fun i x hi hx hr=>(k.old b hm).2 i x (get hi) hx (ah hr)⟩,k.le,fun i x r hi hr=> ?_,fun i i' x x' b h1 h2 m1 m2 r1 r2=>k.apart i i' x x' b (get h1) (get h2) m1 m2 (ah r1) (ah r2)⟩,
  κ,⟨fun i x b hi hx hr=>d.root i x b (get hi) hx (ah hr),fun i x z es b hi hd hr=>d.tree i x z es b (get hi) hd (ah hr)⟩,n.new,fun b o c X z es e hi=>n.zone b o c X z es e (get hi)⟩
 obtain⟨z,es,rfl⟩:=Ge ho x (Zn hi);exact k.objs i _ r (get hi) (ah hr)
def Np {Z':St}{rs:List Z9}{r:V}(a5:dd Z' rs=some r):r.clean=true:=by unfold dd at a5;split at a5;cases a5;split at a5;rename_i xs _ _;have cl:∀{ys},ee Z'.h xs=some ys->(ys.all fun x=>x.2.all L.clean)=true:=fun h=>(xF xs _ [] h).1;split at a5;rename_i ls aI;cases a5;simpa[V.clean]using cl aI;rename_i l aI;cases a5;simpa[V.clean]using cl aI;rename_i ys _ _ aI;split at a5;cases a5;cases a5;simpa[V.clean]using cl aI;cases a5;cases a5
def Mr :∀(vs:List V)(h:List Q0),(∀ob∈h,ob≠ .res)->∀ob∈(gM h vs).2,ob≠ .res
 |[],h,k=>k
 |v::vs,h,k=>by simp only[gM];refine Mr vs _ fun ob m=> ?_;obtain⟨l,e,ha⟩:=R4 h v;rw[e]at m;rcases Ye.1 m with m|m;exact k ob m;have:=ha ob m;rintro rfl;exact this
def RZ (xz:List V)(ob:Q0)(h:ob∈(gM [] xz).2.map Q0.zone):ob≠ .res:=by obtain⟨x,hx,rfl⟩:=ZV.1 h;have:=Mr xz [] (by simp) x hx;cases x<;>simp_all[Q0.zone]
def N7 {M0:Nat->Prop}{h:List Q0}{fn:AFn}{xz:List V}{a8:Array Value}(hG:Γ.G w)(hB:Γ.B0<=base)(k:HR M0 base w J h)(hl:xz.length=a8.toList.length)
 (hv:∀(i:Nat)(x:V)(u:Value),xz[i]? =some x->a8.toList[i]? =some u->VR (Mu M0 J h) w J h x u):
 SR Γ M0 base (nZ fn xz h) {tmps:=a8++Array.replicate (fn.ntmps-a8.size) undef,defers:=[]} w J:=by
 have c8:xz.length=a8.size:=by simpa using hl
 refine⟨k,⟨rfl,by simp[nZ,c8],fun i v u hx hu=> ?_⟩,hG,hB⟩;simp only[nZ]at hx;by_cases hi:i<xz.length;rw[Ze hi]at hx;rw[ZW (by omega)]at hu;exact hv i v u hx (by simpa using hu);rw[Zm (by omega)]at hx;rw[YM (by omega)]at hu;have e1:v= .b8 []:=by have:=(Zb.1 hx).2;simp at this;exact this.symm
 have e2:u=undef:=by have:=(Yq.1 hu).2;simp at this;exact this.symm
 rw[e1,e2];exact VR.undef
def abd {Φ:Nat->Option AFn}{ext:Nat->List V->Option V}(im:QI Γ P kf Φ ext):∀(n:Nat),(∀(f k:Nat)(xz:List V)(r:V),kf f=some k->run Φ ext n k xz=some r->Cs Γ P f xz r)/\
 (∀(f k:Nat)(xz:List V)(r:V),kf f=some k->run Φ ext n (k+iP) xz=some r->D1 Γ P f xz r)/\
 ∀(f k:Nat)(xz:List V)(r:V),kf f=some k->run Φ ext n (k+2*iP) xz=some r->Sw Γ P f xz r:=by
 intro n;induction n with
 |zero=>exact⟨fun f k xz r _ h=>by simp[run]at h,fun f k xz r _ h=>by simp[run]at h,fun f k xz r _ h=>by simp[run]at h⟩
 |succ n ih=>
  have ok:QA Γ P kf (run Φ ext n):=⟨im.prog,im.there,fun f k xz r hk hr=>ih.1 f k xz r hk hr,fun f k xz r hk hr=>ih.2.1 f k xz r hk hr,fun f k xz r hk hr=>ih.2.2 f k xz r hk hr,im.ins,im.del⟩;refine⟨fun f k xz r hk h=> ?_,fun f k xz r hk h=> ?_,fun f k xz r hk h=> ?_⟩
  ·rcases im.fns f k hk with⟨fn,af,h1,h2,h3⟩|⟨h1,_,h2⟩;case inr=>
    simp only[run,h1]at h
    rw[if_neg (by have:=(im.small f k hk).1;omega)]at h
    exact h2 xz r h
   simp only[run,h3]at h;rw[H8]at h2;split at h2
   ·rename_i c hb;split at h2
    ·rename_i ac rs hc aJ;split at h2;cases h2
     ·cases h2;have key:∀{e:Ex}{Z':St},cD (run Φ ext n) (gZ n) ac (start ⟨fn.ntmps,rs,ac⟩ xz)=some (e,Z')->(e= .normal \/e= .ret)->dd Z' rs=some r->Cs Γ P f xz r:=by intro e Z' he aK a5;refine⟨Np a5,fun M0 w a8 hG hM ha=>calls_of_wp h1 hb ?_⟩;refine Bt (z:=false) (O:=M0) (w0:=w) (ρ0:=[]) (h0:=[]) ok im.mixed n c hc nofun he ⟨M0,fun _ h=>h,nofun,RI (fn:=⟨fn.ntmps,rs,ac⟩) hG hM ha,Below.refl _ _,Ch.refl _ _ _ _⟩ (fun a' w' J' s'=> ?_);obtain⟨az,i1,_,s1,aw,_⟩:=s';obtain⟨_,v,hv,b6⟩:=Db s1 aJ a5;have aL:=b6.less i1;rcases aK with rfl|rfl;exact bodyPost_end hv s1.fr.defers ⟨v,rfl,aw,aL⟩;exact bodyPost_ret hv s1.fr.defers ⟨v,rfl,aw,aL⟩
      unfold done at h;split at h;rename_i Z' he;exact key he (.inl rfl) h;rename_i Z' he;exact key he (.inr rfl) h;cases h
    cases h2
   cases h2
  ·obtain⟨_,hn,_⟩:=im.small f k hk;simp only[run,hn]at h;rw[if_pos (by omega),show k+iP-iP=k by omega]at h;rcases im.fns f k hk with⟨fn,af,h1,h2,h3⟩|⟨h1,_,h2⟩;case inr=>
    simp only[h1]at h
    rw[if_neg (by have:=(im.small f k hk).1;omega)]at h
    cases h
   simp only[h3]at h;split at h;case isFalse=>cases h
   rename_i b7;rw[H8]at h2;split at h2
   ·rename_i c hb;split at h2
    ·rename_i ac rs hc aJ;split at h2;cases h2
     ·cases h2;have key:∀{e:Ex}{Z':St},cD (run Φ ext n) (gZ n) ac (ma ⟨fn.ntmps,rs,ac⟩ xz)=some (e,Z')->(e= .normal \/e= .ret)->Lm (gM [] xz).2.length ⟨fn.ntmps,rs,ac⟩ Z'=some r->D1 Γ P f xz r:=by
       intro e Z' he aK a5;unfold Lm at a5;split at a5
       ·rename_i l os hf ho;split at a5
        ·rename_i aA;cases a5;refine⟨l,os,rfl,aA,fun M0 base w J a8 hG hB k0 hl hv=>calls_of_wp h1 hb ?_⟩;have b5:xz.length=a8.size:=by rw[<-hl,Mq]
         refine Bt (z:=true) (O:=M0) (w0:=w) (ρ0:=J) (h0:=(gM [] xz).2.map Q0.zone) ok im.mixed n c hc (fun _=>b7) he ⟨M0,fun _ h=>h,fun _=>rfl,N8 (fn:=⟨fn.ntmps,rs,ac⟩) hG hB k0 hl b5 hv,Below.refl _ _,Ch.refl _ _ _ _⟩ (fun a' w' J' s'=> ?_);obtain⟨az,i1,i2,s1,aw,c1⟩:=s';have e0:az=M0:=i2 rfl;rw[e0]at s1 c1;obtain⟨_,v,hv,b6⟩:=Db s1 aJ hf;have hm:J.length=(gM [] xz).2.length:=by rw[k0.len];simp
         have hρ:J'.take (gM [] xz).2.length=J:=by
          apply YK;intro i;rw[ZL];by_cases hi:i<(gM [] xz).2.length;rw[if_pos hi];have h5:J[i]? =some J[i]:=by simp[hm,hi]
          obtain⟨ob',h6,_⟩:=c1.obj i J[i] _ h5 (by rw[Zk (by simpa using hi)]) (RZ xz _ (Zf _));rw[h6,h5];rw[if_neg hi,ZT (by omega)]
         have k1:=s1.hr.first ho;rw[hρ]at k1;have bc:∀{i:Nat}{x:Q0},(Z'.h.take (gM [] xz).2.length)[i]? =some x->Z'.h[i]? =some x:=fun{i x}e=>by rw[ZL]at e;split at e;exact e;cases e
         have c2:Ch (Mu M0 J ((gM [] xz).2.map Q0.zone)) (Mu M0 J (Z'.h.take (gM [] xz).2.length)) w w' J J ((gM [] xz).2.map Q0.zone) (Z'.h.take (gM [] xz).2.length):=by
          refine⟨⟨c1.go.size,fun b c9 aB=>c1.go.cls b c9 ?_,c1.go.block⟩,c1.row,fun i q x hq hx ca=> ?_,c1.zar⟩;rcases aB with aB|⟨i,x,hi,hx,hr⟩;exact .inl aB;refine .inr ⟨i,x,bc hi,hx,?_⟩;have aR:i<J.length:=(Zb.1 hr).1;obtain⟨ob',h6,_⟩:=c1.obj i _ _ hr (Zk (by rw[k0.len]at aR;exact aR)) (RZ xz _ (Zf _));exact h6;obtain⟨ob',h5,h6,h7⟩:=c1.obj i q x hq hx ca;have aR:i<(gM [] xz).2.length:=by have:=(Zb.1 hx).1;simpa using this
          exact⟨ob',hq,by rw[ZL,if_pos aR];exact h6,h7⟩
         have bj:∀M J h,LR M w' J h l v:=fun M J h=>by
          have:=Dc (M':=M) (J:=J) (h:=h) (by simpa[V.flat]using aA) b6;have e:ft l=l:=by cases l<;>first|rfl|cases aA
          simpa[fb,e,VR]using this
         rcases aK with rfl|rfl;exact bodyPost_end hv s1.fr.defers ⟨v,_,rfl,aw,bj,ho,k1,c2⟩;exact bodyPost_ret hv s1.fr.defers ⟨v,_,rfl,aw,bj,ho,k1,c2⟩
        cases a5
       cases a5
      unfold A5 at h;split at h;rename_i Z' he;exact key he (.inl rfl) h;rename_i Z' he;exact key he (.inr rfl) h;cases h
    cases h2
   cases h2
  ·obtain⟨cr,cb,hn⟩:=im.small f k hk;simp only[run,hn]at h;rw[if_pos (by omega),show k+2*iP-iP=k+iP by omega]at h;simp only[cb]at h;rw[if_pos (by omega),show k+2*iP-2*iP=k by omega]at h;rcases im.fns f k hk with⟨fn,af,h1,h2,h3⟩|⟨h1,_,h2⟩;case inr=>simp only[h1]at h;cases h
   simp only[h3]at h;split at h;case h_2=>cases h
   rename_i ct hp bk e3 hh;cases e3;split at h;case isFalse=>cases h
   rename_i b7;rw[H8]at h2;split at h2
   ·rename_i c hb;split at h2
    ·rename_i ac rs hc aJ;split at h2;cases h2
     ·cases h2;have key:∀{e:Ex}{Z':St},cD (run Φ ext n) (gZ n) ac (nZ ⟨fn.ntmps,rs,ac⟩ bk hp)=some (e,Z')->(e= .normal \/e= .ret)->S3 ⟨fn.ntmps,rs,ac⟩ Z'=some r->Sw Γ P f xz r:=by
       intro e Z' he aK a5;unfold S3 at a5;split at a5;case h_2=>cases a5
       rename_i ls e0 aY cd;split at a5;case h_2=>cases a5
       rename_i ps cf;cases a5;refine⟨hp,bk,e0,ps,Z'.h,ls,hh,rfl,yQ cd,Af cf,fun M0 base w J a8 hG hB k0 hl hv=>calls_of_wp h1 hb ?_⟩;refine Bt (z:=true) (O:=M0) (w0:=w) (ρ0:=J) (h0:=hp) ok im.mixed n c hc (fun _=>b7) he ⟨M0,fun _ h=>h,fun _=>rfl,N7 (fn:=⟨fn.ntmps,rs,ac⟩) hG hB k0 hl hv,Below.refl _ _,Ch.refl _ _ _ _⟩ (fun a' w' J' s'=> ?_);obtain⟨az,i1,i2,s1,aw,c1⟩:=s';have cg:az=M0:=i2 rfl;rw[cg]at s1 c1;obtain⟨us,ck,cm,cn⟩:=x5 s1 aJ aY;obtain⟨u,rfl⟩:=ZN.1 (cm.trans rfl);have aM:(results fn a'.tmps).run P w'= .ok u w':=by rw[JV,QS];simp only[Sem.run_bind,Sem.run_map,ck,Result.andThen_ok,Sem.run_pure];simp
       have br:=cn 0 _ u rfl rfl;rcases aK with rfl|rfl;exact bodyPost_end aM s1.fr.defers ⟨u,J',rfl,aw,s1.hr,c1,br⟩;exact bodyPost_ret aM s1.fr.defers ⟨u,J',rfl,aw,s1.hr,c1,br⟩
      unfold Ih at h;split at h;rename_i Z' he;exact key he (.inl rfl) h;rename_i Z' he;exact key he (.inr rfl) h;cases h
    cases h2
   cases h2
def Wk {Φ:Nat->Option AFn}{ext:Nat->List V->Option V}(im:QI Γ P kf Φ ext)(n:Nat)(f k:Nat)(xz:List V)(r:V):kf f=some k->run Φ ext n k xz=some r->Cs Γ P f xz r:=(abd im n).1 f k xz r
end
end Gi
