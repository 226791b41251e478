/- Of this proof. -/
import Derived.Test.YtpnolnkjijmfjaaGreatGip
import Derived.Deep.LoopGhost
set_option linter.all false
namespace Gi
open Go Go.RowKit
variable {KI:KF}
section
variable {Γ:Ctx}{P:Program}{M0:Nat->Prop}{base:Nat}{Z:St}{a:Act}{w:World}{J:List (Option Nat)}{call:Nat->List V->Option V}
def SX [KF](Γ:Ctx)(z:Bool)(O:Nat->Prop)(base:Nat)(w0:World)(ρ0:List (Option Nat))(h0:List Q0)(Z:St)(a:Act)(w:World)(J:List (Option Nat)):Prop:=
 ∃M0,(∀b,O b->M0 b)/\ (z=true->M0=O)/\ SR Γ M0 base Z a w J/\ Below base w0 w/\ Ch (Mu O ρ0 h0) (Mu M0 J Z.h) w0 w ρ0 J h0 Z.h
variable {z:Bool}{O:Nat->Prop}{w0:World}{ρ0:List (Option Nat)}{h0:List Q0}
def GM (ok:QA Γ P kf call)(s:SX Γ z O base w0 ρ0 h0 Z a w J){ops:Array Oper}{o:Oper}{d:Md}{oo:X2}{Z':St}{K:Act->World->Prop}{Q:Exit->Act->World->Prop}(hz:z=true->oo.op.bb=true)
 (hc:Bo P kf d ops o=some oo) (he:cT call oo Z=some Z') (hK:∀a' w' J',SX Γ z O base w0 ρ0 h0 Z' a' w' J'->K a' w'):
 if Region.wanted o (yielded ops a.tmps)then o.wp P a w K Q else K (a.put o.dst undef) w:=by obtain⟨M0,i1,i2,s1,b1,c1⟩:=s;exact Sc ok s1 hc he fun az a' w' J' g0 g1 g2 g3 g4=>hK a' w' J' ⟨az,fun b h=>g0 b (i1 b h),fun ba=>(g1 (hz ba)).trans (i2 ba),g2,b1.trans g3,c1.trans g4⟩
def MF (ok:QA Γ P kf call){ops:Array Oper}{d:Md}{Q:Exit->Act->World->Prop}:∀{l:List Oper}{a6:List X2}{Z Z':St}{a:Act}{w:World}{J:List (Option Nat)},SX Γ z O base w0 ρ0 h0 Z a w J->(z=true->∀oo∈a6,oo.op.bb=true)->
 j5 (Bo P kf d ops) l=some a6->cj call a6 Z=some Z'->(∀a' w' J',SX Γ z O base w0 ρ0 h0 Z' a' w' J'->Q .normal a' w')->wpList P ops Q l a w
 |[],a6,Z,Z',a,w,J,s,hz,hc,he,hQ=>by simp[j5]at hc;subst hc;simp[cj]at he;subst he;exact wpList_nil (hQ a w J s)
 |o::l,a6,Z,Z',a,w,J,s,hz,hc,he,hQ=>by unfold j5 at hc;split at hc;rename_i oo aS h1 h2;cases hc;unfold cj at he;split at he;rename_i σ1 he1;exact wpList_step fun K hK=>GM ok s (fun h=>hz h oo (by simp)) h1 he1 fun a' w' J' s'=>hK _ _ (MF ok s' (fun h o ho=>hz h o (by simp[ho])) h2 he hQ);cases he;cases hc
def Opd.cp {x:Opd}{t:List V}{h h':List Q0}{d:Nat}{v:V}(hd:d∉x.tmps):x.ev ⟨t.set d v,h⟩=x.ev ⟨t,h'⟩:=by
 cases x with
 |tmp n=>simp only[Opd.tmps,Qi]at hd;simp only[Opd.ev,List.getD];rw[Za hd]
 |_=>rfl
def Wj {Z Z':St}(hh:Z.h=Z'.h){ao:AOp}(hx:∀x∈ao.bx,x.ev Z=x.ev Z'):dY call Z ao=dY call Z' ao:=by
 cases ao with
 |build zero parts=>
  have:(parts.map fun x=>(x.1,x.2.1,x.2.2.ev Z))=(parts.map fun x=>(x.1,x.2.1,x.2.2.ev Z')):=by apply ZO;intro x aa;rw[hx x.2.2 (by simp only[AOp.bx];exact ZV.2 ⟨x,aa,rfl⟩)]
  simp only[dY,this]
 |call f xz fl fz=>have:xz.map (Opd.ev Z)=xz.map (Opd.ev Z'):=ZO (fun x aa=>hx x aa);simp only[dY,this,hh]
 |bp x xz=>have h1:=hx x (by simp[AOp.bx]);have:xz.map (Opd.ev Z)=xz.map (Opd.ev Z'):=ZO (fun y hy=>hx y (by simp[AOp.bx,hy]));simp only[dY,this,hh,h1]
 |c2 z x lo hi=>rfl
 |bc z parts=>have:parts.map (Opd.ev Z)=parts.map (Opd.ev Z'):=ZO (fun x aa=>hx x aa);simp only[dY,this]
 |c8 z x lo hi=>
  have h1:=hx x (by simp[AOp.bx]);have h2:∀d,eH Z d lo=eH Z' d lo:=by
   intro d;cases lo with
   |none=>rfl
   |some o=>simp only[eH,hx o (by simp[AOp.bx])]
  have h3:∀d,eH Z d hi=eH Z' d hi:=by
   intro d;cases hi with
   |none=>rfl
   |some o=>simp only[eH,hx o (by simp[AOp.bx])]
  simp only[dY,h1,h2,h3]
 |cE k cs=>rfl
 |bS k cs=>rfl
 |bf f xz=>have:xz.map (Opd.ev Z)=xz.map (Opd.ev Z'):=ZO (fun x aa=>hx x aa);simp only[dY,this,hh]
 |_=>simp_all[dY,AOp.bx]
def zf {Z Z':St}{d:Int}{x:Option Opd}(hx:∀y∈x.toList,y.ev Z=y.ev Z'):eH Z d x=eH Z' d x:=by
 cases x with
 |none=>rfl
 |some o=>simp only[eH,hx o (by simp)]
def V4 {Z Z':St}(hh:Z.h=Z'.h){ao:AOp}(hx:∀x∈ao.bx,x.ev Z=x.ev Z'):fa call Z ao=fa call Z' ao:=by
 cases ao with
 |bO z parts=>have:parts.map (Opd.ev Z)=parts.map (Opd.ev Z'):=ZO (fun x aa=>hx x aa);simp only[fa,this,hh]
 |call f xz fl fz=>have:xz.map (Opd.ev Z)=xz.map (Opd.ev Z'):=ZO (fun x aa=>hx x aa);cases fl<;>cases fz<;>first|rfl|simp only[fa,this,hh]
 |bS f xz=>have:xz.map (Opd.ev Z)=xz.map (Opd.ev Z'):=ZO (fun x aa=>hx x aa);simp only[fa,this,hh]
 |cE k cs=>have:cs.map (Opd.ev Z)=cs.map (Opd.ev Z'):=ZO (fun x aa=>hx x aa);simp only[fa,this,hh]
 |bP f xz=>have:xz.map (Opd.ev Z)=xz.map (Opd.ev Z'):=ZO (fun x aa=>hx x aa);simp only[fa,this,hh]
 |bt f xz=>have:xz.map (Opd.ev Z)=xz.map (Opd.ev Z'):=ZO (fun x aa=>hx x aa);simp only[fa,this,hh]
 |bg f xz=>have:xz.map (Opd.ev Z)=xz.map (Opd.ev Z'):=ZO (fun x aa=>hx x aa);simp only[fa,this,hh]
 |bZ z parts=>have:parts.map (Opd.ev Z)=parts.map (Opd.ev Z'):=ZO (fun x aa=>hx x aa);simp only[fa,this,hh]
 |c2 z x lo hi=>have h1:=hx x (by simp[AOp.bx]);have h2:∀d,eH Z d lo=eH Z' d lo:=fun d=>zf fun y hy=>hx y (by simp only[AOp.bx];exact Ym _ (List.mem_append_left _ hy));have h3:∀d,eH Z d hi=eH Z' d hi:=fun d=>zf fun y hy=>hx y (by simp only[AOp.bx];exact Ym _ (List.mem_append_right _ hy));simp only[fa,h1,h2,h3,hh]
 |_=>simp_all[fa,AOp.bx]
def nR (call:Nat->List V->Option V)(o:X2)(Z:St):Option (V×List Q0):=
 match dG Z o.guard with
 |some true=>match dY call Z o.op with
  |some v=>some (v,Z.h)
  |none=>fa call Z o.op
 |some false=>some (.b8 [],Z.h)
 |none=>none
def Ga (oo:X2)(Z:St):cT call oo Z=(nR call oo Z).map fun x=>⟨put Z.t oo.dst x.1,x.2⟩:=by
 unfold cT nR;cases hw:dG Z oo.guard with
 |none=>rfl
 |some b=>
  cases b with
  |false=>rfl
  |true=>
   simp only;cases hf:dY call Z oo.op with
   |some v=>rfl
   |none=>
    cases he:fa call Z oo.op with
    |none=>rfl
    |some x=>rfl
def Uz {x y:X2}(al:zc x y=true){t:List V}{h:List Q0}{v:V}:nR call y ⟨put t x.dst v,h⟩=nR call y ⟨t,h⟩:=by
 cases hd:x.dst with
 |none=>rfl
 |some d=>
  have ar:d∉y.reads:=by simp only[zc,hd,Zg,Zz]at al;have:=al.1.1;simpa using this
  have an:∀z∈y.op.bx,z.ev (⟨put t (some d) v,h⟩:St)=z.ev ⟨t,h⟩:=fun z hz=>Opd.cp (h':=h) (fun hm=>ar (List.mem_append_left _ (List.mem_flatMap.2 ⟨z,hz,hm⟩)));have hw:dG (⟨put t (some d) v,h⟩:St) y.guard=dG ⟨t,h⟩ y.guard:=by
   cases hg:y.guard with
   |none=>rfl
   |some gw=>obtain⟨g,b⟩:=gw;have ae:d≠g:=fun e=>ar (List.mem_append_right _ (by simp[hg,e]));simp only[dG,put,List.getD];rw[Za ae]
  unfold nR;rw[hw,Wj (Z:=⟨put t (some d) v,h⟩) (Z':=⟨t,h⟩) rfl an,V4 (Z:=⟨put t (some d) v,h⟩) (Z':=⟨t,h⟩) rfl an]
def yS {x:Opd}{t:List V}{h h':List Q0}:x.ev ⟨t,h⟩=x.ev ⟨t,h'⟩:=by cases x<;>rfl
def rp {g:Option (Nat×Bool)}{t:List V}{h h':List Q0}:dG ⟨t,h⟩ g=dG ⟨t,h'⟩ g:=by
 cases g with
 |none=>rfl
 |some gw=>rfl
def acu {t:List V}{h h':List Q0}{d:Int}{x:Option Opd}:eH ⟨t,h⟩ d x=eH ⟨t,h'⟩ d x:=zf fun y _=>yS
def IN {ao:AOp}(hc:ao.cls<=1):fa call Z ao=none:=by
 cases ao with
 |call f xz fl fz=>cases fl<;>cases fz<;>first|rfl|simp[AOp.cls]at hc
 |_=>first|rfl|simp[AOp.cls]at hc
def aa9 {ao:AOp}(hc:ao.cls=0){t:List V}{h h':List Q0}:dY call ⟨t,h⟩ ao=dY call ⟨t,h'⟩ ao:=by
 have e:∀x:Opd,x.ev ⟨t,h⟩=x.ev ⟨t,h'⟩:=fun x=>yS;have e2:∀d x,eH ⟨t,h⟩ d x=eH ⟨t,h'⟩ d x:=fun d x=>acu;have e3:Opd.ev ⟨t,h⟩=Opd.ev ⟨t,h'⟩:=funext e;cases ao with
 |bc z ps=>simp only[dY,e3]
 |call f xz fl fz=>cases fl<;>cases fz<;>simp[AOp.cls]at hc
 |_=>first|(simp[AOp.cls]at hc;done)|(simp only[dY,e,e2];done)|rfl
def tj (h h':List Q0):Prop:=∀(o:Nat)(ob:Q0),h[o]? =some ob->ob≠ .res->h'[o]? =some ob \/∃z es,ob.bu z es/\ h'[o]? =some (.bI z es)
def tj.refl (h:List Q0):tj h h:=fun _ _ e _=> .inl e
def tj.trans {a b c:List Q0}(h:tj a b)(k:tj b c):tj a c:=by intro o ob e hn;rcases h o ob e hn with e1|⟨z,es,hD,e1⟩;exact k o ob e1 hn;rcases k o _ e1 (by simp)with e2|⟨_,_,e3,_⟩;exact .inr ⟨z,es,hD,e2⟩;rcases e3 with e3|e3<;>cases e3
def tj.append (h l:List Q0):tj h (h++l):=fun o ob e _=> .inl (by rw[Ze (Zb.1 e).1];exact e)
def tj.freezeL (h:List Q0)(l:L):tj h (Gi.freezeL h l):=by
 cases l with
 |arr o=>simp only[Gi.freezeL];split;rename_i z es he;intro o' ob e _;by_cases q:o=o';subst q;rw[he]at e;cases e;exact .inr ⟨z,es, .inl rfl,by rw[Zd (Zb.1 he).1]⟩;exact .inl (by rw[Za q];exact e);rename_i z es he;intro o' ob e _;by_cases q:o=o';subst q;rw[he]at e;cases e;exact .inr ⟨z,es, .inr rfl,by rw[Zd (Zb.1 he).1]⟩;exact .inl (by rw[Za q];exact e);exact tj.refl h
 |_=>exact tj.refl h
def tj.freezeLs :∀(ls:List L)(h:List Q0),tj h (Gi.freezeLs h ls)
 |[],h=>tj.refl h
 |l::ls,h=>(tj.freezeL h l).trans (tj.freezeLs ls (Gi.freezeL h l))
def tj.freezeVs :∀(vs:List V)(h:List Q0),tj h (Gi.freezeVs h vs)
 |[],h=>tj.refl h
 |v::vs,h=>(tj.freezeLs v.cells h).trans (tj.freezeVs vs (Gi.freezeLs h v.cells))
def aea {ao:AOp}(hc:ao.cls=2){v:V}{h':List Q0}(he:fa call Z ao=some (v,h')):tj Z.h h':=by
 cases ao with
 |call f xz fl fz=>cases fl<;>cases fz<;>simp[AOp.cls]at hc
 |alloc zero=>simp only[fa]at he;cases he;exact tj.append _ _
 |bX n=>simp only[fa]at he;cases he;exact tj.append _ _
 |bd zero=>simp only[fa]at he;cases he;exact tj.append _ _
 |c5 n x=>simp only[fa]at he;split at he;cases he;exact tj.append _ _;cases he
 |bK i zero=>
  simp only[fa]at he;split at he;rename_i hi;cases he;intro o ob e hn;have q:i≠o:=by rintro rfl;rw[hi]at e;cases e;exact hn rfl
  exact .inl (by rw[Za q];exact e);cases he
 |box x=>simp only[fa]at he;split at he;cases he;exact tj.append _ _;cases he
 |bO z parts=>simp only[fa]at he;split at he;split at he;cases he;exact(tj.freezeVs _ _).trans (tj.append _ _);cases he;cases he
 |make b zero n=>simp only[fa]at he;split at he;split at he;cases he;exact tj.append _ _;cases he;cases he
 |c2 z x lo hi=>simp only[fa]at he;split at he;split at he;split at he;cases he;exact tj.freezeLs _ _;cases he;cases he;cases he
 |_=>simp[AOp.cls]at hc
def Pd {h h':List Q0}(k:tj h h'){l:L}{p:PV}(e:l.view h=some p):l.view h'=some p:=by
 cases l with
 |arr o=>simp only[L.view]at e⊢;split at e;rename_i z es he;rcases k o _ he (by simp)with e1|⟨z',es',e2,e1⟩;rw[e1];exact e;rcases e2 with e2|e2<;>cases e2;rw[e1];exact e;rename_i z es he;rcases k o _ he (by simp)with e1|⟨z',es',e2,e1⟩;rw[e1];exact e;rcases e2 with e2|e2<;>cases e2;rename_i z es he;rcases k o _ he (by simp)with e1|⟨z',es',e2,e1⟩;rw[e1];exact e;rcases e2 with e2|e2<;>cases e2;rw[e1];exact e;cases e
 |_=>exact e
def SP {h h':List Q0}(k:tj h h'):∀{ls:List L}{ps:List PV},viewL h ls=some ps->viewL h' ls=some ps
 |[],ps,e=>e
 |l::ls,ps,e=>by simp only[viewL]at e⊢;split at e;rename_i p qs e1 e2;rw[Pd k e1,SP k e2];exact e;cases e
def aaD {h h':List Q0}(k:tj h h'){v u:V}(e:v.view h=some u):v.view h'=some u:=by unfold V.view at e⊢;split at e;exact e;rename_i l ar;split at e;rename_i p e1;rw[Pd k e1];simp only;exact e;cases e;split at e;rename_i ps e1;rw[SP k e1];exact e;cases e;cases e
def ww {h h':List Q0}(k:tj h h'):∀{vs us:List V},cy h vs=some us->cy h' vs=some us
 |[],us,e=>e
 |v::vs,us,e=>by simp only[cy]at e⊢;split at e;rename_i p qs e1 e2;rw[aaD k e1,ww k e2];exact e;cases e
def Em {h h':List Q0}(k:tj h h'){v:V}{es:List (List PV)}(e:asList h v=some es):asList h' v=some es:=by unfold asList at e⊢;split at e;split at e;rename_i es' e1;simp only[Pd k e1];exact e;cases e;cases e
def U0 {h h':List Q0}(k:tj h h'){l:L}{p:PV}(e:l.view h=some p)(m:L.mut h l=false):L.mut h' l=false:=by
 cases l with
 |arr o=>simp only[L.view]at e;simp only[L.mut]at m⊢;split at e;rename_i z es he;rw[he]at m;simp at m;rename_i z es he;rcases k o _ he (by simp)with e1|⟨z',es',e2,e1⟩;rw[e1];rcases e2 with e2|e2<;>cases e2;rename_i z es he;rw[he]at m;simp at m;cases e
 |_=>rfl
def RB {h h':List Q0}(k:tj h h'):∀{ls:List L}{ps:List PV},viewL h ls=some ps->ls.any (L.mut h)=false->ls.any (L.mut h')=false
 |[],_,_,_=>rfl
 |l::ls,ps,e,m=>by simp only[viewL]at e;split at e;rename_i p qs e1 e2;simp only[Qd,ZR]at m⊢;exact⟨U0 k e1 m.1,RB k e2 m.2⟩;cases e
def acY {h h':List Q0}(k:tj h h'){v u:V}(e:v.view h=some u)(m:v.mut h=false):v.mut h'=false:=by unfold V.view at e;unfold V.mut at m⊢;split at e;rfl;rename_i l ar;split at e;rename_i p e1;simp only[V.cells,Qd,List.any_nil,QY]at m⊢;exact U0 k e1 m;cases e;split at e;rename_i ps e1;simp only[V.cells]at m⊢;exact RB k e1 m;cases e;cases e
def RE {h h':List Q0}(k:tj h h'):∀{vs us:List V},cy h vs=some us->vs.any (V.mut h)=false->vs.any (V.mut h')=false
 |[],_,_,_=>rfl
 |v::vs,us,e,m=>by simp only[cy]at e;split at e;rename_i p qs e1 e2;simp only[Qd,ZR]at m⊢;exact⟨acY k e1 m.1,RE k e2 m.2⟩;cases e
def xy {h h':List Q0}(k:tj h h'){g:Bool}{n:Nat}{a v:V}(e:dP h g n a=some v):dP h' g n a=some v:=by unfold dP at e⊢;split at e;rename_i o i j;split at e;rename_i cs he;rcases k o _ he (by simp)with e1|⟨z',es',e2,e1⟩;simp only[e1];exact e;rcases e2 with e2|e2<;>cases e2;rename_i z es he;rcases k o _ he (by simp)with e1|⟨z',es',e2,e1⟩;simp only[e1];exact e;rcases e2 with e2|e2<;>cases e2;simp only[e1];exact e;rename_i z es he;rcases k o _ he (by simp)with e1|⟨z',es',e2,e1⟩;simp only[e1];exact e;rcases e2 with e2|e2<;>cases e2;rename_i z es he;rcases k o _ he (by simp)with e1|⟨z',es',e2,e1⟩;simp only[e1];exact e;rcases e2 with e2|e2<;>cases e2;simp only[e1];exact e;rename_i ps he;rcases k o _ he (by simp)with e1|⟨z',es',e2,e1⟩;simp only[e1];exact e;rcases e2 with e2|e2<;>cases e2;cases e;exact e;cases e
def IJ {h h':List Q0}(k:tj h h'){z:Nat}{x v:V}{i:Nat}(e:cN h z x i=some v):cN h' z x i=some v:=by unfold cN at e⊢;split at e;rename_i o;split at e;rename_i z' es he;rcases k o _ he (by simp)with e1|⟨_,_,e2,e1⟩;simp only[e1];exact e;rcases e2 with e2|e2<;>cases e2;simp only[e1];exact e;rename_i z' es he;rcases k o _ he (by simp)with e1|⟨_,_,e2,e1⟩;simp only[e1];exact e;rcases e2 with e2|e2<;>cases e2;rename_i z' es he;rcases k o _ he (by simp)with e1|⟨_,_,e2,e1⟩;simp only[e1];exact e;rcases e2 with e2|e2<;>cases e2;simp only[e1];exact e;cases e;exact e;cases e
def tj.lent {h h':List Q0}(k:tj h h'):tj (Gi.lent h) (Gi.lent h'):=by intro o x e hn;obtain⟨ob,h1,rfl⟩:=rf e;rcases k o ob h1 (by rintro rfl;exact hn rfl)with e1|⟨z,es,hD,e1⟩;exact .inl (AG e1);refine .inr ⟨z,es,?_,AG e1⟩;rcases hD with rfl|rfl;exact .inl rfl;exact .inr rfl
def WC {h h':List Q0}(k:tj h h'){g:Bool}{n:Nat}{a v:V}(e:vB h g n a=some v):vB h' g n a=some v:=by
 unfold vB at e⊢;split at e;rename_i o i j;split at e;rename_i z es he;rcases k o _ he (by simp)with e1|⟨_,_,e2,e1⟩;simp only[e1];exact e;rcases e2 with e2|e2<;>cases e2;rename_i ar;have aT:∀z es,h'[o]? ≠some (.bC z es):=fun z es e1=>by
  have he:=e;unfold dP at he;simp only at he;cases h2:h[o]? with
  |none=>rw[h2]at he;cases he
  |some ob=>
   have hn:ob≠ .res:=by rintro rfl;rw[h2]at he;cases he
   rcases k o ob h2 hn with e3|⟨_,_,_,e3⟩;rw[e1]at e3;cases e3;exact ar z es h2;rw[e1]at e3;cases e3
 split;rename_i z es e1;exact absurd e1 (aT z es);exact xy k e;exact xy k e
def aa8 {ao:AOp}(hc:ao.cls=1){t:List V}{h h':List Q0}(k:tj h h'){v:V}(e:dY call ⟨t,h⟩ ao=some v):dY call ⟨t,h'⟩ ao=some v:=by
 have ev:∀x:Opd,x.ev ⟨t,h⟩=x.ev ⟨t,h'⟩:=fun x=>yS;have aU:Opd.ev ⟨t,h⟩=Opd.ev ⟨t,h'⟩:=funext ev;cases ao with
 |load g n a=>simp only[dY,ev]at e⊢;exact xy k e
 |c7 g n a=>
  simp only[dY,ev]at e⊢;split at e;rename_i hq;have aV:ep h' (a.ev ⟨t,h'⟩)=true:=by unfold ep at hq⊢;split at hq;rename_i o i j hv;split at hq;rename_i cs ho;rcases k o _ ho (by simp)with e1|⟨z',es',e2,e1⟩;rw[e1];rcases e2 with e2|e2<;>cases e2;rename_i cs ho;rcases k o _ ho (by simp)with e1|⟨z',es',e2,e1⟩;rw[e1];rcases e2 with e2|e2<;>cases e2;cases hq;rfl;cases hq
  rw[if_pos aV];exact xy k e;cases e
 |bj g n a r=>simp only[dY,ev]at e⊢;split at e;rename_i hq;rw[if_pos hq];exact xy k e;cases e
 |bs g n a=>
  simp only[dY,ev]at e⊢;split at e;cases e;rename_i hq;have aV:¬ep h' (a.ev ⟨t,h'⟩)=true:=by intro ag;unfold ep at hq ag;unfold dP at e;split at e;rename_i o i j hv;rw[hv]at hq ag;simp only at hq ag;split at e;rename_i cs ho;rw[ho]at hq;exact hq rfl;rename_i z es ho;rcases k o _ ho (by simp)with e1|⟨z',es',e2,e1⟩;rw[e1]at ag;cases ag;rw[e1]at ag;cases ag;rename_i z es ho;rcases k o _ ho (by simp)with e1|⟨z',es',e2,e1⟩;rw[e1]at ag;cases ag;rcases e2 with e2|e2<;>cases e2;rename_i z es ho;rcases k o _ ho (by simp)with e1|⟨z',es',e2,e1⟩;rw[e1]at ag;cases ag;rw[e1]at ag;cases ag;rename_i cs ho;rw[ho]at hq;exact hq rfl;cases e;rename_i e1 j hv;rw[hv]at hq;exact hq rfl;cases e
  rw[if_neg aV];exact xy k e
 |cS x=>simp only[dY,ev]at e⊢;split at e;rename_i es e1;rw[Em k e1];exact e;cases e
 |len x=>simp only[dY,ev]at e⊢;split at e;rename_i es e1;rw[Em k e1];exact e;cases e
 |bH z x i=>simp only[dY,ev]at e⊢;split at e;split at e;rename_i hn;simp only[if_pos hn];exact IJ k e;cases e;cases e
 |bp x xz=>simp only[dY,aU]at e⊢;split at e;split at e;rename_i us e1;simp only[ww k e1];exact e;cases e;cases e
 |call f xz fl fz=>
  simp only[dY,aU]at e⊢;split at e;rename_i aA;rw[if_pos aA];split at e;rename_i hm;split at e;rename_i us e1;have aB:(fl|| !((xz.map (Opd.ev ⟨t,h'⟩)).any (V.mut h')))=true:=by
   cases fl with
   |true=>rfl
   |false=>simp only[Bool.false_or,Zz]at hm⊢;exact RE k e1 hm
  rw[if_pos aB,ww k e1];exact e;cases e;cases e;cases e
 |c3 x=>simp only[dY,ev]at e⊢;split at e;rename_i es e1;rw[Em k.lent e1];exact e;cases e
 |bN z x i=>simp only[dY,ev]at e⊢;split at e;split at e;rename_i hn;simp only[if_pos hn];exact IJ k.lent e;cases e;cases e
 |bq g n a=>simp only[dY,ev]at e⊢;exact WC k e
 |bf f xz=>simp only[dY,aU]at e⊢;split at e;rename_i us e1;simp only[ww k.lent e1];exact e;cases e
 |_=>simp[AOp.cls]at hc
def abE {x y:X2}(al:zc x y=true)(t:List V)(v u:V):put (put t x.dst v) y.dst u=put (put t y.dst u) x.dst v:=by
 cases hd:x.dst with
 |none=>rfl
 |some d=>
  cases he:y.dst with
  |none=>rfl
  |some e=>
   have ae:d≠e:=by simp only[zc,hd,he,Zg,bne_iff_ne,ne_eq]at al;intro e';exact al.1.2 (by rw[e'])
   simp only[put];exact YX v u ae
def Pt {x y:X2}(h:zc x y=true):zc y x=true:=by unfold zc at*;cases hx:x.dst<;>cases hy:y.dst<;>simp_all;exact fun e=>h.1.2 e.symm
def II {x:X2}(hc:x.op.cls=0){t:List V}{h h1 h':List Q0}{v:V}(e:nR call x ⟨t,h⟩=some (v,h1)):h1=h/\ nR call x ⟨t,h'⟩=some (v,h'):=by unfold nR at e⊢;rw[rp (h:=h') (h':=h)];split at e;rw[aa9 (h:=h') (h':=h) hc];split at e;cases e;exact⟨rfl,rfl⟩;rw[IN (by omega)]at e;cases e;cases e;exact⟨rfl,rfl⟩;cases e
def PY {x:X2}(hc:x.op.cls=1){t:List V}{h h1 h':List Q0}(k:tj h h'){v:V}(e:nR call x ⟨t,h⟩=some (v,h1)):h1=h/\ nR call x ⟨t,h'⟩=some (v,h'):=by unfold nR at e⊢;rw[rp (h:=h') (h':=h)];split at e;split at e;rename_i hf;cases e;rw[aa8 hc k hf];exact⟨rfl,rfl⟩;rw[IN (by omega)]at e;cases e;cases e;exact⟨rfl,rfl⟩;cases e
def ad9 {x:X2}(hc:x.op.cls<=2){Z:St}{h':List Q0}{v:V}(e:nR call x Z=some (v,h')):tj Z.h h':=by unfold nR at e;split at e;split at e;cases e;exact tj.refl _;by_cases h2:x.op.cls=2;exact aea h2 e;rw[IN (by omega)]at e;cases e;cases e;exact tj.refl _;cases e
def xN :∀(ls:List L)(h:List Q0),∃l,(thawL h ls).2=h++l/\ tH l
 |[],h=>⟨[],by simp[thawL],fun ob ai=>by cases ai⟩
 |l::ls,h=>by
  have push:∀ob:Q0,ob.br->∃l,(thawL (h++[ob]) ls).2=h++l/\ tH l:=fun ob ho=>by
   obtain⟨l,e,ha⟩:=xN ls (h++[ob]);exact⟨ob::l,by rw[e];simp,fun x hx=>by
    rcases ZG.1 hx with rfl|hx
    ·exact ho
    ·exact ha x hx⟩
  cases l with
  |own z es=>exact push _ trivial
  |down z es=>exact push _ trivial
  |_=>exact xN ls h
def MP :∀(xs:List (Bool×List L))(h:List Q0),∃l,(thawT h xs).2=h++l/\ tH l
 |[],h=>⟨[],by simp[thawT],fun ob ai=>by cases ai⟩
 |(b,ls)::xs,h=>by obtain⟨l,e,ha⟩:=xN ls h;obtain⟨l',e',bo⟩:=MP xs (thawL h ls).2;refine⟨l++l',by simp only[thawT];rw[e',e,List.append_assoc],fun x hx=> ?_⟩;rcases Ye.1 hx with hx|hx;exact ha x hx;exact bo x hx
def Su (h:List Q0)(r:V):∃l,(thaw h r).2=h++l/\ tH l:=by
 cases r with
 |one l=>obtain⟨l',h',e'⟩:=mp h l;obtain⟨x,e,ha⟩:=xN [l] h;rw[e']at e;exact⟨x,by simp only[thaw,e'];exact e,ha⟩
 |agg ls=>exact xN ls h
 |b8 xs=>exact MP xs h
def fT (h h':List Q0):Prop:=∀(o:Nat)(ob:Q0),(match ob with| .box _=>True| .bM _=>True|_=>False)->(h[o]? =some ob↔h'[o]? =some ob)
def fT.refl (h:List Q0):fT h h:=fun _ _ _=>Iff.rfl
def fT.symm {h h':List Q0}(k:fT h h'):fT h' h:=fun o ob q=>(k o ob q).symm
def fT.trans {a b c:List Q0}(h:fT a b)(k:fT b c):fT a c:=fun o ob q=>(h o ob q).trans (k o ob q)
def fT.app {h l:List Q0}(ha:tH l):fT h (h++l):=fun o ob q=>by
 by_cases hlt:o<h.length;rw[Ze hlt]
 ·rw[ZT (by omega),Zm (by omega)];constructor;intro e;cases e
  ·intro e;have:=ha ob (Zn e);cases ob<;>first|exact this.elim|exact q.elim
def fT.push (h:List Q0){z:Nat}{es:List (List PV)}:fT h (h++[.arr z es]):=fun o ob q=>by rcases QV o h.length with hlt|rfl|cr;rw[Ze hlt];simp only[Zm (Zi _),YI,Yh,ZT (Zi _)];constructor;intro e;cases e;intro e;cases e;exact q.elim;rw[ZT (by omega),ZT (by simp;omega)]
def fT.cI {h:List Q0}{o z:Nat}{es:List (List PV)}{bh:Q0}(ho:h[o]? =some bh)(hD:bh.bu z es){ob':Q0}(hb:match ob' with| .box _=>False| .bM _=>False|_=>True):fT h (h.set o ob'):=fun i ob q=>by by_cases hi:o=i;subst hi;rw[Zd (Zb.1 ho).1,ho];constructor;intro e;cases e;rcases hD with rfl|rfl<;>exact q.elim;intro e;cases e;revert q hb;cases ob'<;>simp;rw[Za hi]
def fT.freezeL (h:List Q0)(l:L):fT h (Gi.freezeL h l):=by
 cases l with
 |arr o=>simp only[Gi.freezeL];split;rename_i z es he;exact fT.cI he (.inl rfl) trivial;rename_i z es he;exact fT.cI he (.inr rfl) trivial;exact fT.refl h
 |_=>exact fT.refl h
def fT.freezeLs :∀(ls:List L)(h:List Q0),fT h (Gi.freezeLs h ls)
 |[],h=>fT.refl h
 |l::ls,h=>(fT.freezeL h l).trans (fT.freezeLs ls (Gi.freezeL h l))
def fT.freezeVs :∀(vs:List V)(h:List Q0),fT h (Gi.freezeVs h vs)
 |[],h=>fT.refl h
 |v::vs,h=>(fT.freezeLs v.cells h).trans (fT.freezeVs vs (Gi.freezeLs h v.cells))
def V5 {Z:St}{ao:AOp}(hc:ao.cU=true){v:V}{h':List Q0}(he:fa call Z ao=some (v,h')):fT Z.h h':=by
 cases ao with
 |bO z parts=>simp only[fa]at he;split at he;split at he;cases he;exact(fT.freezeVs _ _).trans (fT.push _);cases he;cases he
 |make b zero n=>simp only[fa]at he;split at he;split at he;cases he;exact fT.push _;cases he;cases he
 |c2 z x lo hi=>simp only[fa]at he;split at he;split at he;split at he;cases he;exact fT.freezeLs _ _;cases he;cases he;cases he
 |append z b x y=>simp only[fa]at he;split at he;split at he;cases he;exact fT.push _;cases he;split at he;rename_i z' es ho;split at he;cases he;exact(fT.cI ho (.inl rfl) trivial).trans (fT.push _);cases he;cases he;cases he
 |bT b x y=>simp only[fa]at he;split at he;split at he;cases he;exact fT.push _;cases he;split at he;rename_i z' es ho;split at he;cases he;exact(fT.cI ho (.inl rfl) trivial).trans (fT.push _);cases he;cases he;cases he
 |bZ z parts=>simp only[fa]at he;split at he;split at he;cases he;exact(fT.freezeVs _ _).trans (fT.app fun ob ai=>by simp at ai;subst ai;trivial);cases he;cases he
 |bJ z b x y=>
  simp only[fa]at he;split at he;cases he;rename_i sc bw;split at he;cases he;split at he;cases he;refine(fT.freezeLs (y.ev Z).cells _).trans (fT.trans ?_ (fT.app fun ob ai=>by simp at ai;subst ai;trivial));rcases ML bw with⟨_,rfl⟩|⟨o,es,_,rfl,hd⟩;exact fT.refl _;have ai:∃ob,Z.h[o]? =some ob/\ ob.bu z es:=by unfold dg at hd;split at hd;rename_i z' es' ho;split at hd;cases hd;exact⟨_,ho, .inl rfl⟩;cases hd;rename_i z' es' ho;cases hd;exact⟨_,ho, .inr rfl⟩;cases hd
  obtain⟨ob,ho,hD⟩:=ai;rcases tj.freezeLs (y.ev Z).cells Z.h o ob ho (by rcases hD with rfl|rfl<;>simp)with e1|⟨z',es',_,e1⟩;exact fT.cI e1 hD trivial;simp only[cJ];intro i x q;by_cases hi:o=i;subst hi;rw[Zd (Zb.1 e1).1,e1];constructor;intro e;cases e;exact q.elim;intro e;cases e;exact q.elim;rw[Za hi];cases he
 |bP f xz=>
  have th:∀(h:List Q0)(r:V),fT h (thaw h r).2:=fun h r=>by obtain⟨l,e,ha⟩:=Su h r;rw[e];exact fT.app ha
  simp only[fa]at he;split at he;split at he;rename_i r _;have bz:=Option.some.inj he;have e2:=congrArg Prod.snd bz;simp only at e2;rw[<-e2];refine fT.trans ?_ (th _ _);split;exact fT.refl _;exact fT.freezeVs _ _;cases he;cases he
 |_=>simp[AOp.cU]at hc
def Mt {x:X2}(hc:x.op.cU=true){Z:St}{h':List Q0}{v:V}(e:nR call x Z=some (v,h')):fT Z.h h':=by unfold nR at e;split at e;split at e;cases e;exact fT.refl _;exact V5 hc e;cases e;exact fT.refl _;cases e
def Rv {h h':List Q0}(k:fT h h')(v:V):ep h v=ep h' v:=by
 cases v with
 |one l=>
  cases l with
  |ptr o i j=>
   simp only[ep];cases e1:h[o]? with
   |none=>
    cases e2:h'[o]? with
    |none=>rfl
    |some ob'=>
     cases ob' with
     |box cs=>rw[(k o _ trivial).2 e2]at e1;cases e1
     |bM cs=>rw[(k o _ trivial).2 e2]at e1;cases e1
     |_=>rfl
   |some ob=>
    cases ob with
    |box cs=>rw[(k o _ trivial).1 e1]
    |bM cs=>rw[(k o _ trivial).1 e1]
    |_=>
     cases e2:h'[o]? with
     |none=>rfl
     |some ob'=>
      cases ob' with
      |box cs=>rw[(k o _ trivial).2 e2]at e1;cases e1
      |bM cs=>rw[(k o _ trivial).2 e2]at e1;cases e1
      |_=>rfl
  |_=>rfl
 |_=>rfl
def WB {h h':List Q0}(k:fT h h'){g:Bool}{n:Nat}(v:V)(q:ep h v=true):dP h g n v=dP h' g n v:=by unfold ep at q;split at q;rename_i o i j;split at q;rename_i cs e1;simp only[dP,e1,(k o _ trivial).1 e1];rename_i cs e1;simp only[dP,e1,(k o _ trivial).1 e1];cases q;rfl;cases q
def abq {h h':List Q0}(k:fT h h'){g:Bool}{n:Nat}(v:V):(if ep h v then dP h g n v else none)=(if ep h' v then dP h' g n v else none):=by by_cases q:ep h v=true;rw[if_pos q,if_pos (by rw[<-Rv k];exact q),WB k v q];rw[if_neg q,if_neg (by rw[<-Rv k];exact q)]
def IG {x:X2}(hc:x.op.cc=true){t:List V}{h h1 h':List Q0}(k:fT h h'){v:V}(e:nR call x ⟨t,h⟩=some (v,h1)):h1=h/\ nR call x ⟨t,h'⟩=some (v,h'):=by
 unfold nR at e⊢;rw[rp (h:=h') (h':=h)];have hf:dY call ⟨t,h⟩ x.op=dY call ⟨t,h'⟩ x.op/\ ∀s,fa call s x.op=none:=by
  cases hx:x.op with
  |c7 g n a=>refine⟨?_,fun _=>rfl⟩;simp only[dY];rw[yS (h:=h) (h':=h')];exact abq k _
  |_=>rw[hx]at hc;cases hc
 split at e;rw[<-hf.1];split at e;cases e;exact⟨rfl,rfl⟩;rw[hf.2]at e;cases e;cases e;exact⟨rfl,rfl⟩;cases e
def TX {h h':List Q0}{n:Nat}{a v:V}(q:ep h a=true)(e:dK h n a v=some h'):∃o cs cs',h[o]? =some (.box cs)/\ h'=h.set o (.box cs'):=by simp only[dK]at e;split at e;split at e;rename_i o i j;split at e;rename_i cs ho;split at e;cases e;exact⟨o,cs,_,ho,rfl⟩;cases e;rename_i z es ho;simp[ep,ho]at q;cases e;cases e;cases e
def we {h:List Q0}{o:Nat}{cs cs':List L}(ho:h[o]? =some (.box cs))(i:Nat):(h.set o (.box cs'))[i]? =h[i]? \/(h[i]? =some (.box cs)/\ (h.set o (.box cs'))[i]? =some (.box cs')):=by by_cases e:o=i;subst e;exact .inr ⟨ho,Zd (Zb.1 ho).1⟩;exact .inl (Za e)
def Wv {h:List Q0}{o:Nat}{cs cs':List L}(ho:h[o]? =some (.box cs))(v:V):ep (h.set o (.box cs')) v=ep h v:=by
 cases v with
 |one l=>
  cases l with
  |ptr i a b=>simp only[ep];rcases we (cs':=cs') ho i with e|⟨e1,e2⟩;rw[e];rw[e1,e2]
  |_=>rfl
 |_=>rfl
def WA {h:List Q0}{o:Nat}{cs cs':List L}(ho:h[o]? =some (.box cs)){g:Bool}{n:Nat}(v:V):(if ep (h.set o (.box cs')) v then none else dP (h.set o (.box cs')) g n v)=(if ep h v then none else dP h g n v):=by
 rw[Wv ho];by_cases q:ep h v=true;rw[if_pos q,if_pos q];rw[if_neg q,if_neg q];cases v with
 |one l=>
  cases l with
  |ptr i a b=>simp only[dP];rcases we (cs':=cs') ho i with e|⟨e1,e2⟩;rw[e];simp[ep,e1]at q
  |_=>rfl
 |_=>rfl
def PZ {h:List Q0}{o:Nat}{cs cs':List L}(ho:h[o]? =some (.box cs)){z:Nat}(x:V)(i:Nat):cN (h.set o (.box cs')) z x i=cN h z x i:=by
 cases x with
 |one l=>
  cases l with
  |arr q=>simp only[cN];rcases we (cs':=cs') ho q with e|⟨e1,e2⟩;rw[e];rw[e1,e2]
  |pv p=>cases p<;>rfl
  |_=>rfl
 |_=>rfl
def S4 {h:List Q0}{o:Nat}{cs cs':List L}(ho:h[o]? =some (.box cs))(x:V):asList (h.set o (.box cs')) x=asList h x:=by
 cases x with
 |one l=>
  cases l with
  |arr q=>simp only[asList,L.view];rcases we (cs':=cs') ho q with e|⟨e1,e2⟩;rw[e];rw[e1,e2]
  |pv p=>cases p<;>rfl
  |_=>rfl
 |_=>rfl
def PW {nb:Bool}{x:X2}(hc:x.op.cZ nb=true){t:List V}{h:List Q0}{o:Nat}{cs cs':List L}(ho:h[o]? =some (.box cs)):nR call x ⟨t,h.set o (.box cs')⟩=(nR call x ⟨t,h⟩).map fun y=>(y.1,h.set o (.box cs')):=by
 have hf:dY call ⟨t,h.set o (.box cs')⟩ x.op=dY call ⟨t,h⟩ x.op/\ ∀s,fa call s x.op=none:=by
  cases hx:x.op with
  |bs g n a=>refine⟨?_,fun _=>rfl⟩;simp only[dY];rw[yS (h:=h.set o (.box cs')) (h':=h)];exact WA ho _
  |bH z a i=>refine⟨?_,fun _=>rfl⟩;simp only[dY];rw[yS (x:=a) (h:=h.set o (.box cs')) (h':=h),yS (x:=i) (h:=h.set o (.box cs')) (h':=h)];simp only[PZ ho]
  |len a=>refine⟨?_,fun _=>rfl⟩;simp only[dY];rw[yS (x:=a) (h:=h.set o (.box cs')) (h':=h),S4 ho]
  |_=>rw[hx]at hc;cases hc
 unfold nR;rw[rp (h:=h.set o (.box cs')) (h':=h)];cases dG ⟨t,h⟩ x.guard with
 |none=>rfl
 |some b=>
  cases b with
  |false=>rfl
  |true=>simp only;rw[hf.1,hf.2,hf.2];cases dY call ⟨t,h⟩ x.op<;>rfl
def wy {nb:Bool}{x:X2}(hc:x.op.cZ nb=true){t:List V}{h h1:List Q0}{v:V}(e:nR call x ⟨t,h⟩=some (v,h1)):h1=h:=by
 have he:∀s,fa call s x.op=none:=by
  cases hx:x.op with
  |bs g n a=>exact fun _=>rfl
  |bH z a i=>exact fun _=>rfl
  |len a=>exact fun _=>rfl
  |_=>rw[hx]at hc;cases hc
 unfold nR at e;split at e;split at e;cases e;rfl;rw[he]at e;cases e;cases e;rfl;cases e
def PX {x:X2}(hc:x.op.cd=true){t:List V}{h h1:List Q0}{v:V}(e:nR call x ⟨t,h⟩=some (v,h1)):h1=h \/∃o cs cs',h[o]? =some (.box cs)/\ h1=h.set o (.box cs'):=by
 cases hx:x.op with
 |bR n a y=>unfold nR at e;rw[hx]at e;split at e;split at e;rename_i hf;cases hf;simp only[fa]at e;split at e;rename_i hq;split at e;rename_i h2 hs;cases e;exact .inr (TX hq hs);cases e;cases e;cases e;exact .inl rfl;cases e
 |_=>rw[hx]at hc;cases hc
def IH {x:X2}(hc:x.op.cf=true){t:List V}{h h1 h':List Q0}{v:V}(e:nR call x ⟨t,h⟩=some (v,h1)):h1=h/\ nR call x ⟨t,h'⟩=some (v,h'):=by
 cases hx:x.op with
 |storeT n a y=>unfold nR at e⊢;rw[rp (h:=h') (h':=h)];rw[hx]at e⊢;split at e;split at e;rename_i hf;cases hf;simp only[fa]at e;simp only[dY,fa];rw[yS (x:=a) (h:=h') (h':=h),yS (x:=y) (h:=h') (h':=h)];split at e;rename_i m aW;split at e;rename_i hq;cases e;refine⟨rfl,?_⟩;simp only[aW,if_pos hq];cases e;cases e;cases e;exact⟨rfl,rfl⟩;cases e
 |_=>rw[hx]at hc;cases hc
def IE {x:X2}{n:Nat}(hx:x.op= .bX n){t:List V}{h:List Q0}:(∀h',nR call x ⟨t,h'⟩=some (.one (.tp n),h'++[.bU n])) \/(∀h',nR call x ⟨t,h'⟩=some (.b8 [],h')) \/(∀h',nR call x ⟨t,h'⟩=none):=by
 have hw:∀h',dG ⟨t,h'⟩ x.guard=dG ⟨t,h⟩ x.guard:=fun h'=>rp;cases q:dG ⟨t,h⟩ x.guard with
 |none=>exact .inr (.inr fun h'=>by unfold nR;rw[hw,q])
 |some b=>
  cases b with
  |true=>exact .inl fun h'=>by unfold nR;rw[hw,q,hx];rfl
  |false=>exact .inr (.inl fun h'=>by unfold nR;rw[hw,q])
def IA {h:List Q0}{i:Nat}{cs:List L}(hi:h[i]? =some .res)(o:Nat):dg (h.set i (.box cs)) o=dg h o:=by unfold dg;by_cases q:i=o;subst q;rw[Zd (Zb.1 hi).1,hi];rw[Za q]
def V2 {h:List Q0}{i o:Nat}{r:Nat×List (List PV)}(hi:h[i]? =some .res)(e:dg h o=some r):o≠i:=by rintro rfl;simp[dg,hi]at e
def abV {h:List Q0}{i z:Nat}{cs:List L}(hi:h[i]? =some .res)(v:V):gZ (h.set i (.box cs)) z v=gZ h z v:=by unfold gZ;split<;>simp only[IA hi]
def adq {h:List Q0}{i z:Nat}{cs:List L}(hi:h[i]? =some .res)(src:Option (Nat×List (List PV)))(v:V):nP (h.set i (.box cs)) z src v=nP h z src v:=by unfold nP;split<;>simp only[IA hi]
def Rl {h:List Q0}{i:Nat}{cs:List L}(hi:h[i]? =some .res)(l:L):freezeL (h.set i (.box cs)) l=(freezeL h l).set i (.box cs)/\ (freezeL h l)[i]? =some .res:=by
 have hlt:=(Zb.1 hi).1;cases l with
 |arr o=>by_cases q:i=o;subst q;simp only[freezeL,Zd hlt,hi];exact⟨trivial,trivial⟩;simp only[freezeL,Za q];split;exact⟨YX _ _ q,by rw[Za (fun e=>q e.symm)];exact hi⟩;exact⟨YX _ _ q,by rw[Za (fun e=>q e.symm)];exact hi⟩;exact⟨rfl,hi⟩
 |_=>exact⟨rfl,hi⟩
def yc {i:Nat}{cs:List L}:∀(ls:List L){h:List Q0},h[i]? =some .res->freezeLs (h.set i (.box cs)) ls=(freezeLs h ls).set i (.box cs)/\ (freezeLs h ls)[i]? =some .res
 |[],h,hi=>⟨rfl,hi⟩
 |l::ls,h,hi=>by obtain⟨e1,e2⟩:=Rl (cs:=cs) hi l;obtain⟨e3,e4⟩:=yc (cs:=cs) ls e2;simp only[freezeLs,YW]at e3 e4⊢;rw[e1];exact⟨e3,e4⟩
def Pv {h:List Q0}{i z b:Nat}{x y:Opd}{t:List V}{cs:List L}(hi:h[i]? =some .res):fa call ⟨t,h.set i (.box cs)⟩ (.bJ z b x y)=(fa call ⟨t,h⟩ (.bJ z b x y)).map (fun q=>(q.1,q.2.set i (.box cs)))/\
 ∀q,fa call ⟨t,h⟩ (.bJ z b x y)=some q->q.2[i]? =some .res:=by
 have hlt:=(Zb.1 hi).1;simp only[fa];rw[yS (x:=x) (h:=h.set i (.box cs)) (h':=h),yS (x:=y) (h:=h.set i (.box cs)) (h':=h),abV hi];cases hs:gZ h z (x.ev ⟨t,h⟩)with
 |none=>exact⟨rfl,fun q e=>by cases e⟩
 |some src=>
  simp only[adq hi];cases hy:nP h z src (y.ev ⟨t,h⟩)with
  |none=>exact⟨rfl,fun q e=>by cases e⟩
  |some ys=>
   simp only;obtain⟨f1,f2⟩:=yc (cs:=cs) (y.ev ⟨t,h⟩).cells hi;have aA:i<(freezeLs h (y.ev ⟨t,h⟩).cells).length:=(Zb.1 f2).1;have g1:cJ src ((freezeLs h (y.ev ⟨t,h⟩).cells).set i (.box cs))=(cJ src (freezeLs h (y.ev ⟨t,h⟩).cells)).set i (.box cs)/\ (cJ src (freezeLs h (y.ev ⟨t,h⟩).cells))[i]? =some .res:=by
    cases src with
    |none=>exact⟨rfl,f2⟩
    |some x0=>
     have ae:x0.1≠i:=by unfold gZ at hs;split at hs;cases hs;rename_i o _;split at hs;rename_i z' es hd;split at hs;cases hs;exact V2 hi hd;cases hs;cases hs;cases hs
     exact⟨YX _ _ fun e=>ae e.symm,by simp only[cJ];rw[Za ae];exact f2⟩
   have bk:i<(cJ src (freezeLs h (y.ev ⟨t,h⟩).cells)).length:=(Zb.1 g1.2).1;rw[f1,g1.1];split;refine⟨?_,fun q e=> ?_⟩;simp only[Qe,ZC];rw[Qx _ _ bk];cases e;simp only;rw[Ze bk];exact g1.2;exact⟨rfl,fun q e=>by cases e⟩
def PU {x:X2}{z b:Nat}{p q:Opd}(hx:x.op= .bJ z b p q){t:List V}{h:List Q0}{i:Nat}{cs:List L}(hi:h[i]? =some .res):nR call x ⟨t,h.set i (.box cs)⟩=(nR call x ⟨t,h⟩).map (fun y=>(y.1,y.2.set i (.box cs)))/\ ∀y,nR call x ⟨t,h⟩=some y->y.2[i]? =some .res:=by
 obtain⟨e1,e2⟩:=Pv (call:=call) (z:=z) (b:=b) (x:=p) (y:=q) (t:=t) (cs:=cs) hi;unfold nR;rw[rp (h:=h.set i (.box cs)) (h':=h),hx];cases dG ⟨t,h⟩ x.guard with
 |none=>exact⟨rfl,fun y e=>by cases e⟩
 |some w=>
  cases w with
  |true=>simp only[dY];exact⟨e1,e2⟩
  |false=>exact⟨rfl,fun y e=>by cases e;exact hi⟩
def NL {h:List Q0}{i:Nat}{l:L}(e:(freezeL h l)[i]? =some .res):h[i]? =some .res:=by
 cases l with
 |arr o=>simp only[freezeL]at e;by_cases q:o=i;subst q;split at e;rename_i ho;rw[Zd (Zb.1 ho).1]at e;cases e;rename_i ho;rw[Zd (Zb.1 ho).1]at e;cases e;exact e;split at e;rwa[Za q]at e;rwa[Za q]at e;exact e
 |_=>exact e
def wX {i:Nat}:∀(ls:List L){h:List Q0},(freezeLs h ls)[i]? =some .res->h[i]? =some .res
 |[],h,e=>e
 |l::ls,h,e=>NL (wX ls (h:=freezeL h l) e)
def Ld {x:X2}{z b:Nat}{p q:Opd}(hx:x.op= .bJ z b p q){t:List V}{h h1:List Q0}{v:V}{i:Nat}(e:nR call x ⟨t,h⟩=some (v,h1))(hi:h1[i]? =some .res):h[i]? =some .res:=by
 unfold nR at e;split at e;rw[hx]at e;simp only[dY,fa]at e;split at e;cases e;rename_i src hs;split at e;cases e;split at e;cases e;by_cases hl:i<(cJ src (freezeLs h (q.ev ⟨t,h⟩).cells)).length;rw[Ze hl]at hi;refine wX (q.ev ⟨t,h⟩).cells ?_;cases src with
 |none=>exact hi
 |some x0=>simp only[cJ]at hi hl⊢;by_cases hq:x0.1=i;rw[ZC]at hl;rw[hq,Zd hl]at hi;cases hi;rwa[Za hq]at hi
 rw[Zm (by omega)]at hi;cases hk:i-(cJ src (freezeLs h (q.ev ⟨t,h⟩).cells)).length with
 |zero=>rw[hk]at hi;simp at hi
 |succ n=>rw[hk]at hi;simp at hi
 cases e;cases e;exact hi;cases e
def SQ {h:List Q0}{i:Nat}{cs:List L}(hi:h[i]? =some .res)(l:L):l.view (h.set i (.box cs))=l.view h:=by
 cases l with
 |arr o=>by_cases q:i=o;subst q;simp only[L.view,Zd (Zb.1 hi).1,hi];simp only[L.view,Za q]
 |_=>rfl
def MW {h:List Q0}{i:Nat}{cs:List L}(hi:h[i]? =some .res):∀ls:List L,viewL (h.set i (.box cs)) ls=viewL h ls
 |[]=>rfl
 |l::ls=>by simp only[viewL,SQ hi,MW hi ls]
def aao {h:List Q0}{i:Nat}{cs:List L}(hi:h[i]? =some .res)(v:V):v.view (h.set i (.box cs))=v.view h:=by
 cases v with
 |one l=>cases l<;>simp only[V.view,SQ hi]
 |agg ls=>simp only[V.view,MW hi]
 |b8 vs=>rfl
def Ej {h:List Q0}{i:Nat}{cs:List L}(hi:h[i]? =some .res):∀vs:List V,cy (h.set i (.box cs)) vs=cy h vs
 |[]=>rfl
 |v::vs=>by simp only[cy,aao hi,Ej hi vs]
def Dv {i:Nat}{cs:List L}:∀(vs:List V){h:List Q0},h[i]? =some .res->freezeVs (h.set i (.box cs)) vs=(freezeVs h vs).set i (.box cs)/\ (freezeVs h vs)[i]? =some .res
 |[],h,hi=>⟨rfl,hi⟩
 |v::vs,h,hi=>by obtain⟨e1,e2⟩:=yc (cs:=cs) v.cells hi;obtain⟨e3,e4⟩:=Dv (cs:=cs) vs e2;simp only[freezeVs,YW]at e3 e4⊢;rw[e1];exact⟨e3,e4⟩
def xP {i:Nat}{ob:Q0}:∀(ls:List L){h:List Q0},i<h.length->thawL (h.set i ob) ls=((thawL h ls).1,(thawL h ls).2.set i ob)/\ (thawL h ls).2[i]? =h[i]? /\ i<(thawL h ls).2.length
 |[],h,hi=>⟨rfl,rfl,hi⟩
 |l::ls,h,hi=>by
  have key:∀x:Q0,thawL (h.set i ob++[x]) ls=((thawL (h++[x]) ls).1,(thawL (h++[x]) ls).2.set i ob)/\ (thawL (h++[x]) ls).2[i]? =h[i]? /\ i<(thawL (h++[x]) ls).2.length:=fun x=>by obtain⟨e1,e2,e3⟩:=xP (i:=i) (ob:=ob) ls (h:=h++[x]) (by simp;omega);rw[Qx _ _ hi]at e1;rw[Ze hi]at e2;exact⟨e1,e2,e3⟩
  cases l with
  |own z es=>obtain⟨e1,e2,e3⟩:=key (.arr z es);simp only[thawL];rw[e1];exact⟨by simp,e2,e3⟩
  |down z es=>obtain⟨e1,e2,e3⟩:=key (.bA z es);simp only[thawL];rw[e1];exact⟨by simp,e2,e3⟩
  |_=>obtain⟨e1,e2,e3⟩:=xP (ob:=ob) ls hi;simp only[thawL];rw[e1];exact⟨rfl,e2,e3⟩
def MU {i:Nat}{ob:Q0}:∀(vs:List (Bool×List L)){h:List Q0},i<h.length->thawT (h.set i ob) vs=((thawT h vs).1,(thawT h vs).2.set i ob)/\ (thawT h vs).2[i]? =h[i]? /\ i<(thawT h vs).2.length
 |[],h,hi=>⟨rfl,rfl,hi⟩
 |(b,ls)::vs,h,hi=>by obtain⟨e1,e2,e3⟩:=xP (ob:=ob) ls hi;obtain⟨f1,f2,f3⟩:=MU (ob:=ob) vs e3;simp only[thawT];rw[e1];simp only;rw[f1];exact⟨rfl,f2.trans e2,f3⟩
def Sx {i:Nat}{ob:Q0}{h:List Q0}(hi:i<h.length)(r:V):thaw (h.set i ob) r=((thaw h r).1,(thaw h r).2.set i ob)/\ (thaw h r).2[i]? =h[i]? :=by
 cases r with
 |one l=>
  obtain⟨e1,e2,e3⟩:=xP (ob:=ob) [l] hi;simp only[thaw];rw[e1];cases q:thawL h [l]with
  |mk a b=>
   rw[q]at e2;cases a with
   |nil=>exact⟨rfl,rfl⟩
   |cons x xs=>cases xs with
    |nil=>exact⟨rfl,e2⟩
    |cons _ _=>exact⟨rfl,rfl⟩
 |agg ls=>obtain⟨e1,e2,e3⟩:=xP (ob:=ob) ls hi;simp only[thaw];rw[e1];exact⟨rfl,e2⟩
 |b8 vs=>obtain⟨e1,e2,e3⟩:=MU (ob:=ob) vs hi;simp only[thaw];rw[e1];exact⟨rfl,e2⟩
def VO {h:List Q0}{i f:Nat}{xz:List Opd}{t:List V}{cs:List L}(hi:h[i]? =some .res):fa call ⟨t,h.set i (.box cs)⟩ (.bP f xz)=(fa call ⟨t,h⟩ (.bP f xz)).map (fun q=>(q.1,q.2.set i (.box cs)))/\
 ∀q,fa call ⟨t,h⟩ (.bP f xz)=some q->q.2[i]? =some .res:=by
 have hlt:=(Zb.1 hi).1;have aW:xz.map (Opd.ev ⟨t,h.set i (.box cs)⟩)=xz.map (Opd.ev ⟨t,h⟩):=ZO fun x _=>yS;simp only[fa];rw[aW,Ej hi];cases cy h (xz.map (Opd.ev ⟨t,h⟩))with
 |none=>exact⟨rfl,fun q e=>by cases e⟩
 |some vs=>
  simp only;cases call f vs with
  |none=>exact⟨rfl,fun q e=>by cases e⟩
  |some r=>
   simp only;cases r.closed with
   |true=>simp only[if_true];obtain⟨e1,e2⟩:=Sx (ob:= .box cs) hlt r;refine⟨by rw[e1];rfl,fun q e=> ?_⟩;cases e;exact e2.trans hi
   |false=>simp only[ZA,if_false];obtain⟨f1,f2⟩:=Dv (cs:=cs) (xz.map (Opd.ev ⟨t,h⟩)) hi;obtain⟨e1,e2⟩:=Sx (ob:= .box cs) (Zb.1 f2).1 r;refine⟨by rw[f1,e1];rfl,fun q e=> ?_⟩;cases e;exact e2.trans f2
def Mr {x:X2}{f:Nat}{xz:List Opd}(hx:x.op= .bP f xz){t:List V}{h:List Q0}{i:Nat}{cs:List L}(hi:h[i]? =some .res):nR call x ⟨t,h.set i (.box cs)⟩=(nR call x ⟨t,h⟩).map (fun y=>(y.1,y.2.set i (.box cs)))/\ ∀y,nR call x ⟨t,h⟩=some y->y.2[i]? =some .res:=by
 obtain⟨e1,e2⟩:=VO (call:=call) (f:=f) (xz:=xz) (t:=t) (cs:=cs) hi;unfold nR;rw[rp (h:=h.set i (.box cs)) (h':=h),hx];cases dG ⟨t,h⟩ x.guard with
 |none=>exact⟨rfl,fun y e=>by cases e⟩
 |some w=>
  cases w with
  |true=>simp only[dY];exact⟨e1,e2⟩
  |false=>exact⟨rfl,fun y e=>by cases e;exact hi⟩
def Bt {i:Nat}:∀(vs:List V){h:List Q0},(freezeVs h vs)[i]? =some .res->h[i]? =some .res
 |[],h,e=>e
 |v::vs,h,e=>wX v.cells (Bt vs (h:=freezeLs h v.cells) e)
def tg {i:Nat}:∀(ls:List L){h:List Q0},(thawL h ls).2[i]? =some .res->h[i]? =some .res
 |[],h,e=>e
 |l::ls,h,e=>by
  have key:∀x:Q0,x≠ .res->(h++[x])[i]? =some .res->h[i]? =some .res:=fun x hx q=>by
   by_cases hl:i<h.length;rwa[Ze hl]at q;rw[Zm (by omega)]at q;cases hk:i-h.length with
   |zero=>rw[hk]at q;simp at q;exact absurd q hx
   |succ n=>rw[hk]at q;simp at q
  cases l with
  |own z es=>exact key _ (by simp) (tg ls e)
  |down z es=>exact key _ (by simp) (tg ls e)
  |_=>exact tg ls e
def KR {i:Nat}:∀(vs:List (Bool×List L)){h:List Q0},(thawT h vs).2[i]? =some .res->h[i]? =some .res
 |[],h,e=>e
 |(b,ls)::vs,h,e=>tg ls (KR vs e)
def aac {i:Nat}{h:List Q0}{r:V}(e:(thaw h r).2[i]? =some .res):h[i]? =some .res:=by
 cases r with
 |one l=>simp only[thaw]at e;split at e;rename_i l' h' q;have:=tg [l] (h:=h) (i:=i);rw[q]at this;exact this e;exact e
 |agg ls=>exact tg ls e
 |b8 vs=>exact KR vs e
def IF {x:X2}{f:Nat}{xz:List Opd}(hx:x.op= .bP f xz){t:List V}{h h1:List Q0}{v:V}{i:Nat}(e:nR call x ⟨t,h⟩=some (v,h1))(hi:h1[i]? =some .res):h[i]? =some .res:=by
 unfold nR at e;split at e;rw[hx]at e;simp only[dY,fa]at e;split at e;split at e;rename_i r hr;simp only[Option.some.injEq]at e;have hq:(thaw (if r.closed=true then h else freezeVs h (xz.map (Opd.ev ⟨t,h⟩))) r).2[i]? =some .res:=by rw[e];exact hi
 have:=aac hq;split at this;exact this;exact Bt _ this;cases e;cases e;cases e;exact hi;cases e
def tq {x:X2}{i:Nat}{zero:List L}(hx:x.op= .bK i zero){t:List V}{h h1:List Q0}{v:V}(e:nR call x ⟨t,h⟩=some (v,h1)):
 (h[i]? =some .res/\ v= .one (.ptr i 0 0)/\ h1=h.set i (.box zero)/\ ∀h',h'[i]? =some .res->nR call x ⟨t,h'⟩=some (v,h'.set i (.box zero))) \/(h1=h/\ ∀h',nR call x ⟨t,h'⟩=some (v,h')):=by
 have hw:∀h',dG ⟨t,h'⟩ x.guard=dG ⟨t,h⟩ x.guard:=fun h'=>rp;cases q:dG ⟨t,h⟩ x.guard with
 |none=>unfold nR at e;rw[q]at e;cases e
 |some b=>
  cases b with
  |true=>unfold nR at e;rw[q,hx]at e;simp only[dY,fa]at e;split at e;rename_i hi;cases e;refine .inl ⟨hi,rfl,rfl,fun h' aX=> ?_⟩;unfold nR;rw[hw,q,hx];simp only[dY,fa,aX];cases e
  |false=>unfold nR at e;rw[q]at e;cases e;exact .inr ⟨rfl,fun h'=>by unfold nR;rw[hw,q]⟩
def W4 {h h':List Q0}{n:Nat}{x v:V}(q:ep h x=true)(e:dK h n x v=some h'):∃o i j cs cs',x= .one (.ptr o i j)/\ h[o]? =some (.box cs)/\ h'=h.set o (.box cs'):=by simp only[dK]at e;split at e;split at e;rename_i o i j;split at e;rename_i cs ho;split at e;cases e;exact⟨o,i,j,cs,_,rfl,ho,rfl⟩;cases e;rename_i z es ho;simp[ep,ho]at q;cases e;cases e;cases e
def Ns {x y:X2}{g:Bool}{n m r t':Nat}{a w:Opd}(hx:x.op= .bj g n a r)(hy:y.op= .bR m (.tmp t') w)(hr:lnR r t'=true){t:List V}{h h1:List Q0}{u:V}(e:nR call y ⟨t,h⟩=some (u,h1)):
 (∀{hh:List Q0}{v:V}{h2:List Q0},nR call x ⟨t,hh⟩=some (v,h2)->h2=hh)/\ nR call x ⟨t,h1⟩=(nR call x ⟨t,h⟩).map fun q=>(q.1,h1):=by
 have hs:∀{hh:List Q0}{v:V}{h2:List Q0},nR call x ⟨t,hh⟩=some (v,h2)->h2=hh:=by intro hh v h2 e;unfold nR at e;rw[hx]at e;split at e;split at e;cases e;rfl;cases e;cases e;rfl;cases e
 refine⟨hs,?_⟩;have key:dY call ⟨t,h1⟩ x.op=dY call ⟨t,h⟩ x.op:=by
  unfold nR at e;rw[hy]at e;split at e;split at e;rename_i hf;cases hf;simp only[fa]at e;split at e;rename_i hq;split at e;rename_i h2 bB;cases e;obtain⟨o,i,j,cs,cs',ho,hb,rfl⟩:=W4 hq bB;rw[hx];simp only[dY];rw[yS (x:=a) (h:=h.set o (.box cs')) (h':=h),yS (x:= .tmp (r%65536)) (h:=h.set o (.box cs')) (h':=h),yS (x:= .tmp (r/65536)) (h:=h.set o (.box cs')) (h':=h)];cases hv:a.ev ⟨t,h⟩with
  |one l=>
   cases l with
   |ptr i' b c=>
    by_cases q:i'=o;subst q;unfold lnR at hr;rw[YM,Zg,beq_iff_eq,beq_iff_eq]at hr;rcases hr with rfl|⟨aY,rfl⟩;rw[ho];simp[oU];rw[ho];have bD:(r/65536==0)=false:=by simpa using aY
    simp[oU,bD];have q2:(h.set o (Q0.box cs'))[i']? =h[i']? :=Za (Ne.symm q);simp only[dP,q2]
   |_=>rfl
  |_=>rfl
  cases e;cases e;cases e;rfl;cases e
 unfold nR;rw[rp (h:=h1) (h':=h)];cases dG ⟨t,h⟩ x.guard with
 |none=>rfl
 |some b=>
  cases b with
  |false=>rfl
  |true=>simp only;rw[key,hx];cases dY call ⟨t,h⟩ (.bj g n a r)<;>rfl
def Ms {x:X2}{i:Nat}(hx:x.op.place=some i){t:List V}{h h1:List Q0}{v:V}(e:nR call x ⟨t,h⟩=some (v,h1)):
 (∃ob ob',h[i]? =some ob/\ h1=h.set i ob'/\ ∀h',h'[i]? =some ob->nR call x ⟨t,h'⟩=some (v,h'.set i ob')) \/(h1=h/\ ∀h',nR call x ⟨t,h'⟩=some (v,h')):=by
 have hw:∀h',dG ⟨t,h'⟩ x.guard=dG ⟨t,h⟩ x.guard:=fun h'=>rp;cases an:x.op with
 |bK j zero=>rw[an]at hx;obtain rfl:j=i:=Option.some.inj hx;rcases tq an e with⟨hi,rfl,rfl,a7⟩|⟨rfl,a7⟩;exact .inl ⟨_,_,hi,rfl,a7⟩;exact .inr ⟨rfl,a7⟩
 |storeAt j n a y=>
  rw[an]at hx;obtain rfl:j=i:=Option.some.inj hx;cases q:dG ⟨t,h⟩ x.guard with
  |none=>unfold nR at e;rw[q]at e;cases e
  |some b=>
   cases b with
   |true=>unfold nR at e;rw[q,an]at e;simp only[dY,fa]at e;split at e;rename_i o k cs ha hi;split at e;rename_i hp;cases e;refine .inl ⟨_,_,hi,rfl,fun h' aX=> ?_⟩;unfold nR;rw[hw,q,an];simp only[dY,fa];rw[yS (x:=a) (h:=h') (h':=h),yS (x:=y) (h:=h') (h':=h),ha,aX];simp only[if_pos hp];cases e;cases e
   |false=>unfold nR at e;rw[q]at e;cases e;exact .inr ⟨rfl,fun h'=>by unfold nR;rw[hw,q]⟩
 |_=>rw[an]at hx;cases hx
def Te {nb:Bool}{x y:X2}(hc:PO nb x y=true){Z σ1 σ2:St}(h1:cT call x Z=some σ1)(h2:cT call y σ1=some σ2):∃σ3,cT call y Z=some σ3/\ cT call x σ3=some σ2:=by
 obtain⟨t,h⟩:=Z;simp only[PO,Zg,YM,beq_iff_eq,Nat.ble_eq]at hc;obtain⟨al,bE⟩:=hc;rw[Ga,Zl]at h1 h2;obtain⟨⟨v,hv⟩,e1,rfl⟩:=h1;obtain⟨⟨u,hu⟩,e2,rfl⟩:=h2;simp only at e1 e2;rw[Uz al]at e2;have fin:∀{h3:List Q0},nR call y ⟨t,h⟩=some (u,h3)->nR call x ⟨t,h3⟩=some (v,hu)->∃σ3,cT call y ⟨t,h⟩=some σ3/\ cT call x σ3=some ⟨put (put t x.dst v) y.dst u,hu⟩:=by intro h3 q1 q2;refine⟨⟨put t y.dst u,h3⟩,by rw[Ga,q1];rfl,?_⟩;rw[Ga,Uz (Pt al),q2,abE al];rfl
 rcases bE with(((((((((((hx|hy)|⟨hx,hy⟩)|⟨hx,hy⟩)|⟨hx,hy⟩)|⟨hx,hy⟩)|⟨hx,hy⟩)|hx)|hy)|ab)|ab)|ab)|ab;obtain⟨rfl,_⟩:=II (h':=h) hx e1;exact fin e2 (II hx e1).2;obtain⟨rfl,q⟩:=II (h':=h) hy e2;exact fin q e1;obtain⟨rfl,_⟩:=PY hx (tj.refl _) e1;exact fin e2 (PY hx (ad9 hy e2) e1).2;obtain⟨rfl,_⟩:=IG hx (fT.refl _) e1;exact fin e2 (IG hx (Mt hy e2) e1).2;obtain⟨rfl,q⟩:=IG hy (Mt hx e1).symm e2;exact fin q e1;obtain rfl:=wy hx e1;refine fin e2 ?_;rcases PX hy e2 with rfl|⟨o,cs,cs',ho,rfl⟩;exact e1;rw[PW hx ho,e1];rfl;rcases PX hx e1 with rfl|⟨o,cs,cs',ho,rfl⟩;obtain rfl:=wy hy e2;exact fin e2 e1;rw[PW hy ho,Zl]at e2;obtain⟨⟨u',h3⟩,q1,q2⟩:=e2;obtain rfl:=wy hy q1;cases q2;exact fin q1 e1;obtain⟨rfl,_⟩:=IH (h':=h) hx e1;exact fin e2 (IH hx e1).2;obtain⟨rfl,q⟩:=IH (h':=h) hy e2;exact fin q e1;unfold abK at ab;split at ab;rename_i n m hx hy;have bF:n=m:=by simpa using ab
 subst bF;rcases IE (call:=call) hx (t:=t) (h:=h)with p|p|p;rw[p]at e1;cases e1;rcases IE (call:=call) hy (t:=t) (h:=h)with q|q|q;rw[q]at e2;cases e2;exact fin (q h) (p _);rw[q]at e2;cases e2;exact fin (q h) (p _);rw[q]at e2;cases e2;rw[p]at e1;cases e1;exact fin e2 (p _);rw[p]at e1;cases e1;cases ab;unfold adM at ab;split at ab;rename_i i zero z b p q hx hy;rcases tq hx e1 with⟨hi,rfl,rfl,a7⟩|⟨rfl,a7⟩;obtain⟨a1,a2⟩:=PU (call:=call) hy (t:=t) (cs:=zero) hi;rw[a1,Zl]at e2;obtain⟨⟨u',h3⟩,q1,q2⟩:=e2;cases q2;exact fin q1 (a7 _ (a2 _ q1));exact fin e2 (a7 _);rename_i z b p q i zero hx hy;rcases tq hy e2 with⟨hi,rfl,rfl,a7⟩|⟨rfl,a7⟩;have aC:h[i]? =some .res:=Ld hx e1 hi;obtain⟨a1,a2⟩:=PU (call:=call) hx (t:=t) (cs:=zero) aC;exact fin (a7 _ aC) (by rw[a1,e1];rfl);exact fin (a7 _) e1;rename_i i zero f xz hx hy;rcases tq hx e1 with⟨hi,rfl,rfl,a7⟩|⟨rfl,a7⟩;obtain⟨a1,a2⟩:=Mr (call:=call) hy (t:=t) (cs:=zero) hi;rw[a1,Zl]at e2;obtain⟨⟨u',h3⟩,q1,q2⟩:=e2;cases q2;exact fin q1 (a7 _ (a2 _ q1));exact fin e2 (a7 _);rename_i f xz i zero hx hy;rcases tq hy e2 with⟨hi,rfl,rfl,a7⟩|⟨rfl,a7⟩;have aC:h[i]? =some .res:=IF hx e1 hi;obtain⟨a1,a2⟩:=Mr (call:=call) hx (t:=t) (cs:=zero) aC;exact fin (a7 _ aC) (by rw[a1,e1];rfl);exact fin (a7 _) e1;cases ab;unfold aff at ab;split at ab;rename_i g n a r m t' w hx hy;obtain rfl:=(Ns hx hy ab e2).1 e1;exact fin e2 (by rw[(Ns hx hy ab e2).2,e1];rfl);rename_i m t' w g n a r hx hy;rw[(Ns hy hx ab e1).2,Zl]at e2;obtain⟨⟨u',h3⟩,q1,q2⟩:=e2;obtain rfl:=(Ns hy hx ab e1).1 q1;cases q2;exact fin q1 e1;cases ab;unfold afk at ab;split at ab;rename_i i j hx hy;have ae:i≠j:=by simpa using ab
 rcases Ms hx e1 with⟨ob,ob',g1,rfl,g2⟩|⟨rfl,g2⟩;rcases Ms hy e2 with⟨oc,ct,k1,rfl,k2⟩|⟨rfl,k2⟩;rw[Za ae]at k1;exact fin (k2 _ k1) (by rw[g2 _ (by rw[Za (Ne.symm ae)];exact g1),YX _ _ ae]);exact fin (k2 _) e1;exact fin e2 (g2 _);cases ab
inductive Anc (ops:Array Oper) (listed:Array Bool) (k:Nat):Nat->Prop
 |dir {i:Nat} {o:Oper} {e:Edge}:ops[i]? =some o->e∈o.after->Region.binds .any e=true->listed.getD e.on true=false->e.on=k->Anc ops listed k i
 |via {i:Nat} {o:Oper} {e:Edge}:ops[i]? =some o->e∈o.after->Region.binds .any e=true->listed.getD e.on true=false->Anc ops listed k e.on->Anc ops listed k i
def BC {ops:Array Oper}{listed:Array Bool}{j:Nat}(hj:j∈Region.ready .any ops listed){o:Oper}{e:Edge}(ho:ops[j]? =some o)(he:e∈o.after)(hb:Region.binds .any e=true)(hu:listed.getD e.on true=false):False:=by obtain⟨_,o',ho',a7⟩:=mem_ready.1 hj;rw[ho]at ho';cases ho';have h1:=a7 e he hb;rcases Qp e.on listed.size with h'|h';simp[h']at hu h1;rw[hu]at h1;cases h1;simp[Yt h']at h1
def BB {ops:Array Oper}{listed:Array Bool}{k j:Nat}(hj:j∈Region.ready .any ops listed)(h:Anc ops listed k j):False:=by
 cases h with
 |dir ho he hb hu _=>exact BC hj ho he hb hu
 |via ho he hb hu _=>exact BC hj ho he hb hu
def aaG {ops:Array Oper}{listed:Array Bool}{k j:Nat}(hj:j∈Region.ready .any ops listed)(aN:j≠k){i:Nat}(h:Anc ops listed k i):Anc ops (listed.setIfInBounds j true) k i:=by
 induction h with
 |dir ho he hb hu hk=>exact .dir ho he hb (by rw[hk]at hu⊢;rw[getD_set_ne true aN];exact hu) hk
 |via ho he hb hu ha ih=>rename_i i o e;by_cases q:j=e.on;exact(BB (q▸hj) ha).elim;exact .via ho he hb (by rw[getD_set_ne true q];exact hu) ih
def Io {ops:Array Oper}{listed:Array Bool}{k:Nat}:∀(l:List Oper)(acc:Array Bool),(∀j,l[j]? =ops[acc.size+j]?)->(∀i,acc.getD i false=true->Anc ops listed k i)->∀i,(VC listed k l acc).getD i false=true->Anc ops listed k i
 |[],acc,_,ha,i,h=>ha i h
 |o::l,acc,hl,ha,i,h=>by
  simp only[VC]at h;refine Io l _ (fun j=> ?_) (fun i hi=> ?_) i h;have:=hl (j+1);simp only[Yp]at this;rw[this,Array.size_push];congr 1;omega;by_cases q:i<acc.size;refine ha i ?_;simp only[YZ]at hi⊢;rwa[Array.getElem?_push_lt q,<-Array.getElem?_eq_getElem q]at hi;by_cases q2:i=acc.size;subst q2;simp only[YZ,Array.getElem?_push_size,Ys,Array.any_eq_true]at hi;obtain⟨x,hx,hq⟩:=hi;simp only[Zg,Zz,YM,beq_iff_eq]at hq;obtain⟨⟨hb,hu⟩,hq⟩:=hq;have ho:ops[acc.size]? =some o:=by simpa using(hl 0).symm
  rcases hq with hk|hk;exact .dir ho (QW hx) hb (by simpa using hu) hk;exact .via ho (QW hx) hb (by simpa using hu) (ha _ (by simpa using hk));rw[YZ,Yt (by simp;omega)]at hi;simp at hi
def GL (call:Nat->List V->Option V)(a6:List X2)(i:Nat)(Z:St):Option St:=
 match a6[i]? with
 |none=>some Z
 |some oo=>cT call oo Z
def D0 (call:Nat->List V->Option V)(a6:List X2):List Nat->St->Option St
 |[],Z=>some Z
 |i::l,Z=>match GL call a6 i Z with
  |some Z'=>D0 call a6 l Z'
  |none=>none
def aaE (call:Nat->List V->Option V)(ops:Array Oper)(a6:List X2)(σ₁:St):Nat->Array Bool->St->Prop
 |0,listed,Z=>Region.ready .any ops listed=[]/\ Z=σ₁
 |fuel+1,listed,Z=>(Region.ready .any ops listed=[]->Z=σ₁)/\ ∀i∈Region.ready .any ops listed,∃Z',GL call a6 i Z=some Z'/\ aaE call ops a6 σ₁ fuel (listed.setIfInBounds i true) Z'
def S1 {ops:Array Oper}{a6:List X2}{σ₁:St}:∀(fuel t:Nat)(listed:Array Bool)(Z:St),aaE call ops a6 σ₁ fuel listed Z->D0 call a6 (Region.linearise.go .any ops fuel t listed []) Z=some σ₁:=by
 intro fuel;induction fuel with
 |zero=>intro t listed Z h;simpa[Region.linearise.go,D0]using h.2
 |succ fuel ih=>
  intro t listed Z h;obtain⟨h₀,h₁⟩:=h;simp only[Region.linearise.go];change D0 call a6 (match(Region.ready .any ops listed)[t%(Region.ready .any ops listed).length]? with
   |some i=>Region.linearise.go .any ops fuel (t/(Region.ready .any ops listed).length) (listed.setIfInBounds i true) [i]
   |none=>[].reverse) Z=some σ₁
  cases hi:(Region.ready .any ops listed)[t%(Region.ready .any ops listed).length]? with
  |none=>
   have aZ:Region.ready .any ops listed=[]:=by
    cases hr:Region.ready .any ops listed with
    |nil=>rfl
    |cons x xs=>rw[hr]at hi;have hlt:t%(x::xs).length<(x::xs).length:=Qh _ (by simp);simp at hi;simp at hlt;omega
   simp[D0,h₀ aZ]
  |some i=>simp only[];rw[linearise_go_acc,List.reverse_singleton,List.singleton_append];obtain⟨Z',e1,e2⟩:=h₁ i (Zn hi);simp only[D0,e1];exact ih _ _ _ e2
def S0 {nb:Bool}{ops:Array Oper}{a6:List X2}{σ₁:St}(hlen:a6.length=ops.size){i:Nat}{oi:X2}(hi:a6[i]? =some oi):
 ∀(fuel:Nat)(listed:Array Bool)(Z Z':St),(∀j oj,a6[j]? =some oj->j≠i->listed.getD j true=false->¬Anc ops listed i j->PO nb oi oj=true)->
  i∈Region.ready .any ops listed->cT call oi Z=some Z'->aaE call ops a6 σ₁ fuel (listed.setIfInBounds i true) Z'->aaE call ops a6 σ₁ (fuel+1) listed Z:=by
 have au:∀{Z Z':St},cT call oi Z=some Z'->GL call a6 i Z=some Z':=fun{Z Z'}h=>by simp only[GL,hi,h]
 intro fuel;induction fuel with
 |zero=>intro listed Z Z' _ hr hy H;refine⟨fun h=>(by rw[h]at hr;cases hr),fun j hj=> ?_⟩;by_cases aq:j=i;subst aq;exact⟨_,au hy,H⟩;have:=ready_mono (md:= .any) hj aq;rw[H.1]at this;cases this
 |succ fuel ih=>
  intro listed Z Z' av hr hy H;refine⟨fun h=>(by rw[h]at hr;cases hr),fun j hj=> ?_⟩;by_cases aq:j=i;subst aq;exact⟨_,au hy,H⟩;obtain⟨σj,e1,e2⟩:=H.2 j (ready_mono hj aq);obtain⟨aD,o,ho,a7⟩:=mem_ready.1 hj;have b2:j<a6.length:=by rw[hlen];exact(Yq.1 ho).1
  have b3:a6[j]? =some a6[j]:=by simp[b2]
  have hc:=av j _ b3 aq aD (fun h=>BB hj h);simp only[GL,b3]at e1;obtain⟨σ3,q1,q2⟩:=Te hc hy e1;refine⟨σ3,by simp only[GL,b3,q1],?_⟩;refine ih (listed.setIfInBounds j true) σ3 σj (fun k ok hk bG aO ar=> ?_) (ready_mono hr (Ne.symm aq)) q2 ?_;refine av k ok hk bG ?_ (fun h=>ar (aaG hj aq h));by_cases aN:j=k;subst aN;exact aD;rw[getD_set_ne true aN]at aO;exact aO;rw[Array.setIfInBounds_comm _ _ aq];exact e2
def Wl {nb:Bool}{ops:Array Oper}{a6:List X2}{listed:Array Bool}{k:Nat}{ok:X2}(hk:a6[k]? =some ok)(h:abb nb ops a6 listed k=true):
 ∀j oj,a6[j]? =some oj->j≠k->listed.getD j true=false->¬Anc ops listed k j->PO nb ok oj=true:=by
 intro j oj hj ae aO hw;have b2:j<a6.length:=(Zb.1 hj).1;simp only[abb,Zu,QP]at h;have:=h j b2;have ha:(VC listed k ops.toList #[]).getD j false=false:=by
  cases q:(VC listed k ops.toList #[]).getD j false with
  |false=>rfl
  |true=>exact(hw (Io ops.toList #[] (fun j=>by simp) (fun i hi=>by simp at hi) j q)).elim
 simp only[hk,hj,aO,ha,QY,YM,beq_iff_eq,ae,false_or]at this;exact this
def Pr {nb:Bool}{ops:Array Oper}{a6:List X2}{σ₁:St}(hlen:a6.length=ops.size):∀(l:List X2)(k:Nat)(listed:Array Bool)(Z:St),(∀j,l[j]? =a6[k+j]?)->
 rh nb ops a6 l.length k listed=true->cj call l Z=some σ₁->aaE call ops a6 σ₁ l.length listed Z
 |[],_,_,_,_,hB,h=>⟨by simpa[rh]using hB,by simpa[cj]using h⟩
 |o::l,k,listed,Z,hl,hB,h=>by
  have h0:a6[k]? =some o:=by simpa using(hl 0).symm
  simp only[Zo,rh,Zg]at hB;obtain⟨⟨hr,hf⟩,bL⟩:=hB;unfold cj at h;split at h;rename_i Z' he;exact S0 hlen h0 l.length listed Z Z' (Wl h0 hf) (by simpa using hr) he
   (Pr hlen l (k+1) _ _ (fun j=>by have:=hl (j+1);simpa[Nat.add_assoc,Nat.add_comm 1 j]using this) bL h)
  cases h
def An (ok:QA Γ P kf call){ops:Array Oper}{d:Md}{a6:List X2}(hc:j5 (Bo P kf d ops) ops.toList=some a6){Q:Exit->Act->World->Prop}:∀{l:List Nat}{Z Z':St}{a:Act}{w:World}{J:List (Option Nat)},SX Γ z O base w0 ρ0 h0 Z a w J->(z=true->∀oo∈a6,oo.op.bb=true)->
 D0 call a6 l Z=some Z'->(∀a' w' J',SX Γ z O base w0 ρ0 h0 Z' a' w' J'->Q .normal a' w')->wpOps P ops Q l a w
 |[],Z,Z',a,w,J,s,hz,he,hQ=>by simp[D0]at he;subst he;exact hQ a w J s
 |i::l,Z,Z',a,w,J,s,hz,he,hQ=>by
  simp only[D0]at he;split at he;rename_i σ1 he1;rw[wpOps_cons];unfold wpOp;cases ho:ops[i]? with
  |none=>
   have:a6[i]? =none:=by
    have hl:=iH hc;have:¬i<ops.size:=by intro hlt;simp[hlt]at ho
    exact ZT (by rw[hl];simp;omega)
   simp only[GL,this]at he1;cases he1;exact An ok hc s hz he hQ
  |some o=>obtain⟨oo,hoo,bQ⟩:=lf hc i o (by simpa using ho);simp only[GL,hoo]at he1;have key:=GM (Q:=Q) ok s (fun h=>hz h oo (Zn hoo)) bQ he1 (K:=wpOps P ops Q l) (fun a' w' J' s'=>An ok hc s' hz he hQ);simp only;split;rename_i hw;rw[if_pos hw]at key;exact .inl key;rename_i hw;rw[if_neg hw]at key;exact key
  cases he
def aaZ (s:SR Γ M0 base Z a w J):SR Γ M0 base Z a {w with drawn:=w.drawn+1} J:=by obtain⟨k1,c1⟩:=s.hr.world (w':={w with drawn:=w.drawn+1}) (Zi _) (fun _ _=>rfl);exact⟨k1,s.fr.ch c1,Γ.keep _ _ s.inv ⟨rfl,rfl,rfl,Zi _,fun _ _=>rfl⟩,s.b0⟩
def aa0 (s:SX Γ z O base w0 ρ0 h0 Z a w J):SX Γ z O base w0 ρ0 h0 Z a {w with drawn:=w.drawn+1} J:=by obtain⟨M0,i1,i2,s1,b1,c1⟩:=s;obtain⟨_,c2⟩:=s1.hr.world (w':={w with drawn:=w.drawn+1}) (Zi _) (fun _ _=>rfl);exact⟨M0,i1,i2,aaZ s1,b1.trans ⟨rfl,rfl,rfl,Zi _,fun _ _=>rfl⟩,c1.trans c2⟩
def QE [KF](Γ:Ctx)(z:Bool)(O:Nat->Prop)(base:Nat)(w0:World)(ρ0:List (Option Nat))(h0:List Q0)(e:Ex)(Z':St)(Q:Exit->Act->World->Prop):Prop:=
 ∀a' w' J',SX Γ z O base w0 ρ0 h0 Z' a' w' J'->Q (match e with| .normal=> .normal| .exit id=> .exit id| .ret=> .ret) a' w'
def BN (ok:QA Γ P kf call)(hm:P.follows .mixedOrders=true)(n:Nat){dt dp zn:Bool}{zl tr:List Nat}:∀(c:Code){ac:Q7}{Z Z':St}{e:Ex}{a:Act}{w:World}{J:List (Option Nat)}{Q:Exit->Act->World->Prop},wb P kf dt dp zn zl tr c=some ac->(z=true->ac.bb=true)->
 cD call (hZ n) ac Z=some (e,Z')->SX Γ z O base w0 ρ0 h0 Z a w J->QE Γ z O base w0 ρ0 h0 e Z' Q->c.wp P Q a w:=by
 intro c;induction c with
 |skip=>intro ac Z Z' e a w J Q hc hz he s hQ;cases hc;simp only[cD]at he;cases he;exact wp_skip (hQ a w J s)
 |region id ops draw=>
  intro ac Z Z' e a w J Q hc hz he s hQ;simp only[wb]at hc;split at hc;rename_i a6 aj;have ak:∀{a6:List X2}{σ2},cD call (hZ n) (.region a6) Z=some (e,σ2)->cj call a6 Z=some σ2/\ e= .normal:=by intro a6 σ2 h;simp only[cD]at h;split at h;rename_i σ3 h3;cases h;exact⟨h3,rfl⟩;cases h
  have aP:∀{nb:Bool}{md:Md}{a6:List X2},j5 (Bo P kf md ops) ops.toList=some a6->rh nb ops a6 ops.size 0 (Array.replicate ops.size false)=true->∀{σ2},cj call a6 Z=some σ2->
   (z=true->(Q7.region a6).bb=true)->QE Γ z O base w0 ρ0 h0 .normal σ2 Q->(Code.region id ops true).wp P Q a w:=by
   intro nb md a6 aj ad σ2 hx hz hQ;have hlen:a6.length=ops.size:=by rw[iH aj];simp
   refine wp_region_draw fun t=> ?_;simp only[Region.schedule,hm,YJ,if_true];have aE:=Pr hlen a6 0 (Array.replicate ops.size false) Z (by simp) (by rw[hlen];exact ad) hx;rw[hlen]at aE;have hr:=S1 ops.size t _ Z aE;exact An ok aj (aa0 s) (fun h=>Zu.1 (hz h)) hr hQ
  split at hc;rename_i hd;subst hd;split at hc;rename_i ad;cases hc;obtain⟨hx,rfl⟩:=ak he;exact aP aj ad hx hz hQ;split at hc;rename_i aS bV aF aG;split at hc;rename_i ad;cases hc;obtain⟨hx,rfl⟩:=ak he;exact aP aF ad hx hz hQ;split at hc;rename_i ad;cases hc;obtain⟨hx,rfl⟩:=ak he;exact aP aG ad hx hz hQ;split at hc;rename_i bW aH;split at hc;rename_i ad;cases hc;obtain⟨hx,rfl⟩:=ak he;exact aP aH ad hx hz hQ;cases hc;cases hc;cases hc;rename_i hd;cases hc;obtain⟨hx,rfl⟩:=ak he;have:draw=false:=by simpa using hd
  subst this;exact wp_region_list (MF ok s (fun h=>Zu.1 (hz h)) aj hx hQ);cases hc
 |seq x y aQ b4=>
  intro ac Z Z' e a w J Q hc hz he s hQ;simp only[wb]at hc;split at hc;rename_i ax ay hx hy;cases hc;simp only[cD]at he;refine wp_seq ?_;split at he;rename_i σ1 he1;exact aQ hx (fun h=>(Zg _ _▸hz h).1) he1 s (fun a' w' J' s'=>b4 hy (fun h=>(Zg _ _▸hz h).2) he s' hQ);rename_i ae;refine aQ hx (fun h=>(Zg _ _▸hz h).1) he s (fun a' w' J' s'=> ?_);cases e with
  |normal=>exact absurd he (ae Z')
  |exit id=>exact hQ a' w' J' s'
  |ret=>exact hQ a' w' J' s'
  cases hc
 |cond c x y aQ b4=>
  intro ac Z Z' e a w J Q hc hz he s hQ;simp only[wb]at hc;split at hc;rename_i oc ax ay h1 hx hy;cases hc;simp only[cD]at he;split at he;rename_i t ht;have hb:a.eval c= .bool t:=by obtain⟨M0,_,_,s1,_,_⟩:=s;exact(cR s1 h1).bool ht
  refine wp_cond hb ?_;cases t with
  |true=>exact aQ hx (fun h=>(Zg _ _▸hz h).1) he s hQ
  |false=>exact b4 hy (fun h=>(Zg _ _▸hz h).2) he s hQ
  cases he;cases hc
 |block id c ih=>
  intro ac Z Z' e a w J Q hc hz he s hQ;simp only[wb,Zl]at hc;obtain⟨ax,hx,rfl⟩:=hc;simp only[cD]at he;refine wp_block ?_;split at he;rename_i i σ1 he1;refine ih hx hz he1 s (fun a' w' J' s'=> ?_);simp only[Exit.inBlock];split at he;rename_i e1;cases he;rw[if_pos e1];exact hQ a' w' J' s';rename_i e1;cases he;rw[if_neg e1];exact hQ a' w' J' s';rename_i ae;refine ih hx hz he s (fun a' w' J' s'=> ?_);cases e with
  |normal=>exact hQ a' w' J' s'
  |exit i=>exact absurd he (ae i Z')
  |ret=>exact hQ a' w' J' s'
 |loop c ih=>
  intro ac Z Z' e a w J Q hc hz he s hQ;simp only[wb,Zl]at hc;obtain⟨ax,hx,rfl⟩:=hc;simp only[cD]at he;refine wp_loop_ghost (fun k a1 w1=>∃σ1 ρ1,SX Γ z O base w0 ρ0 h0 σ1 a1 w1 ρ1/\ hZ k (cD call (hZ n) ax) σ1=some (e,Z')) n ⟨Z,J,s,he⟩ ?_;intro k a1 w1 ⟨σ1,ρ1,s1,he1⟩;cases k with
  |zero=>simp[hZ]at he1
  |succ k=>
   simp only[hZ]at he1;split at he1;rename_i σ2 bY;refine ih hx hz bY s1 (fun a' w' J' s'=> ?_);exact⟨k,Nat.lt_succ_self k,σ2,J',s',he1⟩;rename_i ae;refine ih hx hz he1 s1 (fun a' w' J' s'=> ?_);cases e with
   |normal=>exact absurd he1 (ae Z')
   |exit id=>exact hQ a' w' J' s'
   |ret=>exact hQ a' w' J' s'
 |exit id=>intro ac Z Z' e a w J Q hc hz he s hQ;cases hc;simp only[cD]at he;cases he;exact wp_exit (hQ a w J s)
 |ret=>intro ac Z Z' e a w J Q hc hz he s hQ;cases hc;simp only[cD]at he;cases he;exact wp_ret (hQ a w J s)
 |_=>intro ac Z Z' e a w J Q hc;cases hc
structure QI [KI:KF] (Γ:Ctx) (P:Program) (kf:FuncId->Option Nat) (Φ:Nat->Option AFn) (ext:Nat->List V->Option V):Prop where
 prog:KI.pr=P
 mixed:P.follows .mixedOrders=true
 fns:∀f k,kf f=some k->(∃fn af,P.funcs[f]? =some fn/\ cFn P kf k fn=some af/\ Φ k=some af) \/
  (Φ k=none/\ (∃fn,P.funcs[f]? =some fn/\ fn.body.isNone=false/\ (fn.name== "runtime.NumGoroutine")=false)/\ ∀xz r,ext k xz=some r->CP Γ P f xz r)
 small:∀f k,kf f=some k->k<iT/\ Φ (k+iT)=none/\ Φ (k+2*iT)=none
 ins:∀f k fn t e z b,kf f=some k->P.funcs[f]? =some fn->fn.origin= "slices.Insert" ->fn.params.toList.head? =some t->lR P t=some e->vX P e=some z->S9 P e=some b->CN P f z b
 del:∀f k fn t e z,kf f=some k->P.funcs[f]? =some fn->fn.origin= "slices.DeleteFunc" ->fn.params.toList.head? =some t->lR P t=some e->vX P e=some z->acp Γ P f z
def QI.there {Φ:Nat->Option AFn}{ext:Nat->List V->Option V}(im:QI Γ P kf Φ ext):∀f k,kf f=some k->∃fn,P.funcs[f]? =some fn/\ fn.body.isNone=false/\ (fn.name== "runtime.NumGoroutine")=false:=by intro f k hk;rcases im.fns f k hk with⟨fn,af,h1,h2,h3⟩|⟨_,h,_⟩;refine⟨fn,h1,?_,?_⟩;rw[Iv]at h2;split at h2;rename_i c hb;rw[hb];rfl;cases h2;rw[Iv]at h2;split at h2;split at h2;split at h2;cases h2;rename_i hn;simpa using hn;cases h2;cases h2;exact h
def LR.weak {M M':Nat->Prop}{h:List Q0}(mu:∀b,M' b->M b){l:L}{v:Value}(r:LR M w J h l v):LR M' w J h l v:=
 r.ch (M':=M') ⟨⟨Zi _,fun b _ hm=>mu b hm,fun _ _ _=>rfl⟩,fun _ cur hr=>⟨cur,hr,rfl⟩,fun _ _ ob hr ho _=>⟨ob,hr,ho,wx.refl ob⟩,fun _ _ _ _ _ _ _ _ _ h=>h⟩
def VR.weak {M M':Nat->Prop}{h:List Q0}(mu:∀b,M' b->M b){x:V}{v:Value}(r:VR M w J h x v):VR M' w J h x v:=
 r.ch (M':=M') ⟨⟨Zi _,fun b _ hm=>mu b hm,fun _ _ _=>rfl⟩,fun _ cur hr=>⟨cur,hr,rfl⟩,fun _ _ ob hr ho _=>⟨ob,hr,ho,wx.refl ob⟩,fun _ _ _ _ _ _ _ _ _ h=>h⟩
def AU.less {M M':Nat->Prop}{b0:Nat}{r:V}{v:Value}(hM:∀b,M b->M' b)(rr:AU M' b0 w r v):AU M b0 w r v:=by obtain⟨ρr,k,vr⟩:=rr;have mu:∀b,Mu M ρr (thaw [] r).2 b->Mu M' ρr (thaw [] r).2 b:=fun b hm=>hm.elim (fun h=> .inl (hM b h)) .inr;obtain⟨κ,d,n⟩:=k.deep;have C:Ch (Mu M' ρr (thaw [] r).2) (Mu M ρr (thaw [] r).2) w w ρr ρr (thaw [] r).2 (thaw [] r).2:=⟨⟨Zi _,fun b _ hm=>mu b hm,fun _ _ _=>rfl⟩,fun _ cur hr=>⟨cur,hr,rfl⟩,fun _ _ ob hr ho _=>⟨ob,hr,ho,wx.refl ob⟩,fun _ _ _ _ _ _ _ _ _ h=>h⟩;refine⟨ρr,⟨⟨k.len,fun b hm=>k.old b (hM b hm),k.le,fun o ob q ho hq=>(k.objs o ob q ho hq).keep C (fun _ _ _=>rfl),k.apart⟩,κ,d,n.new,fun b o c X z es e ho=> ?_⟩,vr.weak mu⟩;exact(Sw r _ (Zn ho)).elim
def Oz {M0:Nat->Prop}{fn:AFn}{xz:List V}{a8:Array Value}(hG:Γ.G w)(hB:Γ.B0<=base)(k:HR M0 base w J ((gP [] xz).2.map Q0.zone))(hl:(gP [] xz).1.length=a8.size)(b5:xz.length=a8.size)
 (hv:∀(i:Nat)(x:V)(u:Value),(gP [] xz).1[i]? =some x->a8.toList[i]? =some u->VR (Mu M0 J ((gP [] xz).2.map Q0.zone)) w J ((gP [] xz).2.map Q0.zone) x u):
 SR Γ M0 base (ml fn xz) {tmps:=a8++Array.replicate (fn.ntmps-a8.size) undef,defers:=[]} w J:=by
 refine⟨k,⟨rfl,by simp[ml,hl,b5],fun i v u hx hu=> ?_⟩,hG,hB⟩;simp only[ml]at hx;by_cases hi:i<(gP [] xz).1.length;rw[Ze hi]at hx;rw[ZW (by omega)]at hu;exact hv i v u hx (by simpa using hu);rw[Zm (by omega)]at hx;rw[YN (by omega)]at hu;have e1:v= .b8 []:=by have:=(Zb.1 hx).2;simp at this;exact this.symm
 have e2:u=undef:=by have:=(Yq.1 hu).2;simp at this;exact this.symm
 rw[e1,e2];exact VR.undef
def MN :∀(vs:List V)(h:List Q0),(gP h vs).1.length=vs.length
 |[],h=>rfl
 |v::vs,h=>by simp only[gP,Zo,MN vs]
def GC :∀{h:List Q0}{os:List (Bool×List L)},kJ h=some os->∀ob∈h,∃z es,ob= .bC z es
 |[],os,e,ob,hm=>by cases hm
 |x::h,os,e,ob,hm=>by unfold kJ at e;split at e;rename_i h2;cases h2;rename_i z es h' h2;cases h2;split at e;rename_i xs c0;rcases ZG.1 hm with rfl|hm;exact⟨z,es,rfl⟩;exact GC c0 ob hm;cases e;cases e
def HR.first {h':List Q0}{J':List (Option Nat)}(k:HR M0 base w J' h'){m:Nat}{os:List (Bool×List L)}(ho:kJ (h'.take m)=some os):HR M0 base w (J'.take m) (h'.take m):=by
 obtain⟨κ,d,n⟩:=k.deep;have get:∀{i:Nat}{x:Q0},(h'.take m)[i]? =some x->h'[i]? =some x:=fun{i x}e=>by rw[ZL]at e;split at e;exact e;cases e
 have ah:∀{i:Nat}{x:Option Nat},(J'.take m)[i]? =some x->J'[i]? =some x:=fun{i x}e=>by rw[ZL]at e;split at e;exact e;cases e
 refine⟨⟨by simp[k.len],fun b hm=>⟨(k.old b hm).1,fun i x hi hx hr=>(k.old b hm).2 i x (get hi) hx (ah hr)⟩,k.le,fun i x r hi hr=> ?_,fun i i' x x' b h1 h2 m1 m2 r1 r2=>k.apart i i' x x' b (get h1) (get h2) m1 m2 (ah r1) (ah r2)⟩,
  κ,⟨fun i x b hi hx hr=>d.root i x b (get hi) hx (ah hr),fun i x z es b hi hd hr=>d.tree i x z es b (get hi) hd (ah hr)⟩,n.new,fun b o c X z es e hi=>n.zone b o c X z es e (get hi)⟩
 obtain⟨z,es,rfl⟩:=GC ho x (Zn hi);exact k.objs i _ r (get hi) (ah hr)
def NJ {Z':St}{rs:List Z9}{r:V}(a5:dd Z' rs=some r):r.clean=true:=by unfold dd at a5;split at a5;cases a5;split at a5;rename_i xs _ _;have cl:∀{ys},eh Z'.h xs=some ys->(ys.all fun x=>x.2.all L.clean)=true:=fun h=>(xX xs _ [] h).1;split at a5;rename_i ls aI;cases a5;simpa[V.clean]using cl aI;rename_i l aI;cases a5;simpa[V.clean]using cl aI;rename_i ys _ _ aI;split at a5;cases a5;cases a5;simpa[V.clean]using cl aI;cases a5;cases a5
def MO :∀(vs:List V)(h:List Q0),(∀ob∈h,ob≠ .res)->∀ob∈(gP h vs).2,ob≠ .res
 |[],h,k=>k
 |v::vs,h,k=>by simp only[gP];refine MO vs _ fun ob m=> ?_;obtain⟨l,e,ha⟩:=Su h v;rw[e]at m;rcases Ye.1 m with m|m;exact k ob m;have:=ha ob m;rintro rfl;exact this
def Sq (xz:List V)(ob:Q0)(h:ob∈(gP [] xz).2.map Q0.zone):ob≠ .res:=by obtain⟨x,hx,rfl⟩:=ZV.1 h;have:=MO xz [] (by simp) x hx;cases x<;>simp_all[Q0.zone]
def Oy {M0:Nat->Prop}{h:List Q0}{fn:AFn}{xz:List V}{a8:Array Value}(hG:Γ.G w)(hB:Γ.B0<=base)(k:HR M0 base w J h)(hl:xz.length=a8.toList.length)
 (hv:∀(i:Nat)(x:V)(u:Value),xz[i]? =some x->a8.toList[i]? =some u->VR (Mu M0 J h) w J h x u):
 SR Γ M0 base (oq fn xz h) {tmps:=a8++Array.replicate (fn.ntmps-a8.size) undef,defers:=[]} w J:=by
 have c4:xz.length=a8.size:=by simpa using hl
 refine⟨k,⟨rfl,by simp[oq,c4],fun i v u hx hu=> ?_⟩,hG,hB⟩;simp only[oq]at hx;by_cases hi:i<xz.length;rw[Ze hi]at hx;rw[ZW (by omega)]at hu;exact hv i v u hx (by simpa using hu);rw[Zm (by omega)]at hx;rw[YN (by omega)]at hu;have e1:v= .b8 []:=by have:=(Zb.1 hx).2;simp at this;exact this.symm
 have e2:u=undef:=by have:=(Yq.1 hu).2;simp at this;exact this.symm
 rw[e1,e2];exact VR.undef
def abI {Φ:Nat->Option AFn}{ext:Nat->List V->Option V}(im:QI Γ P kf Φ ext):∀(n:Nat),(∀(f k:Nat)(xz:List V)(r:V),kf f=some k->run Φ ext n k xz=some r->CP Γ P f xz r)/\
 (∀(f k:Nat)(xz:List V)(r:V),kf f=some k->run Φ ext n (k+iT) xz=some r->El Γ P f xz r)/\
 ∀(f k:Nat)(xz:List V)(r:V),kf f=some k->run Φ ext n (k+2*iT) xz=some r->SZ Γ P f xz r:=by
 intro n;induction n with
 |zero=>exact⟨fun f k xz r _ h=>by simp[run]at h,fun f k xz r _ h=>by simp[run]at h,fun f k xz r _ h=>by simp[run]at h⟩
 |succ n ih=>
  have ok:QA Γ P kf (run Φ ext n):=⟨im.prog,im.there,fun f k xz r hk hr=>ih.1 f k xz r hk hr,fun f k xz r hk hr=>ih.2.1 f k xz r hk hr,fun f k xz r hk hr=>ih.2.2 f k xz r hk hr,im.ins,im.del⟩;refine⟨fun f k xz r hk h=> ?_,fun f k xz r hk h=> ?_,fun f k xz r hk h=> ?_⟩
  ·rcases im.fns f k hk with⟨fn,af,h1,h2,h3⟩|⟨h1,_,h2⟩;case inr=>
    simp only[run,h1]at h
    rw[if_neg (by have:=(im.small f k hk).1;omega)]at h
    exact h2 xz r h
   simp only[run,h3]at h;rw[Iv]at h2;split at h2
   ·rename_i c hb;split at h2
    ·rename_i ac rs hc aJ;split at h2;cases h2
     ·cases h2;have key:∀{e:Ex}{Z':St},cD (run Φ ext n) (hZ n) ac (start ⟨fn.ntmps,rs,ac⟩ xz)=some (e,Z')->(e= .normal \/e= .ret)->dd Z' rs=some r->CP Γ P f xz r:=by intro e Z' he aK a5;refine⟨NJ a5,fun M0 w a8 hG hM ha=>calls_of_wp h1 hb ?_⟩;refine BN (z:=false) (O:=M0) (w0:=w) (ρ0:=[]) (h0:=[]) ok im.mixed n c hc nofun he ⟨M0,fun _ h=>h,nofun,Sb (fn:=⟨fn.ntmps,rs,ac⟩) hG hM ha,Below.refl _ _,Ch.refl _ _ _ _⟩ (fun a' w' J' s'=> ?_);obtain⟨az,i1,_,s1,aw,_⟩:=s';obtain⟨_,v,hv,b6⟩:=Dt s1 aJ a5;have aL:=b6.less i1;rcases aK with rfl|rfl;exact bodyPost_end hv s1.fr.defers ⟨v,rfl,aw,aL⟩;exact bodyPost_ret hv s1.fr.defers ⟨v,rfl,aw,aL⟩
      unfold done at h;split at h;rename_i Z' he;exact key he (.inl rfl) h;rename_i Z' he;exact key he (.inr rfl) h;cases h
    cases h2
   cases h2
  ·obtain⟨_,hn,_⟩:=im.small f k hk;simp only[run,hn]at h;rw[if_pos (by omega),show k+iT-iT=k by omega]at h;rcases im.fns f k hk with⟨fn,af,h1,h2,h3⟩|⟨h1,_,h2⟩;case inr=>
    simp only[h1]at h
    rw[if_neg (by have:=(im.small f k hk).1;omega)]at h
    cases h
   simp only[h3]at h;split at h;case isFalse=>cases h
   rename_i b7;rw[Iv]at h2;split at h2
   ·rename_i c hb;split at h2
    ·rename_i ac rs hc aJ;split at h2;cases h2
     ·cases h2;have key:∀{e:Ex}{Z':St},cD (run Φ ext n) (hZ n) ac (ml ⟨fn.ntmps,rs,ac⟩ xz)=some (e,Z')->(e= .normal \/e= .ret)->LL (gP [] xz).2.length ⟨fn.ntmps,rs,ac⟩ Z'=some r->El Γ P f xz r:=by
       intro e Z' he aK a5;unfold LL at a5;split at a5
       ·rename_i l os hf ho;split at a5
        ·rename_i aA;cases a5;refine⟨l,os,rfl,aA,fun M0 base w J a8 hG hB k0 hl hv=>calls_of_wp h1 hb ?_⟩;have b5:xz.length=a8.size:=by rw[<-hl,MN]
         refine BN (z:=true) (O:=M0) (w0:=w) (ρ0:=J) (h0:=(gP [] xz).2.map Q0.zone) ok im.mixed n c hc (fun _=>b7) he ⟨M0,fun _ h=>h,fun _=>rfl,Oz (fn:=⟨fn.ntmps,rs,ac⟩) hG hB k0 hl b5 hv,Below.refl _ _,Ch.refl _ _ _ _⟩ (fun a' w' J' s'=> ?_);obtain⟨az,i1,i2,s1,aw,c1⟩:=s';have e0:az=M0:=i2 rfl;rw[e0]at s1 c1;obtain⟨_,v,hv,b6⟩:=Dt s1 aJ hf;have hm:J.length=(gP [] xz).2.length:=by rw[k0.len];simp
         have hρ:J'.take (gP [] xz).2.length=J:=by
          apply YL;intro i;rw[ZL];by_cases hi:i<(gP [] xz).2.length;rw[if_pos hi];have h5:J[i]? =some J[i]:=by simp[hm,hi]
          obtain⟨ob',h6,_⟩:=c1.obj i J[i] _ h5 (by rw[Zj (by simpa using hi)]) (Sq xz _ (Zf _));rw[h6,h5];rw[if_neg hi,ZT (by omega)]
         have k1:=s1.hr.first ho;rw[hρ]at k1;have b9:∀{i:Nat}{x:Q0},(Z'.h.take (gP [] xz).2.length)[i]? =some x->Z'.h[i]? =some x:=fun{i x}e=>by rw[ZL]at e;split at e;exact e;cases e
         have c2:Ch (Mu M0 J ((gP [] xz).2.map Q0.zone)) (Mu M0 J (Z'.h.take (gP [] xz).2.length)) w w' J J ((gP [] xz).2.map Q0.zone) (Z'.h.take (gP [] xz).2.length):=by
          refine⟨⟨c1.go.size,fun b c6 aB=>c1.go.cls b c6 ?_,c1.go.block⟩,c1.row,fun i q x hq hx c9=> ?_,c1.zar⟩;rcases aB with aB|⟨i,x,hi,hx,hr⟩;exact .inl aB;refine .inr ⟨i,x,b9 hi,hx,?_⟩;have aR:i<J.length:=(Zb.1 hr).1;obtain⟨ob',h6,_⟩:=c1.obj i _ _ hr (Zj (by rw[k0.len]at aR;exact aR)) (Sq xz _ (Zf _));exact h6;obtain⟨ob',h5,h6,h7⟩:=c1.obj i q x hq hx c9;have aR:i<(gP [] xz).2.length:=by have:=(Zb.1 hx).1;simpa using this
          exact⟨ob',hq,by rw[ZL,if_pos aR];exact h6,h7⟩
         have bl:∀M J h,LR M w' J h l v:=fun M J h=>by
          have:=Du (M':=M) (J:=J) (h:=h) (by simpa[V.flat]using aA) b6;have e:fv l=l:=by cases l<;>first|rfl|cases aA
          simpa[fe,e,VR]using this
         rcases aK with rfl|rfl;exact bodyPost_end hv s1.fr.defers ⟨v,_,rfl,aw,bl,ho,k1,c2⟩;exact bodyPost_ret hv s1.fr.defers ⟨v,_,rfl,aw,bl,ho,k1,c2⟩
        cases a5
       cases a5
      unfold Bp at h;split at h;rename_i Z' he;exact key he (.inl rfl) h;rename_i Z' he;exact key he (.inr rfl) h;cases h
    cases h2
   cases h2
  ·obtain⟨cu,ca,hn⟩:=im.small f k hk;simp only[run,hn]at h;rw[if_pos (by omega),show k+2*iT-iT=k+iT by omega]at h;simp only[ca]at h;rw[if_pos (by omega),show k+2*iT-2*iT=k by omega]at h;rcases im.fns f k hk with⟨fn,af,h1,h2,h3⟩|⟨h1,_,h2⟩;case inr=>simp only[h1]at h;cases h
   simp only[h3]at h;split at h;case h_2=>cases h
   rename_i cv hp bm e3 hh;cases e3;split at h;case isFalse=>cases h
   rename_i b7;rw[Iv]at h2;split at h2
   ·rename_i c hb;split at h2
    ·rename_i ac rs hc aJ;split at h2;cases h2
     ·cases h2;have key:∀{e:Ex}{Z':St},cD (run Φ ext n) (hZ n) ac (oq ⟨fn.ntmps,rs,ac⟩ bm hp)=some (e,Z')->(e= .normal \/e= .ret)->Ts ⟨fn.ntmps,rs,ac⟩ Z'=some r->SZ Γ P f xz r:=by
       intro e Z' he aK a5;unfold Ts at a5;split at a5;case h_2=>cases a5
       rename_i ls e0 aY cb;split at a5;case h_2=>cases a5
       rename_i ps cg;cases a5;refine⟨hp,bm,e0,ps,Z'.h,ls,hh,rfl,zj cb,Ay cg,fun M0 base w J a8 hG hB k0 hl hv=>calls_of_wp h1 hb ?_⟩;refine BN (z:=true) (O:=M0) (w0:=w) (ρ0:=J) (h0:=hp) ok im.mixed n c hc (fun _=>b7) he ⟨M0,fun _ h=>h,fun _=>rfl,Oy (fn:=⟨fn.ntmps,rs,ac⟩) hG hB k0 hl hv,Below.refl _ _,Ch.refl _ _ _ _⟩ (fun a' w' J' s'=> ?_);obtain⟨az,i1,i2,s1,aw,c1⟩:=s';have ck:az=M0:=i2 rfl;rw[ck]at s1 c1;obtain⟨us,cm,cn,cq⟩:=yt s1 aJ aY;obtain⟨u,rfl⟩:=ZN.1 (cn.trans rfl);have aM:(results fn a'.tmps).run P w'= .ok u w':=by rw[Ki,QT];simp only[Sem.run_bind,Sem.run_map,cm,Result.andThen_ok,Sem.run_pure];simp
       have bn:=cq 0 _ u rfl rfl;rcases aK with rfl|rfl;exact bodyPost_end aM s1.fr.defers ⟨u,J',rfl,aw,s1.hr,c1,bn⟩;exact bodyPost_ret aM s1.fr.defers ⟨u,J',rfl,aw,s1.hr,c1,bn⟩
      unfold ID at h;split at h;rename_i Z' he;exact key he (.inl rfl) h;rename_i Z' he;exact key he (.inr rfl) h;cases h
    cases h2
   cases h2
def WT {Φ:Nat->Option AFn}{ext:Nat->List V->Option V}(im:QI Γ P kf Φ ext)(n:Nat)(f k:Nat)(xz:List V)(r:V):kf f=some k->run Φ ext n k xz=some r->CP Γ P f xz r:=(abI im n).1 f k xz r
end
end Gi
