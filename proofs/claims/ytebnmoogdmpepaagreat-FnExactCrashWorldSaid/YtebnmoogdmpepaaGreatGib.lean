/- Of this proof. -/
import Derived.Test.YtebnmoogdmpepaaGreatGia
import Derived.WalkKit
import Derived.Deep.MidRow
import Derived.Maps.Own
import Derived.Maps.OwnSet
import Derived.Maps.Views
import Derived.Maps.Keyed
set_option linter.unusedSimpArgs false
set_option linter.unusedVariables false
namespace Gi
open Go
class KF where
 kf:FuncId→Option Nat
 pr:Program
abbrev kf [KF]:FuncId→Option Nat:=KF.kf
variable {KI:KF}
mutual
def ap (M:Nat→Prop)(w:World):PV→Value→Prop
 | .int k n,v=>v= .int k n
 | .bool b,v=>v= .bool b
 | .str s,v=>v= .string ⟨s.toArray⟩
 | .lst es,v=>(es=[]∧∃a c,v= .slice a 0 c)∨
  ∃b o c z,v= .slice (some ⟨b,o,none⟩) es.length c∧¬M b∧b<w.heap.size∧cZ M w z es b o∧es.length≤c
def dV (M:Nat→Prop)(w:World):List PV→Nat→Nat→Prop
 |[],_,_=>True
 |p::ps,b,o=>(∃v,w.cell? ⟨b,o,none⟩=some v∧ap M w p v)∧dV M w ps b (o+1)
def cZ (M:Nat→Prop)(w:World)(z:Nat):List (List PV)→Nat→Nat→Prop
 |[],_,_=>True
 |e::es,b,o=>e.length=z∧dV M w e b o∧cZ M w z es b (o+z)
end
theorem ap.one {M:Nat→Prop}{w:World}{p:PV}{v:Value}(h:ap M w p v):v.oneCell'=true:=by
 cases p with
 |int k n=>simp only[ap]at h;subst h;rfl
 |bool b=>simp only[ap]at h;subst h;rfl
 |str s=>simp only[ap]at h;subst h;rfl
 |lst es=>
  simp only[ap]at h
  rcases h with⟨_,a,c,rfl⟩|⟨b,o,c,z,rfl,_⟩<;>rfl
structure Go' (M M':Nat→Prop) (w w':World):Prop where
 size:w.heap.size≤w'.heap.size
 cls:∀b,b<w.heap.size→M' b→M b
 block:∀b,b<w.heap.size→¬M b→w'.heap[b]? =w.heap[b]?
theorem Go'.cell {M M':Nat→Prop}{w w':World}(h:Go' M M' w w'){b o:Nat}{v:Value}(hb:¬M b)(hlt:b<w.heap.size)(hc:w.cell? ⟨b,o,none⟩=some v):w'.cell? ⟨b,o,none⟩=some v:=by
 unfold World.cell? at*
 rw[h.block b hlt hb]
 exact hc
mutual
theorem ap.go {M M':Nat→Prop}{w w':World}(h:Go' M M' w w'):∀(p:PV)(v:Value),ap M w p v→ap M' w' p v
 | .int _ _,_,r=>by simpa only[ap]using r
 | .bool _,_,r=>by simpa only[ap]using r
 | .str _,_,r=>by simpa only[ap]using r
 | .lst es,v,r=>by
  simp only[ap]at r⊢
  rcases r with r|⟨b,o,c,z,e,hb,hlt,r,hcap⟩
  ·exact .inl r
  ·exact .inr ⟨b,o,c,z,e,fun k=>hb (h.cls b hlt k),Z3 hlt h.size,cZ.go h z es b o hb hlt r,hcap⟩
theorem dV.go {M M':Nat→Prop}{w w':World}(h:Go' M M' w w'):∀(ps:List PV)(b o:Nat),¬M b→b<w.heap.size→dV M w ps b o→dV M' w' ps b o
 |[],_,_,_,_,_=>by simp only[dV]
 |p::ps,b,o,hb,hlt,r=>by
  simp only[dV]at r⊢
  obtain⟨⟨v,hc,hv⟩,r⟩:=r
  exact⟨⟨v,h.cell hb hlt hc,ap.go h p v hv⟩,dV.go h ps b (o+1) hb hlt r⟩
theorem cZ.go {M M':Nat→Prop}{w w':World}(h:Go' M M' w w')(z:Nat):∀(es:List (List PV))(b o:Nat),¬M b→b<w.heap.size→cZ M w z es b o→cZ M' w' z es b o
 |[],_,_,_,_,_=>by simp only[cZ]
 |e::es,b,o,hb,hlt,r=>by
  simp only[cZ]at r⊢
  exact⟨r.1,dV.go h e b o hb hlt r.2.1,cZ.go h z es b (o+z) hb hlt r.2.2⟩
end
theorem dV.at {M:Nat→Prop}{w:World}:∀{ps:List PV}{b o j:Nat}{p:PV},dV M w ps b o→ps[j]? =some p→∃v,w.cell? ⟨b,o+j,none⟩=some v∧ap M w p v
 |[],_,_,_,_,_,hp=>by simp at hp
 |q::ps,b,o,0,p,h,hp=>by
  simp only[dV]at h
  simp at hp;subst hp
  simpa using h.1
 |q::ps,b,o,j+1,p,h,hp=>by
  simp only[dV]at h
  have:=dV.at h.2 (j:=j) (p:=p) (by simpa using hp)
  rwa[show o+1+j=o+(j+1) by omega]at this
theorem dV.of {M:Nat→Prop}{w:World}:∀{ps:List PV}{b o:Nat},(∀(j:Nat)(p:PV),ps[j]? =some p→∃v,w.cell? ⟨b,o+j,none⟩=some v∧ap M w p v)→dV M w ps b o
 |[],_,_,_=>by simp only[dV]
 |p::ps,b,o,h=>by
  simp only[dV]
  refine⟨by simpa using h 0 p rfl,dV.of fun j q hq=> ?_⟩
  have:=h (j+1) q (by simpa using hq)
  rwa[show o+(j+1)=o+1+j by omega]at this
theorem cZ.at {M:Nat→Prop}{w:World}{z:Nat}:∀{es:List (List PV)}{b o i:Nat}{e:List PV},cZ M w z es b o→es[i]? =some e→e.length=z∧dV M w e b (o+i*z)
 |[],_,_,_,_,_,he=>by simp at he
 |q::es,b,o,0,e,h,he=>by
  simp only[cZ]at h
  simp at he;subst he
  simpa using⟨h.1,h.2.1⟩
 |q::es,b,o,i+1,e,h,he=>by
  simp only[cZ]at h
  have:=cZ.at h.2.2 (i:=i) (e:=e) (by simpa using he)
  rwa[show o+z+i*z=o+(i+1)*z by rw[Z7,Yv];omega]at this
theorem cZ.of {M:Nat→Prop}{w:World}{z:Nat}:∀{es:List (List PV)}{b o:Nat},(∀(i:Nat)(e:List PV),es[i]? =some e→e.length=z∧dV M w e b (o+i*z))→cZ M w z es b o
 |[],_,_,_=>by simp only[cZ]
 |e::es,b,o,h=>by
  simp only[cZ]
  have h0:=h 0 e rfl
  refine⟨h0.1,by simpa using h0.2,cZ.of fun i q hq=> ?_⟩
  have:=h (i+1) q (by simpa using hq)
  rwa[show o+(i+1)*z=o+z+i*z by rw[Z7,Yv];omega]at this
def gg (w:World)(b:Nat)(cur:Array Value):Prop:=∃T,w.heap[b]? =some (.cells cur T (0,0))
theorem gg.lt {w:World}{b:Nat}{cur:Array Value}(h:gg w b cur):b<w.heap.size:=by
 obtain⟨T,h⟩:=h
 exact(Y6.1 h).1
theorem gg.cell {w:World}{b:Nat}{cur:Array Value}(h:gg w b cur)(i:Nat):w.cell? ⟨b,i,none⟩=cur[i]? :=by
 obtain⟨T,h⟩:=h
 simp[World.cell?,h]
theorem gg.free {w:World}{b:Nat}{cur:Array Value}(h:gg w b cur)(i:Nat):w.frozen? ⟨b,i,none⟩=false:=by
 obtain⟨T,h⟩:=h
 simp[World.frozen?,h]
theorem gg.inj {w:World}{b:Nat}{c d:Array Value}(h:gg w b c)(k:gg w b d):c=d:=by
 obtain⟨T,h⟩:=h
 obtain⟨U,k⟩:=k
 rw[h]at k
 cases k
 rfl
def AObj.z :AObj→Nat
 | .arr z _=>z
 | .froz z _=>z
 | .darr z _=>z
 | .zarr z _=>z
 |_=>0
def AObj.mut :AObj→Bool
 | .box _=>true
 | .tbox _=>true
 | .arr _ _=>true
 | .darr _ _=>true
 | .zarr _ _=>true
 |_=>false
def km (w:World)(ob:AObj)(r:Option Nat)(v:Value):Prop:=
 match ob with
 | .arr z es=>match r with
  |none=>∃ad,v= .slice ad 0 0
  |some b=>∃cur cap,gg w b cur∧cur.size=cap*z∧es.length≤cap∧cap≤maxLen∧v= .slice (some ⟨b,0,none⟩) es.length cap
 | .froz z es=>match r with
  |none=>∃ad,v= .slice ad 0 0
  |some b=>∃cur cap,gg w b cur∧cur.size=cap*z∧es.length≤cap∧cap≤maxLen∧v= .slice (some ⟨b,0,none⟩) es.length cap
 | .darr z es=>match r with
  |none=>∃ad,v= .slice ad 0 0
  |some b=>∃cur cap,gg w b cur∧cur.size=cap*z∧es.length≤cap∧cap≤maxLen∧v= .slice (some ⟨b,0,none⟩) es.length cap
 | .zarr z es=>match r with
  |none=>∃ad,v= .slice ad 0 0
  |some b=>∃cur cap,gg w b cur∧cur.size=cap*z∧es.length≤cap∧cap≤maxLen∧v= .slice (some ⟨b,0,none⟩) es.length cap
 | .res=>False
 |_=>v.oneCell'=true
def xP (ob:AObj)(r:Option Nat)(i j:Nat)(v:Value):Prop:=
 match ob with
 | .dead=>∃b o,v= .pointer (some ⟨b,o,none⟩)
 | .res=>False
 |ob=>∃b,r=some b∧v= .pointer (some ⟨b,i*ob.z+j,none⟩)
def xO (M:Nat→Prop)(w:World)(e:List PV)(v:Value):Prop:=∃b o,v= .pointer (some ⟨b,o,none⟩)∧¬M b∧b<w.heap.size∧dV M w e b o
theorem xO.go {M M':Nat→Prop}{w w':World}(h:Go' M M' w w'){e:List PV}{v:Value}(r:xO M w e v):xO M' w' e v:=by
 obtain⟨b,o,rfl,hb,hlt,hr⟩:=r
 exact⟨b,o,rfl,fun k=>hb (h.cls b hlt k),Z3 hlt h.size,dV.go h e b o hb hlt hr⟩
def AObj.isRows :AObj→Bool
 | .arr _ _=>true
 | .froz _ _=>true
 | .darr _ _=>true
 | .zarr _ _=>true
 |_=>false
def TS (z l r:Nat)(u v:Value):Prop:=
 (∃b n cap,u= .slice (some ⟨b,0,none⟩) n cap∧l≤r∧r≤n∧v= .slice (if cap=l then some ⟨b,0,none⟩else some ⟨b,l*z,none⟩) (r-l) (cap-l))∨
  ((∃ad,u= .slice ad 0 0)∧l=0∧r=0∧∃ad,v= .slice ad 0 0)
theorem TS.one {z l r:Nat}{u v:Value}(h:TS z l r u v):u.oneCell'=true:=by
 rcases h with⟨_,_,_,rfl,_⟩|⟨⟨_,rfl⟩,_⟩<;>rfl
def vY (z:Nat)(es:List (List PV))(c:Nat):Prop:=∃i e j l,es[i]? =some e∧e[j]? =some (PV.lst l)∧c=i*z+j
def LR [KF](M:Nat→Prop)(w:World)(ρ:List (Option Nat))(h:List AObj):L→Value→Prop
 | .pv p,v=>ap M w p v
 | .ptr o i j,v=>∃r ob,ρ[o]? =some r∧h[o]? =some ob∧xP ob r i j v
 | .ip e j,v=>∃b o,v= .pointer (some ⟨b,o+j,none⟩)∧¬M b∧b<w.heap.size∧dV M w e b o
 | .arr o,v=>∃r ob,ρ[o]? =some r∧h[o]? =some ob∧km w ob r v
 | .nil,v=>∃ad,v= .slice ad 0 0
 | .own _ _,_=>False
 | .down _ _,_=>False
 | .fn k caps,v=>∃f cs,v= .func (.func f) #[] cs∧kf f=some k∧caps.length=cs.size∧∀(i:Nat)(e:List PV)(u:Value),caps[i]? =some e→cs[i]? =some u→xO M w e u
 | .tp n,v=>∃(o b:Nat),ρ[o]? =some (some b)∧h[o]? =some (AObj.tbox n)∧v= .pointer (some ⟨b,0,none⟩)
 | .sub o c,v=>v.oneCell'=true∧∃b z es,ρ[o]? =some (some b)∧h[o]? =some (AObj.zarr z es)∧vY z es c∧w.cell? ⟨b,c,none⟩=some v
 | .win o l r,v=>v.oneCell'=true∧∃q ob,ρ[o]? =some q∧h[o]? =some ob∧ob≠ .res∧(ob.isRows=true→∃u,km w ob q u∧TS ob.z l r u v)
 | .junk,v=>v.oneCell'=true
def ru [KF](M:Nat→Prop)(w:World)(ρ:List (Option Nat))(h:List AObj)(ls:List L)(vs:List Value):Prop:=
 ls.length=vs.length∧∀(i:Nat)(l:L)(v:Value),ls[i]? =some l→vs[i]? =some v→LR M w ρ h l v
def VR [KF](M:Nat→Prop)(w:World)(ρ:List (Option Nat))(h:List AObj):V→Value→Prop
 | .one l,v=>LR M w ρ h l v
 | .agg ls,v=>∃cs,v= .agg cs∧ru M w ρ h ls cs.toList
 | .tup xs,v=>∃vs,v= .tuple vs∧xs.length=vs.size∧∀(i:Nat)(x:Bool×List L)(u:Value),xs[i]? =some x→vs[i]? =some u→
  match x with
  |(true,ls)=>∃cs,u= .agg cs∧ru M w ρ h ls cs.toList
  |(false,[l])=>LR M w ρ h l u
  |_=>False
def wu [KF](M:Nat→Prop)(base:Nat)(w:World)(ρ:List (Option Nat))(h:List AObj)(r:Option Nat):AObj→Prop
 | .box cs=>∃b cur,r=some b∧base≤b∧gg w b cur∧ru M w ρ h cs cur.toList
 | .arr z es=>0<z∧(∀e∈es,e.length=z)∧match r with
  |none=>es=[]
  |some b=>base≤b∧∃cur cap,gg w b cur∧cur.size=cap*z∧es.length≤cap∧cap≤maxLen∧
   ∀(i:Nat)(e:List PV)(j:Nat)(p:PV),es[i]? =some e→e[j]? =some p→∃v,cur[i*z+j]? =some v∧ap M w p v
 | .froz z es=>0<z∧(∀e∈es,e.length=z)∧match r with
  |none=>es=[]
  |some b=>¬M b∧∃cur cap,gg w b cur∧cur.size=cap*z∧es.length≤cap∧cap≤maxLen∧
   ∀(i:Nat)(e:List PV)(j:Nat)(p:PV),es[i]? =some e→e[j]? =some p→∃v,cur[i*z+j]? =some v∧ap M w p v
 | .darr z es=>0<z∧(∀e∈es,e.length=z)∧match r with
  |none=>es=[]
  |some b=>base≤b∧∃cur cap,gg w b cur∧cur.size=cap*z∧es.length≤cap∧cap≤maxLen∧
   ∀(i:Nat)(e:List PV)(j:Nat)(p:PV),es[i]? =some e→e[j]? =some p→∃v,cur[i*z+j]? =some v∧ap M w p v
 | .zarr z es=>0<z∧(∀e∈es,e.length=z)∧match r with
  |none=>es=[]
  |some b=>base≤b∧∃cur cap,gg w b cur∧cur.size=cap*z∧es.length≤cap∧cap≤maxLen
 | .fbox ps=>∃b cur,r=some b∧¬M b∧gg w b cur∧ps.length=cur.size∧∀(j:Nat)(p:PV),ps[j]? =some p→∃v,cur[j]? =some v∧ap M w p v
 | .tbox n=>∃b cur,r=some b∧base≤b∧gg w b cur∧cur.size=n
 | .dead=>True
 | .res=>r=none
def Mu (M0:Nat→Prop)(ρ:List (Option Nat))(h:List AObj)(b:Nat):Prop:=
 M0 b∨∃(o:Nat)(ob:AObj),h[o]? =some ob∧ob.mut=true∧ρ[o]? =some (some b)
mutual
def eE (κ:Nat→List Nat)(lo:Nat)(w:World):PV→List Nat→Value→Prop
 | .int k n,_,v=>v= .int k n
 | .bool b,_,v=>v= .bool b
 | .str s,_,v=>v= .string ⟨s.toArray⟩
 | .lst es,π,v=>(es=[]∧∃a c,v= .slice a 0 c)∨
  ∃b c z cur,v= .slice (some ⟨b,0,none⟩) es.length c∧lo≤b∧κ b=π∧0<z∧gg w b cur∧cur.size=c*z∧es.length≤c∧c≤maxLen∧dY κ lo w z es π b 0
def fV (κ:Nat→List Nat)(lo:Nat)(w:World):List PV→List Nat→Nat→Nat→Prop
 |[],_,_,_=>True
 |p::ps,π,b,o=>(∃v,w.cell? ⟨b,o,none⟩=some v∧eE κ lo w p (π++[o]) v)∧fV κ lo w ps π b (o+1)
def dY (κ:Nat→List Nat)(lo:Nat)(w:World)(z:Nat):List (List PV)→List Nat→Nat→Nat→Prop
 |[],_,_,_=>True
 |e::es,π,b,o=>e.length=z∧fV κ lo w e π b o∧dY κ lo w z es π b (o+z)
end
def BE (κ κ':Nat→List Nat)(w w':World)(π π':List Nat):Prop:=
 ∀b τ,b<w.heap.size→κ b=π++τ→κ' b=π'++τ∧w'.heap[b]? =w.heap[b]?
theorem BE.sub {κ κ':Nat→List Nat}{w w':World}{π π':List Nat}(h:BE κ κ' w w' π π')(o:List Nat):BE κ κ' w w' (π++o) (π'++o):=fun b τ hb e=>by
 have:=h b (o++τ) hb (by rw[e,Zo])
 rwa[←Zo]at this
mutual
theorem eE.go {κ κ':Nat→List Nat}{lo lo':Nat}{w w':World}(hlo:lo'≤lo):∀(p:PV)(π π':List Nat)(v:Value),BE κ κ' w w' π π'→eE κ lo w p π v→eE κ' lo' w' p π' v
 | .int _ _,_,_,_,_,r=>by simpa only[eE]using r
 | .bool _,_,_,_,_,r=>by simpa only[eE]using r
 | .str _,_,_,_,_,r=>by simpa only[eE]using r
 | .lst es,π,π',v,h,r=>by
  simp only[eE]at r⊢
  rcases r with r|⟨b,c,z,cur,e,hb,hk,hz,hr,h1,h2,h3,ht⟩
  ·exact .inl r
  ·obtain⟨q1,q2⟩:=h b [] hr.lt (by simp[hk])
   have hc:∀o,w'.cell? ⟨b,o,none⟩=w.cell? ⟨b,o,none⟩:=fun o=>by unfold World.cell?;rw[q2]
   exact .inr ⟨b,c,z,cur,e,Zc hlo hb,by simpa using q1,hz,by obtain⟨T,hr⟩:=hr;exact⟨T,q2.trans hr⟩,h1,h2,h3,dY.go hlo z es π π' b 0 h hc ht⟩
theorem fV.go {κ κ':Nat→List Nat}{lo lo':Nat}{w w':World}(hlo:lo'≤lo):∀(ps:List PV)(π π':List Nat)(b o:Nat),BE κ κ' w w' π π'→(∀o,w'.cell? ⟨b,o,none⟩=w.cell? ⟨b,o,none⟩)→fV κ lo w ps π b o→fV κ' lo' w' ps π' b o
 |[],_,_,_,_,_,_,_=>by simp only[fV]
 |p::ps,π,π',b,o,h,hc,r=>by
  simp only[fV]at r⊢
  obtain⟨⟨v,hv,hp⟩,r⟩:=r
  exact⟨⟨v,(hc o).trans hv,eE.go hlo p _ _ v (h.sub [o]) hp⟩,fV.go hlo ps π π' b (o+1) h hc r⟩
theorem dY.go {κ κ':Nat→List Nat}{lo lo':Nat}{w w':World}(hlo:lo'≤lo)(z:Nat):∀(es:List (List PV))(π π':List Nat)(b o:Nat),BE κ κ' w w' π π'→(∀o,w'.cell? ⟨b,o,none⟩=w.cell? ⟨b,o,none⟩)→dY κ lo w z es π b o→dY κ' lo' w' z es π' b o
 |[],_,_,_,_,_,_,_=>by simp only[dY]
 |e::es,π,π',b,o,h,hc,r=>by
  simp only[dY]at r⊢
  exact⟨r.1,fV.go hlo e π π' b o h hc r.2.1,dY.go hlo z es π π' b (o+z) h hc r.2.2⟩
end
theorem eE.one {κ:Nat→List Nat}{lo:Nat}{w:World}{p:PV}{π:List Nat}{v:Value}(h:eE κ lo w p π v):v.oneCell'=true:=by
 cases p with
 |int k n=>simp only[eE]at h;subst h;rfl
 |bool b=>simp only[eE]at h;subst h;rfl
 |str s=>simp only[eE]at h;subst h;rfl
 |lst es=>
  simp only[eE]at h
  rcases h with⟨_,a,c,rfl⟩|⟨b,c,z,cur,rfl,_⟩<;>rfl
theorem fV.of {κ:Nat→List Nat}{lo:Nat}{w:World}:∀{ps:List PV}{π:List Nat}{b o:Nat},(∀(j:Nat)(p:PV),ps[j]? =some p→∃v,w.cell? ⟨b,o+j,none⟩=some v∧eE κ lo w p (π++[o+j]) v)→fV κ lo w ps π b o
 |[],_,_,_,_=>by simp only[fV]
 |p::ps,π,b,o,h=>by
  simp only[fV]
  refine⟨by simpa using h 0 p rfl,fV.of fun j q hq=> ?_⟩
  have:=h (j+1) q (by simpa using hq)
  rwa[show o+(j+1)=o+1+j by omega]at this
theorem fV.at {κ:Nat→List Nat}{lo:Nat}{w:World}:∀{ps:List PV}{π:List Nat}{b o j:Nat}{p:PV},fV κ lo w ps π b o→ps[j]? =some p→∃v,w.cell? ⟨b,o+j,none⟩=some v∧eE κ lo w p (π++[o+j]) v
 |[],_,_,_,_,_,_,hp=>by simp at hp
 |q::ps,π,b,o,0,p,h,hp=>by
  simp only[fV]at h
  simp at hp;subst hp
  simpa using h.1
 |q::ps,π,b,o,j+1,p,h,hp=>by
  simp only[fV]at h
  have:=fV.at h.2 (j:=j) (p:=p) (by simpa using hp)
  rwa[show o+1+j=o+(j+1) by omega]at this
theorem dY.of {κ:Nat→List Nat}{lo:Nat}{w:World}{z:Nat}:∀{es:List (List PV)}{π:List Nat}{b o:Nat},(∀(i:Nat)(e:List PV),es[i]? =some e→e.length=z∧fV κ lo w e π b (o+i*z))→dY κ lo w z es π b o
 |[],_,_,_,_=>by simp only[dY]
 |e::es,π,b,o,h=>by
  simp only[dY]
  have h0:=h 0 e rfl
  refine⟨h0.1,by simpa using h0.2,dY.of fun i q hq=> ?_⟩
  have:=h (i+1) q (by simpa using hq)
  rwa[show o+(i+1)*z=o+z+i*z by rw[Z7,Yv];omega]at this
theorem dY.at {κ:Nat→List Nat}{lo:Nat}{w:World}{z:Nat}:∀{es:List (List PV)}{π:List Nat}{b o i:Nat}{e:List PV},dY κ lo w z es π b o→es[i]? =some e→e.length=z∧fV κ lo w e π b (o+i*z)
 |[],_,_,_,_,_,_,he=>by simp at he
 |q::es,π,b,o,0,e,h,he=>by
  simp only[dY]at h
  simp at he;subst he
  simpa using⟨h.1,h.2.1⟩
 |q::es,π,b,o,i+1,e,h,he=>by
  simp only[dY]at h
  have:=dY.at h.2.2 (i:=i) (e:=e) (by simpa using he)
  rwa[show o+z+i*z=o+(i+1)*z by rw[Z7,Yv];omega]at this
def qA (κ:Nat→List Nat)(lo:Nat)(w:World)(z:Nat)(es:List (List PV))(π:List Nat)(b:Nat):Prop:=
 ∀(i:Nat)(e:List PV)(j:Nat)(p:PV),es[i]? =some e→e[j]? =some p→∃v,w.cell? ⟨b,i*z+j,none⟩=some v∧eE κ lo w p (π++[i*z+j]) v
theorem qA.ll {κ:Nat→List Nat}{lo:Nat}{w:World}{z:Nat}{es:List (List PV)}{π:List Nat}{b:Nat}(hz:∀e∈es,e.length=z)(h:qA κ lo w z es π b):dY κ lo w z es π b 0:=
 dY.of fun i e he=>⟨hz e (Zk he),fV.of fun j p hp=>by simpa using h i e j p he hp⟩
theorem dY.cells {κ:Nat→List Nat}{lo:Nat}{w:World}{z:Nat}{es:List (List PV)}{π:List Nat}{b:Nat}(h:dY κ lo w z es π b 0):qA κ lo w z es π b:=fun i e j p he hp=>by
 have:=(h.at he).2.at hp
 simpa using this
theorem qA.go {κ κ':Nat→List Nat}{lo lo':Nat}{w w':World}{z:Nat}{es:List (List PV)}{π π':List Nat}{b b':Nat}(hlo:lo'≤lo)(hc:∀o,o<es.length*z→w'.cell? ⟨b',o,none⟩=w.cell? ⟨b,o,none⟩)(hz:∀e∈es,e.length=z)(hm:∀c,BE κ κ' w w' (π++[c]) (π'++[c]))(h:qA κ lo w z es π b):qA κ' lo' w' z es π' b':=fun i e j p he hp=>by
 obtain⟨v,hv,ht⟩:=h i e j p he hp
 have hi:=(Zb.1 he).1
 have hj:=(Zb.1 hp).1
 rw[hz e (Zk he)]at hj
 refine⟨v,(hc _ ?_).trans hv,eE.go hlo p _ _ v (hm _) ht⟩
 calc i*z+j<i*z+z:=by omega
  _=(i+1)*z:=by rw[Z7,Yv]
  _≤es.length*z:=Zx _ hi
def AObj.deep :AObj→Option (Nat×List (List PV))
 | .darr z es=>some (z,es)
 | .zarr z es=>some (z,es)
 |_=>none
structure Deep (κ:Nat→List Nat) (base:Nat) (w:World) (ρ:List (Option Nat)) (h:List AObj):Prop where
 root:∀(o:Nat)(ob:AObj)(b:Nat),h[o]? =some ob→ob.mut=true→ρ[o]? =some (some b)→κ b=[o]
 tree:∀(o:Nat)(ob:AObj)(z:Nat)(es:List (List PV))(b:Nat),h[o]? =some ob→ob.deep=some (z,es)→ρ[o]? =some (some b)→qA κ base w z es [o] b
structure HR0 [KF] (M0:Nat→Prop) (base:Nat) (w:World) (ρ:List (Option Nat)) (h:List AObj):Prop where
 len:ρ.length=h.length
 old:∀b,M0 b→b<w.heap.size∧∀(o:Nat)(ob:AObj),h[o]? =some ob→ob.mut=true→ρ[o]? ≠some (some b)
 le:base≤w.heap.size
 objs:∀(o:Nat)(ob:AObj)(r:Option Nat),h[o]? =some ob→ρ[o]? =some r→wu (Mu M0 ρ h) base w ρ h r ob
 apart:∀(o o':Nat)(ob ob':AObj)(b:Nat),h[o]? =some ob→h[o']? =some ob'→ob.mut=true→ob'.mut=true→ρ[o]? =some (some b)→ρ[o']? =some (some b)→o=o'
structure Zon (κ:Nat→List Nat) (M0:Nat→Prop) (w:World) (h:List AObj):Prop where
 new:∀b,w.heap.size≤b→κ b=[]
 zone:∀(b o c:Nat)(τ:List Nat)(z:Nat)(es:List (List PV)),κ b=o::c::τ→h[o]? =some (.zarr z es)→M0 b
structure HR [KF] (M0:Nat→Prop) (base:Nat) (w:World) (ρ:List (Option Nat)) (h:List AObj):Prop extends HR0 M0 base w ρ h where
 deep:∃κ,Deep κ base w ρ h∧Zon κ M0 w h
structure FR [KF] (M:Nat→Prop) (w:World) (ρ:List (Option Nat)) (h:List AObj) (t:List V) (a:Act):Prop where
 defers:a.defers=[]
 size:a.tmps.size=t.length
 tmps:∀(i:Nat)(v:V)(u:Value),t[i]? =some v→a.tmps[i]? =some u→VR M w ρ h v u
structure Ctx where
 G:World→Prop
 B0:Nat
 keep:∀w w',G w→Go.RowKit.Below B0 w w'→G w'
 size:∀w,G w→B0≤w.heap.size
structure SR [KF] (Γ:Ctx) (M0:Nat→Prop) (base:Nat) (σ:St) (a:Act) (w:World) (ρ:List (Option Nat)):Prop where
 hr:HR M0 base w ρ σ.h
 fr:FR (Mu M0 ρ σ.h) w ρ σ.h σ.t a
 inv:Γ.G w
 b0:Γ.B0≤base
theorem LR.one {M:Nat→Prop}{w:World}{ρ:List (Option Nat)}{h:List AObj}{l:L}{v:Value}(r:LR M w ρ h l v):v.oneCell'=true:=by
 cases l with
 |pv p=>exact ap.one r
 |ptr o i j=>
  obtain⟨r,ob,_,_,hs⟩:=r
  unfold xP at hs
  split at hs
  ·obtain⟨b,_,rfl⟩:=hs;rfl
  ·exact hs.elim
  ·obtain⟨b,_,rfl⟩:=hs;rfl
 |ip e j=>obtain⟨b,o,rfl,_⟩:=r;rfl
 |arr o=>
  obtain⟨r,ob,_,_,hs⟩:=r
  unfold km at hs
  split at hs
  ·split at hs
   ·obtain⟨_,rfl⟩:=hs;rfl
   ·obtain⟨_,_,_,_,_,_,rfl⟩:=hs;rfl
  ·split at hs
   ·obtain⟨_,rfl⟩:=hs;rfl
   ·obtain⟨_,_,_,_,_,_,rfl⟩:=hs;rfl
  ·split at hs
   ·obtain⟨_,rfl⟩:=hs;rfl
   ·obtain⟨_,_,_,_,_,_,rfl⟩:=hs;rfl
  ·split at hs
   ·obtain⟨_,rfl⟩:=hs;rfl
   ·obtain⟨_,_,_,_,_,_,rfl⟩:=hs;rfl
  ·exact hs.elim
  ·exact hs
 |nil=>obtain⟨_,rfl⟩:=r;rfl
 |own z es=>exact r.elim
 |down z es=>exact r.elim
 |fn k caps=>obtain⟨f,cs,rfl,_⟩:=r;rfl
 |tp n=>obtain⟨o,b,_,_,rfl⟩:=r;rfl
 |sub o c=>exact r.1
 |win o l q=>exact r.1
 |junk=>exact r
def qQ :AObj→AObj→Prop
 | .res, .res=>True
 | .res,_=>False
 | .zarr z es, .zarr z' es'=>z=z'∧es.length=es'.length∧∀c,vY z es c→vY z es' c
 | .zarr _ _,_=>False
 | .tbox n, .tbox m=>n=m
 | .tbox _,_=>False
 |_, .dead=>True
 | .box _, .box _=>True
 | .box _, .fbox _=>True
 | .fbox _, .fbox _=>True
 | .arr z es, .arr z' es'=>z=z'∧es.length=es'.length
 | .arr z es, .froz z' es'=>z=z'∧es.length=es'.length
 | .froz z es, .froz z' es'=>z=z'∧es.length=es'.length
 | .arr z es, .darr z' es'=>z=z'∧es.length=es'.length
 | .darr z es, .darr z' es'=>z=z'∧es.length=es'.length
 | .darr z es, .arr z' es'=>z=z'∧es.length=es'.length
 | .darr z es, .froz z' es'=>z=z'∧es.length=es'.length
 |_,_=>False
theorem qQ.refl (ob:AObj):qQ ob ob:=by cases ob<;>simp[qQ]
theorem qQ.trans {a b c:AObj}(h:qQ a b)(k:qQ b c):qQ a c:=by
 cases a<;>cases b<;>cases c<;>first
  |(simp_all[qQ];done)
  |exact⟨h.1.trans k.1,h.2.1.trans k.2.1,fun c hc=>h.1▸k.2.2 c (h.1▸h.2.2 c hc)⟩
theorem qQ.ne {a b:AObj}(s:qQ a b)(h:a≠ .res):b≠ .res:=by
 rintro rfl
 cases a<;>first|exact h rfl|exact s.elim|(simp[qQ]at s;done)
theorem qQ.rows {a b:AObj}(s:qQ a b)(h:b.isRows=true):a.isRows=true∧b.z=a.z:=by
 cases a<;>cases b<;>simp_all[qQ,AObj.isRows,AObj.z]
theorem qQ.zarr {z:Nat}{es:List (List PV)}{ob:AObj}(h:qQ (.zarr z es) ob):∃es',ob= .zarr z es'∧es.length=es'.length∧∀c,vY z es c→vY z es' c:=by
 cases ob<;>first
  |exact h.elim
  |(obtain⟨rfl,h1,h2⟩:=h;exact⟨_,rfl,h1,h2⟩)
structure Ch (M M':Nat→Prop) (w w':World) (ρ ρ':List (Option Nat)) (h h':List AObj):Prop where
 go:Go' M M' w w'
 row:∀b cur,gg w b cur→∃cur',gg w' b cur'∧cur'.size=cur.size
 obj:∀(o:Nat)(r:Option Nat)(ob:AObj),ρ[o]? =some r→h[o]? =some ob→ob≠ .res→∃ob',ρ'[o]? =some r∧h'[o]? =some ob'∧qQ ob ob'
 zar:∀(o b z:Nat)(es:List (List PV))(c:Nat)(v:Value),ρ[o]? =some (some b)→h[o]? =some (.zarr z es)→vY z es c→w.cell? ⟨b,c,none⟩=some v→w'.cell? ⟨b,c,none⟩=some v
theorem Go'.refl (M:Nat→Prop)(w:World):Go' M M w w:=⟨Zl _,fun _ _ h=>h,fun _ _ _=>rfl⟩
theorem Ch.refl (M:Nat→Prop)(w:World)(ρ:List (Option Nat))(h:List AObj):Ch M M w w ρ ρ h h:=
 ⟨Go'.refl M w,fun _ cur r=>⟨cur,r,rfl⟩,fun _ _ ob hr ho _=>⟨ob,hr,ho,qQ.refl ob⟩,fun _ _ _ _ _ _ _ _ _ h=>h⟩
theorem Go'.trans {M M' M'':Nat→Prop}{w w' w'':World}(h:Go' M M' w w')(k:Go' M' M'' w' w''):Go' M M'' w w'':=
 ⟨Zc h.size k.size,fun b hb hm=>h.cls b hb (k.cls b (Z3 hb h.size) hm),
  fun b hb hm=>(k.block b (Z3 hb h.size) (fun hm'=>hm (h.cls b hb hm'))).trans (h.block b hb hm)⟩
theorem Ch.trans {M M' M'':Nat→Prop}{w w' w'':World}{ρ ρ' ρ'':List (Option Nat)}{h h' h'':List AObj}(c:Ch M M' w w' ρ ρ' h h')(d:Ch M' M'' w' w'' ρ' ρ'' h' h''):Ch M M'' w w'' ρ ρ'' h h'':=
 ⟨c.go.trans d.go,fun b cur r=>by
  obtain⟨c1,r1,e1⟩:=c.row b cur r
  obtain⟨c2,r2,e2⟩:=d.row b c1 r1
  exact⟨c2,r2,e2.trans e1⟩,
  fun o r ob hr ho hn=>by
   obtain⟨ob1,hr1,ho1,s1⟩:=c.obj o r ob hr ho hn
   obtain⟨ob2,hr2,ho2,s2⟩:=d.obj o r ob1 hr1 ho1 (s1.ne hn)
   exact⟨ob2,hr2,ho2,s1.trans s2⟩,
  fun o b z es p v hr ho hl hv=>by
   obtain⟨ob1,hr1,ho1,s1⟩:=c.obj o _ _ hr ho (by simp)
   obtain⟨es',rfl,_,h2⟩:=s1.zarr
   exact d.zar o b z es' p v hr1 ho1 (h2 p hl) (c.zar o b z es p v hr ho hl hv)⟩
theorem km.sim {M M':Nat→Prop}{w w':World}{ρ ρ':List (Option Nat)}{h h':List AObj}(c:Ch M M' w w' ρ ρ' h h'){ob ob':AObj}{r:Option Nat}{v:Value}(s:qQ ob ob')(hv:km w ob r v)(h1:v.oneCell'=true):km w' ob' r v:=by
 cases ob' with
 |dead=>exact h1
 |box cs=>cases ob<;>simp_all[qQ,km]
 |fbox ps=>exact h1
 |tbox n=>exact h1
 |res=>cases ob<;>simp_all[qQ,km]
 |arr z es=>
  cases ob<;>simp only[qQ]at s
  all_goals
   obtain⟨rfl,e⟩:=s
   cases r with
   |none=>simpa only[km]using hv
   |some b=>
    obtain⟨cur,cap,hr,hs,hl,hc,rfl⟩:=hv
    obtain⟨cur',hr',hs'⟩:=c.row b cur hr
    exact⟨cur',cap,hr',hs'.trans hs,e▸hl,hc,by rw[e]⟩
 |froz z es=>
  cases ob<;>simp only[qQ]at s
  all_goals
   obtain⟨rfl,e⟩:=s
   cases r with
   |none=>simpa only[km]using hv
   |some b=>
    obtain⟨cur,cap,hr,hs,hl,hc,rfl⟩:=hv
    obtain⟨cur',hr',hs'⟩:=c.row b cur hr
    exact⟨cur',cap,hr',hs'.trans hs,e▸hl,hc,by rw[e]⟩
 |darr z es=>
  cases ob<;>simp only[qQ]at s
  all_goals
   obtain⟨rfl,e⟩:=s
   cases r with
   |none=>simpa only[km]using hv
   |some b=>
    obtain⟨cur,cap,hr,hs,hl,hc,rfl⟩:=hv
    obtain⟨cur',hr',hs'⟩:=c.row b cur hr
    exact⟨cur',cap,hr',hs'.trans hs,e▸hl,hc,by rw[e]⟩
 |zarr z es=>
  cases ob<;>simp only[qQ]at s
  all_goals
   obtain⟨rfl,e,_⟩:=s
   cases r with
   |none=>simpa only[km]using hv
   |some b=>
    obtain⟨cur,cap,hr,hs,hl,hc,rfl⟩:=hv
    obtain⟨cur',hr',hs'⟩:=c.row b cur hr
    exact⟨cur',cap,hr',hs'.trans hs,e▸hl,hc,by rw[e]⟩
theorem xP.sim {ob ob':AObj}{r:Option Nat}{i j:Nat}{v:Value}(s:qQ ob ob')(hv:xP ob r i j v):xP ob' r i j v:=by
 cases ob'<;>cases ob<;>simp_all[qQ,xP,AObj.z]
 all_goals
  obtain⟨b,_,rfl⟩:=hv
  exact⟨_,_,rfl⟩
theorem LR.ch {M M':Nat→Prop}{w w':World}{ρ ρ':List (Option Nat)}{h h':List AObj}(c:Ch M M' w w' ρ ρ' h h'){l:L}{v:Value}(r:LR M w ρ h l v):LR M' w' ρ' h' l v:=by
 have h1:=r.one
 cases l with
 |pv p=>exact ap.go c.go p v r
 |ptr o i j=>
  obtain⟨r,ob,hr,ho,hs⟩:=r
  obtain⟨ob',hr',ho',s⟩:=c.obj o r ob hr ho (by rintro rfl;exact hs)
  exact⟨r,ob',hr',ho',hs.sim s⟩
 |ip e j=>
  obtain⟨b,o,rfl,hb,hlt,hr⟩:=r
  exact⟨b,o,rfl,fun k=>hb (c.go.cls b hlt k),Z3 hlt c.go.size,dV.go c.go e b o hb hlt hr⟩
 |arr o=>
  obtain⟨r,ob,hr,ho,hs⟩:=r
  obtain⟨ob',hr',ho',s⟩:=c.obj o r ob hr ho (by rintro rfl;exact hs)
  exact⟨r,ob',hr',ho',km.sim c s hs h1⟩
 |nil=>exact r
 |own z es=>exact r
 |down z es=>exact r
 |fn k caps=>
  obtain⟨f,cs,rfl,hk,hl,hc⟩:=r
  exact⟨f,cs,rfl,hk,hl,fun i e u he hu=>(hc i e u he hu).go c.go⟩
 |tp n=>
  obtain⟨o,b,hr,ho,rfl⟩:=r
  obtain⟨ob',hr',ho',s⟩:=c.obj o _ _ hr ho (by simp)
  cases ob' with
  |tbox m=>obtain rfl:n=m:=s;exact⟨o,b,hr',ho',rfl⟩
  |_=>exact s.elim
 |sub o p=>
  obtain⟨_,b,z,es,hr,ho,hl,hv⟩:=r
  obtain⟨ob',hr',ho',s⟩:=c.obj o _ _ hr ho (by simp)
  obtain⟨es',rfl,_,h2⟩:=s.zarr
  exact⟨h1,b,z,es',hr',ho',h2 p hl,c.zar o b z es p v hr ho hl hv⟩
 |win o l q=>
  obtain⟨_,r,ob,hr,ho,hn,hs⟩:=r
  obtain⟨ob',hr',ho',s⟩:=c.obj o r ob hr ho hn
  refine⟨h1,r,ob',hr',ho',s.ne hn,fun hq=> ?_⟩
  obtain⟨a1,a2⟩:=s.rows hq
  obtain⟨u,hu,hw⟩:=hs a1
  exact⟨u,km.sim c s hu hw.one,a2▸hw⟩
 |junk=>exact r
theorem ru.ch {M M':Nat→Prop}{w w':World}{ρ ρ':List (Option Nat)}{h h':List AObj}(c:Ch M M' w w' ρ ρ' h h'){ls:List L}{vs:List Value}(r:ru M w ρ h ls vs):ru M' w' ρ' h' ls vs:=
 ⟨r.1,fun i l v hl hv=>(r.2 i l v hl hv).ch c⟩
theorem VR.ch {M M':Nat→Prop}{w w':World}{ρ ρ':List (Option Nat)}{h h':List AObj}(c:Ch M M' w w' ρ ρ' h h'){x:V}{v:Value}(r:VR M w ρ h x v):VR M' w' ρ' h' x v:=by
 cases x with
 |one l=>exact LR.ch c r
 |agg ls=>obtain⟨cs,rfl,hl⟩:=r;exact⟨cs,rfl,hl.ch c⟩
 |tup xs=>
  obtain⟨vs,rfl,hl,hr⟩:=r
  refine⟨vs,rfl,hl,fun i x u hx hu=> ?_⟩
  have:=hr i x u hx hu
  split at this
  ·obtain⟨cs,rfl,hl⟩:=this;exact⟨cs,rfl,hl.ch c⟩
  ·exact LR.ch c this
  ·exact this
theorem FR.ch {M M':Nat→Prop}{w w':World}{ρ ρ':List (Option Nat)}{h h':List AObj}(c:Ch M M' w w' ρ ρ' h h'){t:List V}{a:Act}(r:FR M w ρ h t a):FR M' w' ρ' h' t a:=
 ⟨r.defers,r.size,fun i v u hv hu=>(r.tmps i v u hv hu).ch c⟩
theorem FR.put {M:Nat→Prop}{w:World}{ρ:List (Option Nat)}{h:List AObj}{t:List V}{a:Act}(r:FR M w ρ h t a)(d:Option Nat){x:V}{u:Value}(hx:VR M w ρ h x u):FR M w ρ h (Gi.put t d x) (a.put d u):=by
 cases d with
 |none=>exact r
 |some d=>
  refine⟨r.defers,by simp[Gi.put,Act.put,r.size],fun i v u' hv hu=> ?_⟩
  simp only[Gi.put,Act.put]at hv hu
  by_cases e:d=i
  ·subst e
   by_cases hd:d<t.length
   ·rw[Zd hd]at hv
    rw[Xb (by rw[r.size];exact hd)]at hu
    cases hv;cases hu
    exact hx
   ·rw[Yt (by simp;omega)]at hv
    cases hv
  ·rw[Za e]at hv
   rw[Xp e]at hu
   exact r.tmps i v u' hv hu
theorem VR.undef {M:Nat→Prop}{w:World}{ρ:List (Option Nat)}{h:List AObj}:VR M w ρ h (.tup []) Go.undef:=⟨#[],rfl,rfl,fun i x u hx=>by simp at hx⟩
theorem FR.eval {M:Nat→Prop}{w:World}{ρ:List (Option Nat)}{h:List AObj}{t:List V}{a:Act}(r:FR M w ρ h t a)(n:Nat):VR M w ρ h (t.getD n (.tup [])) (a.eval (.tmp n)):=by
 by_cases hn:n<t.length
 ·have h1:t[n]? =some (t.getD n (.tup [])):=by simp[List.getD,hn]
  have h2:a.tmps[n]? =some (a.eval (.tmp n)):=by simp[Act.eval,r.size,hn]
  exact r.tmps n _ _ h1 h2
 ·have h1:t.getD n (.tup [])= .tup []:=by simp[List.getD,Yt (Nat.le_of_not_lt hn)]
  have h2:a.eval (.tmp n)=undef:=by simp[Act.eval,r.size,hn]
  rw[h1,h2]
  exact VR.undef
end Gi
