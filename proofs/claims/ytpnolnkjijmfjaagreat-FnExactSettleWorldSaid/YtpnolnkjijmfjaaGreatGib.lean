/- Of this proof. -/
import Derived.Test.YtpnolnkjijmfjaaGreatGia
import Derived.WalkKit
import Derived.Deep.MidRow
import Derived.Maps.Own
import Derived.Maps.OwnSet
import Derived.Maps.Views
import Derived.Maps.Keyed
set_option linter.all false
namespace Gi
open Go
class KF where
 kf:FuncId->Option Nat
 pr:Program
abbrev kf [KF]:FuncId->Option Nat:=KF.kf
variable {KI:KF}
mutual
def cG (M:Nat->Prop)(w:World):PV->Value->Prop
 | .int k n,v=>v= .int k n
 | .bool b,v=>v= .bool b
 | .str s,v=>v= .string ⟨s.toArray⟩
 | .lst es,v=>(es=[]/\ ∃a c,v= .slice a 0 c) \/
  ∃b o c z,v= .slice (some ⟨b,o,none⟩) es.length c/\ ¬M b/\ b<w.heap.size/\ fX M w z es b o/\ es.length<=c
def gT (M:Nat->Prop)(w:World):List PV->Nat->Nat->Prop
 |[],_,_=>True
 |p::ps,b,o=>(∃v,w.cell? ⟨b,o,none⟩=some v/\ cG M w p v)/\ gT M w ps b (o+1)
def fX (M:Nat->Prop)(w:World)(z:Nat):List (List PV)->Nat->Nat->Prop
 |[],_,_=>True
 |e::es,b,o=>e.length=z/\ gT M w e b o/\ fX M w z es b (o+z)
end
def cG.one {M:Nat->Prop}{w:World}{p:PV}{v:Value}(h:cG M w p v):v.oneCell'=true:=by
 cases p with
 |int k n=>simp only[cG]at h;subst h;rfl
 |bool b=>simp only[cG]at h;subst h;rfl
 |str s=>simp only[cG]at h;subst h;rfl
 |lst es=>simp only[cG]at h;rcases h with⟨_,a,c,rfl⟩|⟨b,o,c,z,rfl,_⟩<;>rfl
structure QH (M M':Nat->Prop) (w w':World):Prop where
 size:w.heap.size<=w'.heap.size
 cls:∀b,b<w.heap.size->M' b->M b
 block:∀b,b<w.heap.size->¬M b->w'.heap[b]? =w.heap[b]?
def QH.cell {M M':Nat->Prop}{w w':World}(h:QH M M' w w'){b o:Nat}{v:Value}(hb:¬M b)(hlt:b<w.heap.size)(hc:w.cell? ⟨b,o,none⟩=some v):w'.cell? ⟨b,o,none⟩=some v:=by unfold World.cell? at*;rw[h.block b hlt hb];exact hc
mutual
def cG.go {M M':Nat->Prop}{w w':World}(h:QH M M' w w'):∀(p:PV)(v:Value),cG M w p v->cG M' w' p v
 | .int _ _,_,r=>by simpa only[cG]using r
 | .bool _,_,r=>by simpa only[cG]using r
 | .str _,_,r=>by simpa only[cG]using r
 | .lst es,v,r=>by simp only[cG]at r⊢;rcases r with r|⟨b,o,c,z,e,hb,hlt,r,ae⟩;exact .inl r;exact .inr ⟨b,o,c,z,e,fun k=>hb (h.cls b hlt k),ZD hlt h.size,fX.go h z es b o hb hlt r,ae⟩
def gT.go {M M':Nat->Prop}{w w':World}(h:QH M M' w w'):∀(ps:List PV)(b o:Nat),¬M b->b<w.heap.size->gT M w ps b o->gT M' w' ps b o
 |[],_,_,_,_,_=>by simp only[gT]
 |p::ps,b,o,hb,hlt,r=>by simp only[gT]at r⊢;obtain⟨⟨v,hc,hv⟩,r⟩:=r;exact⟨⟨v,h.cell hb hlt hc,cG.go h p v hv⟩,gT.go h ps b (o+1) hb hlt r⟩
def fX.go {M M':Nat->Prop}{w w':World}(h:QH M M' w w')(z:Nat):∀(es:List (List PV))(b o:Nat),¬M b->b<w.heap.size->fX M w z es b o->fX M' w' z es b o
 |[],_,_,_,_,_=>by simp only[fX]
 |e::es,b,o,hb,hlt,r=>by simp only[fX]at r⊢;exact⟨r.1,gT.go h e b o hb hlt r.2.1,fX.go h z es b (o+z) hb hlt r.2.2⟩
end
def gT.at {M:Nat->Prop}{w:World}:∀{ps:List PV}{b o j:Nat}{p:PV},gT M w ps b o->ps[j]? =some p->∃v,w.cell? ⟨b,o+j,none⟩=some v/\ cG M w p v
 |[],_,_,_,_,_,hp=>by simp at hp
 |q::ps,b,o,0,p,h,hp=>by simp only[gT]at h;simp at hp;subst hp;simpa using h.1
 |q::ps,b,o,j+1,p,h,hp=>by simp only[gT]at h;have:=gT.at h.2 (j:=j) (p:=p) (by simpa using hp);rwa[show o+1+j=o+(j+1) by omega]at this
def gT.of {M:Nat->Prop}{w:World}:∀{ps:List PV}{b o:Nat},(∀(j:Nat)(p:PV),ps[j]? =some p->∃v,w.cell? ⟨b,o+j,none⟩=some v/\ cG M w p v)->gT M w ps b o
 |[],_,_,_=>by simp only[gT]
 |p::ps,b,o,h=>by simp only[gT];refine⟨by simpa using h 0 p rfl,gT.of fun j q hq=> ?_⟩;have:=h (j+1) q (by simpa using hq);rwa[show o+(j+1)=o+1+j by omega]at this
def fX.at {M:Nat->Prop}{w:World}{z:Nat}:∀{es:List (List PV)}{b o i:Nat}{e:List PV},fX M w z es b o->es[i]? =some e->e.length=z/\ gT M w e b (o+i*z)
 |[],_,_,_,_,_,he=>by simp at he
 |q::es,b,o,0,e,h,he=>by simp only[fX]at h;simp at he;subst he;simpa using⟨h.1,h.2.1⟩
 |q::es,b,o,i+1,e,h,he=>by simp only[fX]at h;have:=fX.at h.2.2 (i:=i) (e:=e) (by simpa using he);rwa[show o+z+i*z=o+(i+1)*z by rw[Nat.add_mul,Yl];omega]at this
def fX.of {M:Nat->Prop}{w:World}{z:Nat}:∀{es:List (List PV)}{b o:Nat},(∀(i:Nat)(e:List PV),es[i]? =some e->e.length=z/\ gT M w e b (o+i*z))->fX M w z es b o
 |[],_,_,_=>by simp only[fX]
 |e::es,b,o,h=>by simp only[fX];have h0:=h 0 e rfl;refine⟨h0.1,by simpa using h0.2,fX.of fun i q hq=> ?_⟩;have:=h (i+1) q (by simpa using hq);rwa[show o+(i+1)*z=o+z+i*z by rw[Nat.add_mul,Yl];omega]at this
def jb (w:World)(b:Nat)(cur:Array Value):Prop:=∃T,w.heap[b]? =some (.cells cur T (0,0))
def jb.lt {w:World}{b:Nat}{cur:Array Value}(h:jb w b cur):b<w.heap.size:=by obtain⟨T,h⟩:=h;exact(Yq.1 h).1
def jb.cell {w:World}{b:Nat}{cur:Array Value}(h:jb w b cur)(i:Nat):w.cell? ⟨b,i,none⟩=cur[i]? :=by obtain⟨T,h⟩:=h;simp[World.cell?,h]
def jb.free {w:World}{b:Nat}{cur:Array Value}(h:jb w b cur)(i:Nat):w.frozen? ⟨b,i,none⟩=false:=by obtain⟨T,h⟩:=h;simp[World.frozen?,h]
def jb.inj {w:World}{b:Nat}{c d:Array Value}(h:jb w b c)(k:jb w b d):c=d:=by obtain⟨T,h⟩:=h;obtain⟨U,k⟩:=k;rw[h]at k;cases k;rfl
def Q0.z :Q0->Nat
 | .arr z _=>z
 | .bI z _=>z
 | .bA z _=>z
 | .bC z _=>z
 |_=>0
def Q0.mut :Q0->Bool
 | .box _=>true
 | .bU _=>true
 | .arr _ _=>true
 | .bA _ _=>true
 | .bC _ _=>true
 |_=>false
def ru (w:World)(ob:Q0)(r:Option Nat)(v:Value):Prop:=
 match ob with
 | .arr z es=>match r with
  |none=>∃ad,v= .slice ad 0 0
  |some b=>∃cur cap,jb w b cur/\ cur.size=cap*z/\ es.length<=cap/\ cap<=maxLen/\ v= .slice (some ⟨b,0,none⟩) es.length cap
 | .bI z es=>match r with
  |none=>∃ad,v= .slice ad 0 0
  |some b=>∃cur cap,jb w b cur/\ cur.size=cap*z/\ es.length<=cap/\ cap<=maxLen/\ v= .slice (some ⟨b,0,none⟩) es.length cap
 | .bA z es=>match r with
  |none=>∃ad,v= .slice ad 0 0
  |some b=>∃cur cap,jb w b cur/\ cur.size=cap*z/\ es.length<=cap/\ cap<=maxLen/\ v= .slice (some ⟨b,0,none⟩) es.length cap
 | .bC z es=>match r with
  |none=>∃ad,v= .slice ad 0 0
  |some b=>∃cur cap,jb w b cur/\ cur.size=cap*z/\ es.length<=cap/\ cap<=maxLen/\ v= .slice (some ⟨b,0,none⟩) es.length cap
 | .res=>False
 |_=>v.oneCell'=true
def CO (ob:Q0)(r:Option Nat)(i j:Nat)(v:Value):Prop:=
 match ob with
 | .dead=>∃b o,v= .pointer (some ⟨b,o,none⟩)
 | .res=>False
 |ob=>∃b,r=some b/\ v= .pointer (some ⟨b,i*ob.z+j,none⟩)
def CM (M:Nat->Prop)(w:World)(e:List PV)(v:Value):Prop:=∃b o,v= .pointer (some ⟨b,o,none⟩)/\ ¬M b/\ b<w.heap.size/\ gT M w e b o
def CM.go {M M':Nat->Prop}{w w':World}(h:QH M M' w w'){e:List PV}{v:Value}(r:CM M w e v):CM M' w' e v:=by obtain⟨b,o,rfl,hb,hlt,hr⟩:=r;exact⟨b,o,rfl,fun k=>hb (h.cls b hlt k),ZD hlt h.size,gT.go h e b o hb hlt hr⟩
def Q0.cK :Q0->Bool
 | .arr _ _=>true
 | .bI _ _=>true
 | .bA _ _=>true
 | .bC _ _=>true
 |_=>false
def ad0 (z l r:Nat)(u v:Value):Prop:=
 (∃b n cap,u= .slice (some ⟨b,0,none⟩) n cap/\ l<=r/\ r<=n/\ v= .slice (if cap=l then some ⟨b,0,none⟩else some ⟨b,l*z,none⟩) (r-l) (cap-l)) \/
  ((∃ad,u= .slice ad 0 0)/\ l=0/\ r=0/\ ∃ad,v= .slice ad 0 0)
def ad0.one {z l r:Nat}{u v:Value}(h:ad0 z l r u v):u.oneCell'=true:=by rcases h with⟨_,_,_,rfl,_⟩|⟨⟨_,rfl⟩,_⟩<;>rfl
def Bm (z:Nat)(es:List (List PV))(c:Nat):Prop:=∃i e j l,es[i]? =some e/\ e[j]? =some (PV.lst l)/\ c=i*z+j
def LR [KF](M:Nat->Prop)(w:World)(J:List (Option Nat))(h:List Q0):L->Value->Prop
 | .pv p,v=>cG M w p v
 | .ptr o i j,v=>∃r ob,J[o]? =some r/\ h[o]? =some ob/\ CO ob r i j v
 | .ip e j,v=>∃b o,v= .pointer (some ⟨b,o+j,none⟩)/\ ¬M b/\ b<w.heap.size/\ gT M w e b o
 | .arr o,v=>∃r ob,J[o]? =some r/\ h[o]? =some ob/\ ru w ob r v
 | .nil,v=>∃ad,v= .slice ad 0 0
 | .own _ _,_=>False
 | .down _ _,_=>False
 | .fn k caps,v=>∃f cs,v= .func (.func f) #[] cs/\ kf f=some k/\ caps.length=cs.size/\ ∀(i:Nat)(e:List PV)(u:Value),caps[i]? =some e->cs[i]? =some u->CM M w e u
 | .tp n,v=>∃(o b:Nat),J[o]? =some (some b)/\ h[o]? =some (Q0.bU n)/\ v= .pointer (some ⟨b,0,none⟩)
 | .sub o c,v=>v.oneCell'=true/\ ∃b z es,J[o]? =some (some b)/\ h[o]? =some (Q0.bC z es)/\ Bm z es c/\ w.cell? ⟨b,c,none⟩=some v
 | .cB o l r,v=>v.oneCell'=true/\ ∃q ob,J[o]? =some q/\ h[o]? =some ob/\ ob≠ .res/\ (ob.cK=true->∃u,ru w ob q u/\ ad0 ob.z l r u v)
 | .bw,v=>v.oneCell'=true
def xc [KF](M:Nat->Prop)(w:World)(J:List (Option Nat))(h:List Q0)(ls:List L)(vs:List Value):Prop:=
 ls.length=vs.length/\ ∀(i:Nat)(l:L)(v:Value),ls[i]? =some l->vs[i]? =some v->LR M w J h l v
def VR [KF](M:Nat->Prop)(w:World)(J:List (Option Nat))(h:List Q0):V->Value->Prop
 | .one l,v=>LR M w J h l v
 | .agg ls,v=>∃cs,v= .agg cs/\ xc M w J h ls cs.toList
 | .b8 xs,v=>∃vs,v= .tuple vs/\ xs.length=vs.size/\ ∀(i:Nat)(x:Bool×List L)(u:Value),xs[i]? =some x->vs[i]? =some u->
  match x with
  |(true,ls)=>∃cs,u= .agg cs/\ xc M w J h ls cs.toList
  |(false,[l])=>LR M w J h l u
  |_=>False
def BI [KF](M:Nat->Prop)(base:Nat)(w:World)(J:List (Option Nat))(h:List Q0)(r:Option Nat):Q0->Prop
 | .box cs=>∃b cur,r=some b/\ base<=b/\ jb w b cur/\ xc M w J h cs cur.toList
 | .arr z es=>0<z/\ (∀e∈es,e.length=z)/\ match r with
  |none=>es=[]
  |some b=>base<=b/\ ∃cur cap,jb w b cur/\ cur.size=cap*z/\ es.length<=cap/\ cap<=maxLen/\
   ∀(i:Nat)(e:List PV)(j:Nat)(p:PV),es[i]? =some e->e[j]? =some p->∃v,cur[i*z+j]? =some v/\ cG M w p v
 | .bI z es=>0<z/\ (∀e∈es,e.length=z)/\ match r with
  |none=>es=[]
  |some b=>¬M b/\ ∃cur cap,jb w b cur/\ cur.size=cap*z/\ es.length<=cap/\ cap<=maxLen/\
   ∀(i:Nat)(e:List PV)(j:Nat)(p:PV),es[i]? =some e->e[j]? =some p->∃v,cur[i*z+j]? =some v/\ cG M w p v
 | .bA z es=>0<z/\ (∀e∈es,e.length=z)/\ match r with
  |none=>es=[]
  |some b=>base<=b/\ ∃cur cap,jb w b cur/\ cur.size=cap*z/\ es.length<=cap/\ cap<=maxLen/\
   ∀(i:Nat)(e:List PV)(j:Nat)(p:PV),es[i]? =some e->e[j]? =some p->∃v,cur[i*z+j]? =some v/\ cG M w p v
 | .bC z es=>0<z/\ (∀e∈es,e.length=z)/\ match r with
  |none=>es=[]
  |some b=>base<=b/\ ∃cur cap,jb w b cur/\ cur.size=cap*z/\ es.length<=cap/\ cap<=maxLen
 | .bM ps=>∃b cur,r=some b/\ ¬M b/\ jb w b cur/\ ps.length=cur.size/\ ∀(j:Nat)(p:PV),ps[j]? =some p->∃v,cur[j]? =some v/\ cG M w p v
 | .bU n=>∃b cur,r=some b/\ base<=b/\ jb w b cur/\ cur.size=n
 | .dead=>True
 | .res=>r=none
def Mu (M0:Nat->Prop)(J:List (Option Nat))(h:List Q0)(b:Nat):Prop:=
 M0 b \/∃(o:Nat)(ob:Q0),h[o]? =some ob/\ ob.mut=true/\ J[o]? =some (some b)
mutual
def io (κ:Nat->List Nat)(lo:Nat)(w:World):PV->List Nat->Value->Prop
 | .int k n,_,v=>v= .int k n
 | .bool b,_,v=>v= .bool b
 | .str s,_,v=>v= .string ⟨s.toArray⟩
 | .lst es,π,v=>(es=[]/\ ∃a c,v= .slice a 0 c) \/
  ∃b c z cur,v= .slice (some ⟨b,0,none⟩) es.length c/\ lo<=b/\ κ b=π/\ 0<z/\ jb w b cur/\ cur.size=c*z/\ es.length<=c/\ c<=maxLen/\ hJ κ lo w z es π b 0
def jI (κ:Nat->List Nat)(lo:Nat)(w:World):List PV->List Nat->Nat->Nat->Prop
 |[],_,_,_=>True
 |p::ps,π,b,o=>(∃v,w.cell? ⟨b,o,none⟩=some v/\ io κ lo w p (π++[o]) v)/\ jI κ lo w ps π b (o+1)
def hJ (κ:Nat->List Nat)(lo:Nat)(w:World)(z:Nat):List (List PV)->List Nat->Nat->Nat->Prop
 |[],_,_,_=>True
 |e::es,π,b,o=>e.length=z/\ jI κ lo w e π b o/\ hJ κ lo w z es π b (o+z)
end
def Gf (κ κ':Nat->List Nat)(w w':World)(π π':List Nat):Prop:=
 ∀b X,b<w.heap.size->κ b=π++X->κ' b=π'++X/\ w'.heap[b]? =w.heap[b]?
def Gf.sub {κ κ':Nat->List Nat}{w w':World}{π π':List Nat}(h:Gf κ κ' w w' π π')(o:List Nat):Gf κ κ' w w' (π++o) (π'++o):=fun b X hb e=>by have:=h b (o++X) hb (by rw[e,List.append_assoc]);rwa[<-List.append_assoc]at this
mutual
def io.go {κ κ':Nat->List Nat}{lo a6:Nat}{w w':World}(a7:a6<=lo):∀(p:PV)(π π':List Nat)(v:Value),Gf κ κ' w w' π π'->io κ lo w p π v->io κ' a6 w' p π' v
 | .int _ _,_,_,_,_,r=>by simpa only[io]using r
 | .bool _,_,_,_,_,r=>by simpa only[io]using r
 | .str _,_,_,_,_,r=>by simpa only[io]using r
 | .lst es,π,π',v,h,r=>by
  simp only[io]at r⊢;rcases r with r|⟨b,c,z,cur,e,hb,hk,hz,hr,h1,h2,h3,ht⟩;exact .inl r;obtain⟨q1,q2⟩:=h b [] hr.lt (by simp[hk]);have hc:∀o,w'.cell? ⟨b,o,none⟩=w.cell? ⟨b,o,none⟩:=fun o=>by unfold World.cell?;rw[q2]
  exact .inr ⟨b,c,z,cur,e,Zc a7 hb,by simpa using q1,hz,by obtain⟨T,hr⟩:=hr;exact⟨T,q2.trans hr⟩,h1,h2,h3,hJ.go a7 z es π π' b 0 h hc ht⟩
def jI.go {κ κ':Nat->List Nat}{lo a6:Nat}{w w':World}(a7:a6<=lo):∀(ps:List PV)(π π':List Nat)(b o:Nat),Gf κ κ' w w' π π'->(∀o,w'.cell? ⟨b,o,none⟩=w.cell? ⟨b,o,none⟩)->jI κ lo w ps π b o->jI κ' a6 w' ps π' b o
 |[],_,_,_,_,_,_,_=>by simp only[jI]
 |p::ps,π,π',b,o,h,hc,r=>by simp only[jI]at r⊢;obtain⟨⟨v,hv,hp⟩,r⟩:=r;exact⟨⟨v,(hc o).trans hv,io.go a7 p _ _ v (h.sub [o]) hp⟩,jI.go a7 ps π π' b (o+1) h hc r⟩
def hJ.go {κ κ':Nat->List Nat}{lo a6:Nat}{w w':World}(a7:a6<=lo)(z:Nat):∀(es:List (List PV))(π π':List Nat)(b o:Nat),Gf κ κ' w w' π π'->(∀o,w'.cell? ⟨b,o,none⟩=w.cell? ⟨b,o,none⟩)->hJ κ lo w z es π b o->hJ κ' a6 w' z es π' b o
 |[],_,_,_,_,_,_,_=>by simp only[hJ]
 |e::es,π,π',b,o,h,hc,r=>by simp only[hJ]at r⊢;exact⟨r.1,jI.go a7 e π π' b o h hc r.2.1,hJ.go a7 z es π π' b (o+z) h hc r.2.2⟩
end
def io.one {κ:Nat->List Nat}{lo:Nat}{w:World}{p:PV}{π:List Nat}{v:Value}(h:io κ lo w p π v):v.oneCell'=true:=by
 cases p with
 |int k n=>simp only[io]at h;subst h;rfl
 |bool b=>simp only[io]at h;subst h;rfl
 |str s=>simp only[io]at h;subst h;rfl
 |lst es=>simp only[io]at h;rcases h with⟨_,a,c,rfl⟩|⟨b,c,z,cur,rfl,_⟩<;>rfl
def jI.of {κ:Nat->List Nat}{lo:Nat}{w:World}:∀{ps:List PV}{π:List Nat}{b o:Nat},(∀(j:Nat)(p:PV),ps[j]? =some p->∃v,w.cell? ⟨b,o+j,none⟩=some v/\ io κ lo w p (π++[o+j]) v)->jI κ lo w ps π b o
 |[],_,_,_,_=>by simp only[jI]
 |p::ps,π,b,o,h=>by simp only[jI];refine⟨by simpa using h 0 p rfl,jI.of fun j q hq=> ?_⟩;have:=h (j+1) q (by simpa using hq);rwa[show o+(j+1)=o+1+j by omega]at this
def jI.at {κ:Nat->List Nat}{lo:Nat}{w:World}:∀{ps:List PV}{π:List Nat}{b o j:Nat}{p:PV},jI κ lo w ps π b o->ps[j]? =some p->∃v,w.cell? ⟨b,o+j,none⟩=some v/\ io κ lo w p (π++[o+j]) v
 |[],_,_,_,_,_,_,hp=>by simp at hp
 |q::ps,π,b,o,0,p,h,hp=>by simp only[jI]at h;simp at hp;subst hp;simpa using h.1
 |q::ps,π,b,o,j+1,p,h,hp=>by simp only[jI]at h;have:=jI.at h.2 (j:=j) (p:=p) (by simpa using hp);rwa[show o+1+j=o+(j+1) by omega]at this
def hJ.of {κ:Nat->List Nat}{lo:Nat}{w:World}{z:Nat}:∀{es:List (List PV)}{π:List Nat}{b o:Nat},(∀(i:Nat)(e:List PV),es[i]? =some e->e.length=z/\ jI κ lo w e π b (o+i*z))->hJ κ lo w z es π b o
 |[],_,_,_,_=>by simp only[hJ]
 |e::es,π,b,o,h=>by simp only[hJ];have h0:=h 0 e rfl;refine⟨h0.1,by simpa using h0.2,hJ.of fun i q hq=> ?_⟩;have:=h (i+1) q (by simpa using hq);rwa[show o+(i+1)*z=o+z+i*z by rw[Nat.add_mul,Yl];omega]at this
def hJ.at {κ:Nat->List Nat}{lo:Nat}{w:World}{z:Nat}:∀{es:List (List PV)}{π:List Nat}{b o i:Nat}{e:List PV},hJ κ lo w z es π b o->es[i]? =some e->e.length=z/\ jI κ lo w e π b (o+i*z)
 |[],_,_,_,_,_,_,he=>by simp at he
 |q::es,π,b,o,0,e,h,he=>by simp only[hJ]at h;simp at he;subst he;simpa using⟨h.1,h.2.1⟩
 |q::es,π,b,o,i+1,e,h,he=>by simp only[hJ]at h;have:=hJ.at h.2.2 (i:=i) (e:=e) (by simpa using he);rwa[show o+z+i*z=o+(i+1)*z by rw[Nat.add_mul,Yl];omega]at this
def vY (κ:Nat->List Nat)(lo:Nat)(w:World)(z:Nat)(es:List (List PV))(π:List Nat)(b:Nat):Prop:=
 ∀(i:Nat)(e:List PV)(j:Nat)(p:PV),es[i]? =some e->e[j]? =some p->∃v,w.cell? ⟨b,i*z+j,none⟩=some v/\ io κ lo w p (π++[i*z+j]) v
def vY.ll {κ:Nat->List Nat}{lo:Nat}{w:World}{z:Nat}{es:List (List PV)}{π:List Nat}{b:Nat}(hz:∀e∈es,e.length=z)(h:vY κ lo w z es π b):hJ κ lo w z es π b 0:=
 hJ.of fun i e he=>⟨hz e (Zn he),jI.of fun j p hp=>by simpa using h i e j p he hp⟩
def hJ.cells {κ:Nat->List Nat}{lo:Nat}{w:World}{z:Nat}{es:List (List PV)}{π:List Nat}{b:Nat}(h:hJ κ lo w z es π b 0):vY κ lo w z es π b:=fun i e j p he hp=>by have:=(h.at he).2.at hp;simpa using this
def vY.go {κ κ':Nat->List Nat}{lo a6:Nat}{w w':World}{z:Nat}{es:List (List PV)}{π π':List Nat}{b b':Nat}(a7:a6<=lo)(hc:∀o,o<es.length*z->w'.cell? ⟨b',o,none⟩=w.cell? ⟨b,o,none⟩)(hz:∀e∈es,e.length=z)(hm:∀c,Gf κ κ' w w' (π++[c]) (π'++[c]))(h:vY κ lo w z es π b):vY κ' a6 w' z es π' b':=fun i e j p he hp=>by
 obtain⟨v,hv,ht⟩:=h i e j p he hp;have hi:=(Zb.1 he).1;have hj:=(Zb.1 hp).1;rw[hz e (Zn he)]at hj;refine⟨v,(hc _ ?_).trans hv,io.go a7 p _ _ v (hm _) ht⟩;calc i*z+j<i*z+z:=by omega
  _=(i+1)*z:=by rw[Nat.add_mul,Yl]
  _<=es.length*z:=ZE _ hi
def Q0.deep :Q0->Option (Nat×List (List PV))
 | .bA z es=>some (z,es)
 | .bC z es=>some (z,es)
 |_=>none
structure Deep (κ:Nat->List Nat) (base:Nat) (w:World) (J:List (Option Nat)) (h:List Q0):Prop where
 root:∀(o:Nat)(ob:Q0)(b:Nat),h[o]? =some ob->ob.mut=true->J[o]? =some (some b)->κ b=[o]
 tree:∀(o:Nat)(ob:Q0)(z:Nat)(es:List (List PV))(b:Nat),h[o]? =some ob->ob.deep=some (z,es)->J[o]? =some (some b)->vY κ base w z es [o] b
structure HR0 [KF] (M0:Nat->Prop) (base:Nat) (w:World) (J:List (Option Nat)) (h:List Q0):Prop where
 len:J.length=h.length
 old:∀b,M0 b->b<w.heap.size/\ ∀(o:Nat)(ob:Q0),h[o]? =some ob->ob.mut=true->J[o]? ≠some (some b)
 le:base<=w.heap.size
 objs:∀(o:Nat)(ob:Q0)(r:Option Nat),h[o]? =some ob->J[o]? =some r->BI (Mu M0 J h) base w J h r ob
 apart:∀(o o':Nat)(ob ob':Q0)(b:Nat),h[o]? =some ob->h[o']? =some ob'->ob.mut=true->ob'.mut=true->J[o]? =some (some b)->J[o']? =some (some b)->o=o'
structure Zon (κ:Nat->List Nat) (M0:Nat->Prop) (w:World) (h:List Q0):Prop where
 new:∀b,w.heap.size<=b->κ b=[]
 zone:∀(b o c:Nat)(X:List Nat)(z:Nat)(es:List (List PV)),κ b=o::c::X->h[o]? =some (.bC z es)->M0 b
structure HR [KF] (M0:Nat->Prop) (base:Nat) (w:World) (J:List (Option Nat)) (h:List Q0):Prop extends HR0 M0 base w J h where
 deep:∃κ,Deep κ base w J h/\ Zon κ M0 w h
structure FR [KF] (M:Nat->Prop) (w:World) (J:List (Option Nat)) (h:List Q0) (t:List V) (a:Act):Prop where
 defers:a.defers=[]
 size:a.tmps.size=t.length
 tmps:∀(i:Nat)(v:V)(u:Value),t[i]? =some v->a.tmps[i]? =some u->VR M w J h v u
structure Ctx where
 G:World->Prop
 B0:Nat
 keep:∀w w',G w->Go.RowKit.Below B0 w w'->G w'
 size:∀w,G w->B0<=w.heap.size
structure SR [KF] (Γ:Ctx) (M0:Nat->Prop) (base:Nat) (Z:St) (a:Act) (w:World) (J:List (Option Nat)):Prop where
 hr:HR M0 base w J Z.h
 fr:FR (Mu M0 J Z.h) w J Z.h Z.t a
 inv:Γ.G w
 b0:Γ.B0<=base
def LR.one {M:Nat->Prop}{w:World}{J:List (Option Nat)}{h:List Q0}{l:L}{v:Value}(r:LR M w J h l v):v.oneCell'=true:=by
 cases l with
 |pv p=>exact cG.one r
 |ptr o i j=>obtain⟨r,ob,_,_,hs⟩:=r;unfold CO at hs;split at hs;obtain⟨b,_,rfl⟩:=hs;rfl;exact hs.elim;obtain⟨b,_,rfl⟩:=hs;rfl
 |ip e j=>obtain⟨b,o,rfl,_⟩:=r;rfl
 |arr o=>obtain⟨r,ob,_,_,hs⟩:=r;unfold ru at hs;split at hs;split at hs;obtain⟨_,rfl⟩:=hs;rfl;obtain⟨_,_,_,_,_,_,rfl⟩:=hs;rfl;split at hs;obtain⟨_,rfl⟩:=hs;rfl;obtain⟨_,_,_,_,_,_,rfl⟩:=hs;rfl;split at hs;obtain⟨_,rfl⟩:=hs;rfl;obtain⟨_,_,_,_,_,_,rfl⟩:=hs;rfl;split at hs;obtain⟨_,rfl⟩:=hs;rfl;obtain⟨_,_,_,_,_,_,rfl⟩:=hs;rfl;exact hs.elim;exact hs
 |nil=>obtain⟨_,rfl⟩:=r;rfl
 |own z es=>exact r.elim
 |down z es=>exact r.elim
 |fn k caps=>obtain⟨f,cs,rfl,_⟩:=r;rfl
 |tp n=>obtain⟨o,b,_,_,rfl⟩:=r;rfl
 |sub o c=>exact r.1
 |cB o l q=>exact r.1
 |bw=>exact r
def wx :Q0->Q0->Prop
 | .res, .res=>True
 | .res,_=>False
 | .bC z es, .bC z' es'=>z=z'/\ es.length=es'.length/\ ∀c,Bm z es c->Bm z es' c
 | .bC _ _,_=>False
 | .bU n, .bU m=>n=m
 | .bU _,_=>False
 |_, .dead=>True
 | .box _, .box _=>True
 | .box _, .bM _=>True
 | .bM _, .bM _=>True
 | .arr z es, .arr z' es'=>z=z'/\ es.length=es'.length
 | .arr z es, .bI z' es'=>z=z'/\ es.length=es'.length
 | .bI z es, .bI z' es'=>z=z'/\ es.length=es'.length
 | .arr z es, .bA z' es'=>z=z'/\ es.length=es'.length
 | .bA z es, .bA z' es'=>z=z'/\ es.length=es'.length
 | .bA z es, .arr z' es'=>z=z'/\ es.length=es'.length
 | .bA z es, .bI z' es'=>z=z'/\ es.length=es'.length
 |_,_=>False
def wx.refl (ob:Q0):wx ob ob:=by cases ob<;>simp[wx]
def wx.trans {a b c:Q0}(h:wx a b)(k:wx b c):wx a c:=by
 cases a<;>cases b<;>cases c<;>first
  |(simp_all[wx];done)
  |exact⟨h.1.trans k.1,h.2.1.trans k.2.1,fun c hc=>h.1▸k.2.2 c (h.1▸h.2.2 c hc)⟩
def wx.ne {a b:Q0}(s:wx a b)(h:a≠ .res):b≠ .res:=by rintro rfl;cases a<;>first|exact h rfl|exact s.elim|(simp[wx]at s;done)
def wx.rows {a b:Q0}(s:wx a b)(h:b.cK=true):a.cK=true/\ b.z=a.z:=by cases a<;>cases b<;>simp_all[wx,Q0.cK,Q0.z]
def wx.bC {z:Nat}{es:List (List PV)}{ob:Q0}(h:wx (.bC z es) ob):∃es',ob= .bC z es'/\ es.length=es'.length/\ ∀c,Bm z es c->Bm z es' c:=by
 cases ob<;>first
  |exact h.elim
  |(obtain⟨rfl,h1,h2⟩:=h;exact⟨_,rfl,h1,h2⟩)
structure Ch (M M':Nat->Prop) (w w':World) (J J':List (Option Nat)) (h h':List Q0):Prop where
 go:QH M M' w w'
 row:∀b cur,jb w b cur->∃cur',jb w' b cur'/\ cur'.size=cur.size
 obj:∀(o:Nat)(r:Option Nat)(ob:Q0),J[o]? =some r->h[o]? =some ob->ob≠ .res->∃ob',J'[o]? =some r/\ h'[o]? =some ob'/\ wx ob ob'
 zar:∀(o b z:Nat)(es:List (List PV))(c:Nat)(v:Value),J[o]? =some (some b)->h[o]? =some (.bC z es)->Bm z es c->w.cell? ⟨b,c,none⟩=some v->w'.cell? ⟨b,c,none⟩=some v
def QH.refl (M:Nat->Prop)(w:World):QH M M w w:=⟨Zi _,fun _ _ h=>h,fun _ _ _=>rfl⟩
def Ch.refl (M:Nat->Prop)(w:World)(J:List (Option Nat))(h:List Q0):Ch M M w w J J h h:=
 ⟨QH.refl M w,fun _ cur r=>⟨cur,r,rfl⟩,fun _ _ ob hr ho _=>⟨ob,hr,ho,wx.refl ob⟩,fun _ _ _ _ _ _ _ _ _ h=>h⟩
def QH.trans {M M' aa:Nat->Prop}{w w' ab:World}(h:QH M M' w w')(k:QH M' aa w' ab):QH M aa w ab:=
 ⟨Zc h.size k.size,fun b hb hm=>h.cls b hb (k.cls b (ZD hb h.size) hm),
  fun b hb hm=>(k.block b (ZD hb h.size) (fun ak=>hm (h.cls b hb ak))).trans (h.block b hb hm)⟩
def Ch.trans {M M' aa:Nat->Prop}{w w' ab:World}{J J' ah:List (Option Nat)}{h h' ai:List Q0}(c:Ch M M' w w' J J' h h')(d:Ch M' aa w' ab J' ah h' ai):Ch M aa w ab J ah h ai:=
 ⟨c.go.trans d.go,fun b cur r=>by
  obtain⟨c1,r1,e1⟩:=c.row b cur r
  obtain⟨c2,r2,e2⟩:=d.row b c1 r1
  exact⟨c2,r2,e2.trans e1⟩,
  fun o r ob hr ho hn=>by obtain⟨aj,af,ag,s1⟩:=c.obj o r ob hr ho hn;obtain⟨al,an,ao,s2⟩:=d.obj o r aj af ag (s1.ne hn);exact⟨al,an,ao,s1.trans s2⟩,
  fun o b z es p v hr ho hl hv=>by
   obtain⟨aj,af,ag,s1⟩:=c.obj o _ _ hr ho (by simp)
   obtain⟨es',rfl,_,h2⟩:=s1.bC
   exact d.zar o b z es' p v af ag (h2 p hl) (c.zar o b z es p v hr ho hl hv)⟩
def ru.ck {M M':Nat->Prop}{w w':World}{J J':List (Option Nat)}{h h':List Q0}(c:Ch M M' w w' J J' h h'){ob ob':Q0}{r:Option Nat}{v:Value}(s:wx ob ob')(hv:ru w ob r v)(h1:v.oneCell'=true):ru w' ob' r v:=by
 cases ob' with
 |dead=>exact h1
 |box cs=>cases ob<;>simp_all[wx,ru]
 |bM ps=>exact h1
 |bU n=>exact h1
 |res=>cases ob<;>simp_all[wx,ru]
 |arr z es=>
  cases ob<;>simp only[wx]at s;all_goals
   obtain⟨rfl,e⟩:=s
   cases r with
   |none=>simpa only[ru]using hv
   |some b=>
    obtain⟨cur,cap,hr,hs,hl,hc,rfl⟩:=hv
    obtain⟨cur',a5,a8⟩:=c.row b cur hr
    exact⟨cur',cap,a5,a8.trans hs,e▸hl,hc,by rw[e]⟩
 |bI z es=>
  cases ob<;>simp only[wx]at s;all_goals
   obtain⟨rfl,e⟩:=s
   cases r with
   |none=>simpa only[ru]using hv
   |some b=>
    obtain⟨cur,cap,hr,hs,hl,hc,rfl⟩:=hv
    obtain⟨cur',a5,a8⟩:=c.row b cur hr
    exact⟨cur',cap,a5,a8.trans hs,e▸hl,hc,by rw[e]⟩
 |bA z es=>
  cases ob<;>simp only[wx]at s;all_goals
   obtain⟨rfl,e⟩:=s
   cases r with
   |none=>simpa only[ru]using hv
   |some b=>
    obtain⟨cur,cap,hr,hs,hl,hc,rfl⟩:=hv
    obtain⟨cur',a5,a8⟩:=c.row b cur hr
    exact⟨cur',cap,a5,a8.trans hs,e▸hl,hc,by rw[e]⟩
 |bC z es=>
  cases ob<;>simp only[wx]at s;all_goals
   obtain⟨rfl,e,_⟩:=s
   cases r with
   |none=>simpa only[ru]using hv
   |some b=>
    obtain⟨cur,cap,hr,hs,hl,hc,rfl⟩:=hv
    obtain⟨cur',a5,a8⟩:=c.row b cur hr
    exact⟨cur',cap,a5,a8.trans hs,e▸hl,hc,by rw[e]⟩
def CO.ck {ob ob':Q0}{r:Option Nat}{i j:Nat}{v:Value}(s:wx ob ob')(hv:CO ob r i j v):CO ob' r i j v:=by
 cases ob'<;>cases ob<;>simp_all[wx,CO,Q0.z];all_goals
  obtain⟨b,_,rfl⟩:=hv
  exact⟨_,_,rfl⟩
def LR.ch {M M':Nat->Prop}{w w':World}{J J':List (Option Nat)}{h h':List Q0}(c:Ch M M' w w' J J' h h'){l:L}{v:Value}(r:LR M w J h l v):LR M' w' J' h' l v:=by
 have h1:=r.one;cases l with
 |pv p=>exact cG.go c.go p v r
 |ptr o i j=>obtain⟨r,ob,hr,ho,hs⟩:=r;obtain⟨ob',a5,ho',s⟩:=c.obj o r ob hr ho (by rintro rfl;exact hs);exact⟨r,ob',a5,ho',hs.ck s⟩
 |ip e j=>obtain⟨b,o,rfl,hb,hlt,hr⟩:=r;exact⟨b,o,rfl,fun k=>hb (c.go.cls b hlt k),ZD hlt c.go.size,gT.go c.go e b o hb hlt hr⟩
 |arr o=>obtain⟨r,ob,hr,ho,hs⟩:=r;obtain⟨ob',a5,ho',s⟩:=c.obj o r ob hr ho (by rintro rfl;exact hs);exact⟨r,ob',a5,ho',ru.ck c s hs h1⟩
 |nil=>exact r
 |own z es=>exact r
 |down z es=>exact r
 |fn k caps=>obtain⟨f,cs,rfl,hk,hl,hc⟩:=r;exact⟨f,cs,rfl,hk,hl,fun i e u he hu=>(hc i e u he hu).go c.go⟩
 |tp n=>
  obtain⟨o,b,hr,ho,rfl⟩:=r;obtain⟨ob',a5,ho',s⟩:=c.obj o _ _ hr ho (by simp);cases ob' with
  |bU m=>obtain rfl:n=m:=s;exact⟨o,b,a5,ho',rfl⟩
  |_=>exact s.elim
 |sub o p=>obtain⟨_,b,z,es,hr,ho,hl,hv⟩:=r;obtain⟨ob',a5,ho',s⟩:=c.obj o _ _ hr ho (by simp);obtain⟨es',rfl,_,h2⟩:=s.bC;exact⟨h1,b,z,es',a5,ho',h2 p hl,c.zar o b z es p v hr ho hl hv⟩
 |cB o l q=>obtain⟨_,r,ob,hr,ho,hn,hs⟩:=r;obtain⟨ob',a5,ho',s⟩:=c.obj o r ob hr ho hn;refine⟨h1,r,ob',a5,ho',s.ne hn,fun hq=> ?_⟩;obtain⟨a1,a2⟩:=s.rows hq;obtain⟨u,hu,hw⟩:=hs a1;exact⟨u,ru.ck c s hu hw.one,a2▸hw⟩
 |bw=>exact r
def xc.ch {M M':Nat->Prop}{w w':World}{J J':List (Option Nat)}{h h':List Q0}(c:Ch M M' w w' J J' h h'){ls:List L}{vs:List Value}(r:xc M w J h ls vs):xc M' w' J' h' ls vs:=
 ⟨r.1,fun i l v hl hv=>(r.2 i l v hl hv).ch c⟩
def VR.ch {M M':Nat->Prop}{w w':World}{J J':List (Option Nat)}{h h':List Q0}(c:Ch M M' w w' J J' h h'){x:V}{v:Value}(r:VR M w J h x v):VR M' w' J' h' x v:=by
 cases x with
 |one l=>exact LR.ch c r
 |agg ls=>obtain⟨cs,rfl,hl⟩:=r;exact⟨cs,rfl,hl.ch c⟩
 |b8 xs=>obtain⟨vs,rfl,hl,hr⟩:=r;refine⟨vs,rfl,hl,fun i x u hx hu=> ?_⟩;have:=hr i x u hx hu;split at this;obtain⟨cs,rfl,hl⟩:=this;exact⟨cs,rfl,hl.ch c⟩;exact LR.ch c this;exact this
def FR.ch {M M':Nat->Prop}{w w':World}{J J':List (Option Nat)}{h h':List Q0}(c:Ch M M' w w' J J' h h'){t:List V}{a:Act}(r:FR M w J h t a):FR M' w' J' h' t a:=
 ⟨r.defers,r.size,fun i v u hv hu=>(r.tmps i v u hv hu).ch c⟩
def FR.put {M:Nat->Prop}{w:World}{J:List (Option Nat)}{h:List Q0}{t:List V}{a:Act}(r:FR M w J h t a)(d:Option Nat){x:V}{u:Value}(hx:VR M w J h x u):FR M w J h (Gi.put t d x) (a.put d u):=by
 cases d with
 |none=>exact r
 |some d=>refine⟨r.defers,by simp[Gi.put,Act.put,r.size],fun i v u' hv hu=> ?_⟩;simp only[Gi.put,Act.put]at hv hu;by_cases e:d=i;subst e;by_cases hd:d<t.length;rw[Zd hd]at hv;rw[YG (by rw[r.size];exact hd)]at hu;cases hv;cases hu;exact hx;rw[ZT (by simp;omega)]at hv;cases hv;rw[Za e]at hv;rw[YR e]at hu;exact r.tmps i v u' hv hu
def VR.undef {M:Nat->Prop}{w:World}{J:List (Option Nat)}{h:List Q0}:VR M w J h (.b8 []) Go.undef:=⟨#[],rfl,rfl,fun i x u hx=>by simp at hx⟩
def FR.eval {M:Nat->Prop}{w:World}{J:List (Option Nat)}{h:List Q0}{t:List V}{a:Act}(r:FR M w J h t a)(n:Nat):VR M w J h (t.getD n (.b8 [])) (a.eval (.tmp n)):=by
 by_cases hn:n<t.length;have h1:t[n]? =some (t.getD n (.b8 [])):=by simp[List.getD,hn]
 have h2:a.tmps[n]? =some (a.eval (.tmp n)):=by simp[Act.eval,r.size,hn]
 exact r.tmps n _ _ h1 h2;have h1:t.getD n (.b8 [])= .b8 []:=by simp[List.getD,ZT (K' hn)]
 have h2:a.eval (.tmp n)=undef:=by simp[Act.eval,r.size,hn]
 rw[h1,h2];exact VR.undef
end Gi
