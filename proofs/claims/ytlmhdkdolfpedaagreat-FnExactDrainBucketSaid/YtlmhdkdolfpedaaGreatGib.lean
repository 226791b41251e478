/- Of this proof. -/
import Derived.Test.YtlmhdkdolfpedaaGreatGia
import Derived.WalkKit
import Derived.Deep.MidRow
import Derived.Maps.Own
import Derived.Maps.OwnSet
import Derived.Maps.Views
import Derived.Maps.Keyed
set_option linter.all false
namespace Gi
open Go
class KF where
 kf:FuncId->Option Nat
 pr:Program
abbrev kf [KF]:FuncId->Option Nat:=KF.kf
variable {KI:KF}
mutual
def cE (M:Nat->Prop)(w:World):PV->Value->Prop
 | .int k n,v=>v= .int k n
 | .bool b,v=>v= .bool b
 | .str s,v=>v= .string ⟨s.toArray⟩
 | .lst es,v=>(es=[]/\ ∃a c,v= .slice a 0 c) \/
  ∃b o c z,v= .slice (some ⟨b,o,none⟩) es.length c/\ ¬M b/\ b<w.heap.size/\ fW M w z es b o/\ es.length<=c
def gR (M:Nat->Prop)(w:World):List PV->Nat->Nat->Prop
 |[],_,_=>True
 |p::ps,b,o=>(∃v,w.cell? ⟨b,o,none⟩=some v/\ cE M w p v)/\ gR M w ps b (o+1)
def fW (M:Nat->Prop)(w:World)(z:Nat):List (List PV)->Nat->Nat->Prop
 |[],_,_=>True
 |e::es,b,o=>e.length=z/\ gR M w e b o/\ fW M w z es b (o+z)
end
def cE.one {M:Nat->Prop}{w:World}{p:PV}{v:Value}(h:cE M w p v):v.oneCell'=true:=by
 cases p with
 |int k n=>simp only[cE]at h;subst h;rfl
 |bool b=>simp only[cE]at h;subst h;rfl
 |str s=>simp only[cE]at h;subst h;rfl
 |lst es=>simp only[cE]at h;rcases h with⟨_,a,c,rfl⟩|⟨b,o,c,z,rfl,_⟩<;>rfl
structure QH (M M':Nat->Prop) (w w':World):Prop where
 size:w.heap.size<=w'.heap.size
 cls:∀b,b<w.heap.size->M' b->M b
 block:∀b,b<w.heap.size->¬M b->w'.heap[b]? =w.heap[b]?
def QH.cell {M M':Nat->Prop}{w w':World}(h:QH M M' w w'){b o:Nat}{v:Value}(hb:¬M b)(hlt:b<w.heap.size)(hc:w.cell? ⟨b,o,none⟩=some v):w'.cell? ⟨b,o,none⟩=some v:=by unfold World.cell? at*;rw[h.block b hlt hb];exact hc
mutual
def cE.go {M M':Nat->Prop}{w w':World}(h:QH M M' w w'):∀(p:PV)(v:Value),cE M w p v->cE M' w' p v
 | .int _ _,_,r=>by simpa only[cE]using r
 | .bool _,_,r=>by simpa only[cE]using r
 | .str _,_,r=>by simpa only[cE]using r
 | .lst es,v,r=>by simp only[cE]at r⊢;rcases r with r|⟨b,o,c,z,e,hb,hlt,r,ae⟩;exact .inl r;exact .inr ⟨b,o,c,z,e,fun k=>hb (h.cls b hlt k),ZD hlt h.size,fW.go h z es b o hb hlt r,ae⟩
def gR.go {M M':Nat->Prop}{w w':World}(h:QH M M' w w'):∀(ps:List PV)(b o:Nat),¬M b->b<w.heap.size->gR M w ps b o->gR M' w' ps b o
 |[],_,_,_,_,_=>by simp only[gR]
 |p::ps,b,o,hb,hlt,r=>by simp only[gR]at r⊢;obtain⟨⟨v,hc,hv⟩,r⟩:=r;exact⟨⟨v,h.cell hb hlt hc,cE.go h p v hv⟩,gR.go h ps b (o+1) hb hlt r⟩
def fW.go {M M':Nat->Prop}{w w':World}(h:QH M M' w w')(z:Nat):∀(es:List (List PV))(b o:Nat),¬M b->b<w.heap.size->fW M w z es b o->fW M' w' z es b o
 |[],_,_,_,_,_=>by simp only[fW]
 |e::es,b,o,hb,hlt,r=>by simp only[fW]at r⊢;exact⟨r.1,gR.go h e b o hb hlt r.2.1,fW.go h z es b (o+z) hb hlt r.2.2⟩
end
def gR.at {M:Nat->Prop}{w:World}:∀{ps:List PV}{b o j:Nat}{p:PV},gR M w ps b o->ps[j]? =some p->∃v,w.cell? ⟨b,o+j,none⟩=some v/\ cE M w p v
 |[],_,_,_,_,_,hp=>by simp at hp
 |q::ps,b,o,0,p,h,hp=>by simp only[gR]at h;simp at hp;subst hp;simpa using h.1
 |q::ps,b,o,j+1,p,h,hp=>by simp only[gR]at h;have:=gR.at h.2 (j:=j) (p:=p) (by simpa using hp);rwa[show o+1+j=o+(j+1) by omega]at this
def gR.of {M:Nat->Prop}{w:World}:∀{ps:List PV}{b o:Nat},(∀(j:Nat)(p:PV),ps[j]? =some p->∃v,w.cell? ⟨b,o+j,none⟩=some v/\ cE M w p v)->gR M w ps b o
 |[],_,_,_=>by simp only[gR]
 |p::ps,b,o,h=>by simp only[gR];refine⟨by simpa using h 0 p rfl,gR.of fun j q hq=> ?_⟩;have:=h (j+1) q (by simpa using hq);rwa[show o+(j+1)=o+1+j by omega]at this
def fW.at {M:Nat->Prop}{w:World}{z:Nat}:∀{es:List (List PV)}{b o i:Nat}{e:List PV},fW M w z es b o->es[i]? =some e->e.length=z/\ gR M w e b (o+i*z)
 |[],_,_,_,_,_,he=>by simp at he
 |q::es,b,o,0,e,h,he=>by simp only[fW]at h;simp at he;subst he;simpa using⟨h.1,h.2.1⟩
 |q::es,b,o,i+1,e,h,he=>by simp only[fW]at h;have:=fW.at h.2.2 (i:=i) (e:=e) (by simpa using he);rwa[show o+z+i*z=o+(i+1)*z by rw[Nat.add_mul,Yk];omega]at this
def fW.of {M:Nat->Prop}{w:World}{z:Nat}:∀{es:List (List PV)}{b o:Nat},(∀(i:Nat)(e:List PV),es[i]? =some e->e.length=z/\ gR M w e b (o+i*z))->fW M w z es b o
 |[],_,_,_=>by simp only[fW]
 |e::es,b,o,h=>by simp only[fW];have h0:=h 0 e rfl;refine⟨h0.1,by simpa using h0.2,fW.of fun i q hq=> ?_⟩;have:=h (i+1) q (by simpa using hq);rwa[show o+(i+1)*z=o+z+i*z by rw[Nat.add_mul,Yk];omega]at this
def iW (w:World)(b:Nat)(cur:Array Value):Prop:=∃T,w.heap[b]? =some (.cells cur T (0,0))
def iW.lt {w:World}{b:Nat}{cur:Array Value}(h:iW w b cur):b<w.heap.size:=by obtain⟨T,h⟩:=h;exact(Yq.1 h).1
def iW.cell {w:World}{b:Nat}{cur:Array Value}(h:iW w b cur)(i:Nat):w.cell? ⟨b,i,none⟩=cur[i]? :=by obtain⟨T,h⟩:=h;simp[World.cell?,h]
def iW.free {w:World}{b:Nat}{cur:Array Value}(h:iW w b cur)(i:Nat):w.frozen? ⟨b,i,none⟩=false:=by obtain⟨T,h⟩:=h;simp[World.frozen?,h]
def iW.inj {w:World}{b:Nat}{c d:Array Value}(h:iW w b c)(k:iW w b d):c=d:=by obtain⟨T,h⟩:=h;obtain⟨U,k⟩:=k;rw[h]at k;cases k;rfl
def Q0.z :Q0->Nat
 | .arr z _=>z
 | .bG z _=>z
 | .b9 z _=>z
 | .bB z _=>z
 |_=>0
def Q0.mut :Q0->Bool
 | .box _=>true
 | .bS _=>true
 | .arr _ _=>true
 | .b9 _ _=>true
 | .bB _ _=>true
 |_=>false
def re (w:World)(ob:Q0)(r:Option Nat)(v:Value):Prop:=
 match ob with
 | .arr z es=>match r with
  |none=>∃ad,v= .slice ad 0 0
  |some b=>∃cur cap,iW w b cur/\ cur.size=cap*z/\ es.length<=cap/\ cap<=maxLen/\ v= .slice (some ⟨b,0,none⟩) es.length cap
 | .bG z es=>match r with
  |none=>∃ad,v= .slice ad 0 0
  |some b=>∃cur cap,iW w b cur/\ cur.size=cap*z/\ es.length<=cap/\ cap<=maxLen/\ v= .slice (some ⟨b,0,none⟩) es.length cap
 | .b9 z es=>match r with
  |none=>∃ad,v= .slice ad 0 0
  |some b=>∃cur cap,iW w b cur/\ cur.size=cap*z/\ es.length<=cap/\ cap<=maxLen/\ v= .slice (some ⟨b,0,none⟩) es.length cap
 | .bB z es=>match r with
  |none=>∃ad,v= .slice ad 0 0
  |some b=>∃cur cap,iW w b cur/\ cur.size=cap*z/\ es.length<=cap/\ cap<=maxLen/\ v= .slice (some ⟨b,0,none⟩) es.length cap
 | .res=>False
 |_=>v.oneCell'=true
def Cr (ob:Q0)(r:Option Nat)(i j:Nat)(v:Value):Prop:=
 match ob with
 | .dead=>∃b o,v= .pointer (some ⟨b,o,none⟩)
 | .res=>False
 |ob=>∃b,r=some b/\ v= .pointer (some ⟨b,i*ob.z+j,none⟩)
def Cp (M:Nat->Prop)(w:World)(e:List PV)(v:Value):Prop:=∃b o,v= .pointer (some ⟨b,o,none⟩)/\ ¬M b/\ b<w.heap.size/\ gR M w e b o
def Cp.go {M M':Nat->Prop}{w w':World}(h:QH M M' w w'){e:List PV}{v:Value}(r:Cp M w e v):Cp M' w' e v:=by obtain⟨b,o,rfl,hb,hlt,hr⟩:=r;exact⟨b,o,rfl,fun k=>hb (h.cls b hlt k),ZD hlt h.size,gR.go h e b o hb hlt hr⟩
def Q0.cD :Q0->Bool
 | .arr _ _=>true
 | .bG _ _=>true
 | .b9 _ _=>true
 | .bB _ _=>true
 |_=>false
def adp (z l r:Nat)(u v:Value):Prop:=
 (∃b n cap,u= .slice (some ⟨b,0,none⟩) n cap/\ l<=r/\ r<=n/\ v= .slice (if cap=l then some ⟨b,0,none⟩else some ⟨b,l*z,none⟩) (r-l) (cap-l)) \/
  ((∃ad,u= .slice ad 0 0)/\ l=0/\ r=0/\ ∃ad,v= .slice ad 0 0)
def adp.one {z l r:Nat}{u v:Value}(h:adp z l r u v):u.oneCell'=true:=by rcases h with⟨_,_,_,rfl,_⟩|⟨⟨_,rfl⟩,_⟩<;>rfl
def A2 (z:Nat)(es:List (List PV))(c:Nat):Prop:=∃i e j l,es[i]? =some e/\ e[j]? =some (PV.lst l)/\ c=i*z+j
def LR [KF](M:Nat->Prop)(w:World)(J:List (Option Nat))(h:List Q0):L->Value->Prop
 | .pv p,v=>cE M w p v
 | .ptr o i j,v=>∃r ob,J[o]? =some r/\ h[o]? =some ob/\ Cr ob r i j v
 | .ip e j,v=>∃b o,v= .pointer (some ⟨b,o+j,none⟩)/\ ¬M b/\ b<w.heap.size/\ gR M w e b o
 | .arr o,v=>∃r ob,J[o]? =some r/\ h[o]? =some ob/\ re w ob r v
 | .nil,v=>∃ad,v= .slice ad 0 0
 | .own _ _,_=>False
 | .down _ _,_=>False
 | .fn k caps,v=>∃f cs,v= .func (.func f) #[] cs/\ kf f=some k/\ caps.length=cs.size/\ ∀(i:Nat)(e:List PV)(u:Value),caps[i]? =some e->cs[i]? =some u->Cp M w e u
 | .tp n,v=>∃(o b:Nat),J[o]? =some (some b)/\ h[o]? =some (Q0.bS n)/\ v= .pointer (some ⟨b,0,none⟩)
 | .sub o c,v=>v.oneCell'=true/\ ∃b z es,J[o]? =some (some b)/\ h[o]? =some (Q0.bB z es)/\ A2 z es c/\ w.cell? ⟨b,c,none⟩=some v
 | .c5 o l r,v=>v.oneCell'=true/\ ∃q ob,J[o]? =some q/\ h[o]? =some ob/\ ob≠ .res/\ (ob.cD=true->∃u,re w ob q u/\ adp ob.z l r u v)
 | .br,v=>v.oneCell'=true
def wJ [KF](M:Nat->Prop)(w:World)(J:List (Option Nat))(h:List Q0)(ls:List L)(vs:List Value):Prop:=
 ls.length=vs.length/\ ∀(i:Nat)(l:L)(v:Value),ls[i]? =some l->vs[i]? =some v->LR M w J h l v
def VR [KF](M:Nat->Prop)(w:World)(J:List (Option Nat))(h:List Q0):V->Value->Prop
 | .one l,v=>LR M w J h l v
 | .agg ls,v=>∃cs,v= .agg cs/\ wJ M w J h ls cs.toList
 | .b8 xs,v=>∃vs,v= .tuple vs/\ xs.length=vs.size/\ ∀(i:Nat)(x:Bool×List L)(u:Value),xs[i]? =some x->vs[i]? =some u->
  match x with
  |(true,ls)=>∃cs,u= .agg cs/\ wJ M w J h ls cs.toList
  |(false,[l])=>LR M w J h l u
  |_=>False
def Bo [KF](M:Nat->Prop)(base:Nat)(w:World)(J:List (Option Nat))(h:List Q0)(r:Option Nat):Q0->Prop
 | .box cs=>∃b cur,r=some b/\ base<=b/\ iW w b cur/\ wJ M w J h cs cur.toList
 | .arr z es=>0<z/\ (∀e∈es,e.length=z)/\ match r with
  |none=>es=[]
  |some b=>base<=b/\ ∃cur cap,iW w b cur/\ cur.size=cap*z/\ es.length<=cap/\ cap<=maxLen/\
   ∀(i:Nat)(e:List PV)(j:Nat)(p:PV),es[i]? =some e->e[j]? =some p->∃v,cur[i*z+j]? =some v/\ cE M w p v
 | .bG z es=>0<z/\ (∀e∈es,e.length=z)/\ match r with
  |none=>es=[]
  |some b=>¬M b/\ ∃cur cap,iW w b cur/\ cur.size=cap*z/\ es.length<=cap/\ cap<=maxLen/\
   ∀(i:Nat)(e:List PV)(j:Nat)(p:PV),es[i]? =some e->e[j]? =some p->∃v,cur[i*z+j]? =some v/\ cE M w p v
 | .b9 z es=>0<z/\ (∀e∈es,e.length=z)/\ match r with
  |none=>es=[]
  |some b=>base<=b/\ ∃cur cap,iW w b cur/\ cur.size=cap*z/\ es.length<=cap/\ cap<=maxLen/\
   ∀(i:Nat)(e:List PV)(j:Nat)(p:PV),es[i]? =some e->e[j]? =some p->∃v,cur[i*z+j]? =some v/\ cE M w p v
 | .bB z es=>0<z/\ (∀e∈es,e.length=z)/\ match r with
  |none=>es=[]
  |some b=>base<=b/\ ∃cur cap,iW w b cur/\ cur.size=cap*z/\ es.length<=cap/\ cap<=maxLen
 | .bK ps=>∃b cur,r=some b/\ ¬M b/\ iW w b cur/\ ps.length=cur.size/\ ∀(j:Nat)(p:PV),ps[j]? =some p->∃v,cur[j]? =some v/\ cE M w p v
 | .bS n=>∃b cur,r=some b/\ base<=b/\ iW w b cur/\ cur.size=n
 | .dead=>True
 | .res=>r=none
def Mu (M0:Nat->Prop)(J:List (Option Nat))(h:List Q0)(b:Nat):Prop:=
 M0 b \/∃(o:Nat)(ob:Q0),h[o]? =some ob/\ ob.mut=true/\ J[o]? =some (some b)
mutual
def il (κ:Nat->List Nat)(lo:Nat)(w:World):PV->List Nat->Value->Prop
 | .int k n,_,v=>v= .int k n
 | .bool b,_,v=>v= .bool b
 | .str s,_,v=>v= .string ⟨s.toArray⟩
 | .lst es,π,v=>(es=[]/\ ∃a c,v= .slice a 0 c) \/
  ∃b c z cur,v= .slice (some ⟨b,0,none⟩) es.length c/\ lo<=b/\ κ b=π/\ 0<z/\ iW w b cur/\ cur.size=c*z/\ es.length<=c/\ c<=maxLen/\ gX κ lo w z es π b 0
def jD (κ:Nat->List Nat)(lo:Nat)(w:World):List PV->List Nat->Nat->Nat->Prop
 |[],_,_,_=>True
 |p::ps,π,b,o=>(∃v,w.cell? ⟨b,o,none⟩=some v/\ il κ lo w p (π++[o]) v)/\ jD κ lo w ps π b (o+1)
def gX (κ:Nat->List Nat)(lo:Nat)(w:World)(z:Nat):List (List PV)->List Nat->Nat->Nat->Prop
 |[],_,_,_=>True
 |e::es,π,b,o=>e.length=z/\ jD κ lo w e π b o/\ gX κ lo w z es π b (o+z)
end
def FN (κ κ':Nat->List Nat)(w w':World)(π π':List Nat):Prop:=
 ∀b X,b<w.heap.size->κ b=π++X->κ' b=π'++X/\ w'.heap[b]? =w.heap[b]?
def FN.sub {κ κ':Nat->List Nat}{w w':World}{π π':List Nat}(h:FN κ κ' w w' π π')(o:List Nat):FN κ κ' w w' (π++o) (π'++o):=fun b X hb e=>by have:=h b (o++X) hb (by rw[e,List.append_assoc]);rwa[<-List.append_assoc]at this
mutual
def il.go {κ κ':Nat->List Nat}{lo a6:Nat}{w w':World}(a7:a6<=lo):∀(p:PV)(π π':List Nat)(v:Value),FN κ κ' w w' π π'->il κ lo w p π v->il κ' a6 w' p π' v
 | .int _ _,_,_,_,_,r=>by simpa only[il]using r
 | .bool _,_,_,_,_,r=>by simpa only[il]using r
 | .str _,_,_,_,_,r=>by simpa only[il]using r
 | .lst es,π,π',v,h,r=>by
  simp only[il]at r⊢;rcases r with r|⟨b,c,z,cur,e,hb,hk,hz,hr,h1,h2,h3,ht⟩;exact .inl r;obtain⟨q1,q2⟩:=h b [] hr.lt (by simp[hk]);have hc:∀o,w'.cell? ⟨b,o,none⟩=w.cell? ⟨b,o,none⟩:=fun o=>by unfold World.cell?;rw[q2]
  exact .inr ⟨b,c,z,cur,e,Zc a7 hb,by simpa using q1,hz,by obtain⟨T,hr⟩:=hr;exact⟨T,q2.trans hr⟩,h1,h2,h3,gX.go a7 z es π π' b 0 h hc ht⟩
def jD.go {κ κ':Nat->List Nat}{lo a6:Nat}{w w':World}(a7:a6<=lo):∀(ps:List PV)(π π':List Nat)(b o:Nat),FN κ κ' w w' π π'->(∀o,w'.cell? ⟨b,o,none⟩=w.cell? ⟨b,o,none⟩)->jD κ lo w ps π b o->jD κ' a6 w' ps π' b o
 |[],_,_,_,_,_,_,_=>by simp only[jD]
 |p::ps,π,π',b,o,h,hc,r=>by simp only[jD]at r⊢;obtain⟨⟨v,hv,hp⟩,r⟩:=r;exact⟨⟨v,(hc o).trans hv,il.go a7 p _ _ v (h.sub [o]) hp⟩,jD.go a7 ps π π' b (o+1) h hc r⟩
def gX.go {κ κ':Nat->List Nat}{lo a6:Nat}{w w':World}(a7:a6<=lo)(z:Nat):∀(es:List (List PV))(π π':List Nat)(b o:Nat),FN κ κ' w w' π π'->(∀o,w'.cell? ⟨b,o,none⟩=w.cell? ⟨b,o,none⟩)->gX κ lo w z es π b o->gX κ' a6 w' z es π' b o
 |[],_,_,_,_,_,_,_=>by simp only[gX]
 |e::es,π,π',b,o,h,hc,r=>by simp only[gX]at r⊢;exact⟨r.1,jD.go a7 e π π' b o h hc r.2.1,gX.go a7 z es π π' b (o+z) h hc r.2.2⟩
end
def il.one {κ:Nat->List Nat}{lo:Nat}{w:World}{p:PV}{π:List Nat}{v:Value}(h:il κ lo w p π v):v.oneCell'=true:=by
 cases p with
 |int k n=>simp only[il]at h;subst h;rfl
 |bool b=>simp only[il]at h;subst h;rfl
 |str s=>simp only[il]at h;subst h;rfl
 |lst es=>simp only[il]at h;rcases h with⟨_,a,c,rfl⟩|⟨b,c,z,cur,rfl,_⟩<;>rfl
def jD.of {κ:Nat->List Nat}{lo:Nat}{w:World}:∀{ps:List PV}{π:List Nat}{b o:Nat},(∀(j:Nat)(p:PV),ps[j]? =some p->∃v,w.cell? ⟨b,o+j,none⟩=some v/\ il κ lo w p (π++[o+j]) v)->jD κ lo w ps π b o
 |[],_,_,_,_=>by simp only[jD]
 |p::ps,π,b,o,h=>by simp only[jD];refine⟨by simpa using h 0 p rfl,jD.of fun j q hq=> ?_⟩;have:=h (j+1) q (by simpa using hq);rwa[show o+(j+1)=o+1+j by omega]at this
def jD.at {κ:Nat->List Nat}{lo:Nat}{w:World}:∀{ps:List PV}{π:List Nat}{b o j:Nat}{p:PV},jD κ lo w ps π b o->ps[j]? =some p->∃v,w.cell? ⟨b,o+j,none⟩=some v/\ il κ lo w p (π++[o+j]) v
 |[],_,_,_,_,_,_,hp=>by simp at hp
 |q::ps,π,b,o,0,p,h,hp=>by simp only[jD]at h;simp at hp;subst hp;simpa using h.1
 |q::ps,π,b,o,j+1,p,h,hp=>by simp only[jD]at h;have:=jD.at h.2 (j:=j) (p:=p) (by simpa using hp);rwa[show o+1+j=o+(j+1) by omega]at this
def gX.of {κ:Nat->List Nat}{lo:Nat}{w:World}{z:Nat}:∀{es:List (List PV)}{π:List Nat}{b o:Nat},(∀(i:Nat)(e:List PV),es[i]? =some e->e.length=z/\ jD κ lo w e π b (o+i*z))->gX κ lo w z es π b o
 |[],_,_,_,_=>by simp only[gX]
 |e::es,π,b,o,h=>by simp only[gX];have h0:=h 0 e rfl;refine⟨h0.1,by simpa using h0.2,gX.of fun i q hq=> ?_⟩;have:=h (i+1) q (by simpa using hq);rwa[show o+(i+1)*z=o+z+i*z by rw[Nat.add_mul,Yk];omega]at this
def gX.at {κ:Nat->List Nat}{lo:Nat}{w:World}{z:Nat}:∀{es:List (List PV)}{π:List Nat}{b o i:Nat}{e:List PV},gX κ lo w z es π b o->es[i]? =some e->e.length=z/\ jD κ lo w e π b (o+i*z)
 |[],_,_,_,_,_,_,he=>by simp at he
 |q::es,π,b,o,0,e,h,he=>by simp only[gX]at h;simp at he;subst he;simpa using⟨h.1,h.2.1⟩
 |q::es,π,b,o,i+1,e,h,he=>by simp only[gX]at h;have:=gX.at h.2.2 (i:=i) (e:=e) (by simpa using he);rwa[show o+z+i*z=o+(i+1)*z by rw[Nat.add_mul,Yk];omega]at this
def vK (κ:Nat->List Nat)(lo:Nat)(w:World)(z:Nat)(es:List (List PV))(π:List Nat)(b:Nat):Prop:=
 ∀(i:Nat)(e:List PV)(j:Nat)(p:PV),es[i]? =some e->e[j]? =some p->∃v,w.cell? ⟨b,i*z+j,none⟩=some v/\ il κ lo w p (π++[i*z+j]) v
def vK.ll {κ:Nat->List Nat}{lo:Nat}{w:World}{z:Nat}{es:List (List PV)}{π:List Nat}{b:Nat}(hz:∀e∈es,e.length=z)(h:vK κ lo w z es π b):gX κ lo w z es π b 0:=
 gX.of fun i e he=>⟨hz e (Zn he),jD.of fun j p hp=>by simpa using h i e j p he hp⟩
def gX.cells {κ:Nat->List Nat}{lo:Nat}{w:World}{z:Nat}{es:List (List PV)}{π:List Nat}{b:Nat}(h:gX κ lo w z es π b 0):vK κ lo w z es π b:=fun i e j p he hp=>by have:=(h.at he).2.at hp;simpa using this
def vK.go {κ κ':Nat->List Nat}{lo a6:Nat}{w w':World}{z:Nat}{es:List (List PV)}{π π':List Nat}{b b':Nat}(a7:a6<=lo)(hc:∀o,o<es.length*z->w'.cell? ⟨b',o,none⟩=w.cell? ⟨b,o,none⟩)(hz:∀e∈es,e.length=z)(hm:∀c,FN κ κ' w w' (π++[c]) (π'++[c]))(h:vK κ lo w z es π b):vK κ' a6 w' z es π' b':=fun i e j p he hp=>by
 obtain⟨v,hv,ht⟩:=h i e j p he hp;have hi:=(Zb.1 he).1;have hj:=(Zb.1 hp).1;rw[hz e (Zn he)]at hj;refine⟨v,(hc _ ?_).trans hv,il.go a7 p _ _ v (hm _) ht⟩;calc i*z+j<i*z+z:=by omega
  _=(i+1)*z:=by rw[Nat.add_mul,Yk]
  _<=es.length*z:=ZE _ hi
def Q0.deep :Q0->Option (Nat×List (List PV))
 | .b9 z es=>some (z,es)
 | .bB z es=>some (z,es)
 |_=>none
structure Deep (κ:Nat->List Nat) (base:Nat) (w:World) (J:List (Option Nat)) (h:List Q0):Prop where
 root:∀(o:Nat)(ob:Q0)(b:Nat),h[o]? =some ob->ob.mut=true->J[o]? =some (some b)->κ b=[o]
 tree:∀(o:Nat)(ob:Q0)(z:Nat)(es:List (List PV))(b:Nat),h[o]? =some ob->ob.deep=some (z,es)->J[o]? =some (some b)->vK κ base w z es [o] b
structure HR0 [KF] (M0:Nat->Prop) (base:Nat) (w:World) (J:List (Option Nat)) (h:List Q0):Prop where
 len:J.length=h.length
 old:∀b,M0 b->b<w.heap.size/\ ∀(o:Nat)(ob:Q0),h[o]? =some ob->ob.mut=true->J[o]? ≠some (some b)
 le:base<=w.heap.size
 objs:∀(o:Nat)(ob:Q0)(r:Option Nat),h[o]? =some ob->J[o]? =some r->Bo (Mu M0 J h) base w J h r ob
 apart:∀(o o':Nat)(ob ob':Q0)(b:Nat),h[o]? =some ob->h[o']? =some ob'->ob.mut=true->ob'.mut=true->J[o]? =some (some b)->J[o']? =some (some b)->o=o'
structure Zon (κ:Nat->List Nat) (M0:Nat->Prop) (w:World) (h:List Q0):Prop where
 new:∀b,w.heap.size<=b->κ b=[]
 zone:∀(b o c:Nat)(X:List Nat)(z:Nat)(es:List (List PV)),κ b=o::c::X->h[o]? =some (.bB z es)->M0 b
structure HR [KF] (M0:Nat->Prop) (base:Nat) (w:World) (J:List (Option Nat)) (h:List Q0):Prop extends HR0 M0 base w J h where
 deep:∃κ,Deep κ base w J h/\ Zon κ M0 w h
structure FR [KF] (M:Nat->Prop) (w:World) (J:List (Option Nat)) (h:List Q0) (t:List V) (a:Act):Prop where
 defers:a.defers=[]
 size:a.tmps.size=t.length
 tmps:∀(i:Nat)(v:V)(u:Value),t[i]? =some v->a.tmps[i]? =some u->VR M w J h v u
structure Ctx where
 G:World->Prop
 B0:Nat
 keep:∀w w',G w->Go.RowKit.Below B0 w w'->G w'
 size:∀w,G w->B0<=w.heap.size
structure SR [KF] (Γ:Ctx) (M0:Nat->Prop) (base:Nat) (Z:St) (a:Act) (w:World) (J:List (Option Nat)):Prop where
 hr:HR M0 base w J Z.h
 fr:FR (Mu M0 J Z.h) w J Z.h Z.t a
 inv:Γ.G w
 b0:Γ.B0<=base
def LR.one {M:Nat->Prop}{w:World}{J:List (Option Nat)}{h:List Q0}{l:L}{v:Value}(r:LR M w J h l v):v.oneCell'=true:=by
 cases l with
 |pv p=>exact cE.one r
 |ptr o i j=>obtain⟨r,ob,_,_,hs⟩:=r;unfold Cr at hs;split at hs;obtain⟨b,_,rfl⟩:=hs;rfl;exact hs.elim;obtain⟨b,_,rfl⟩:=hs;rfl
 |ip e j=>obtain⟨b,o,rfl,_⟩:=r;rfl
 |arr o=>obtain⟨r,ob,_,_,hs⟩:=r;unfold re at hs;split at hs;split at hs;obtain⟨_,rfl⟩:=hs;rfl;obtain⟨_,_,_,_,_,_,rfl⟩:=hs;rfl;split at hs;obtain⟨_,rfl⟩:=hs;rfl;obtain⟨_,_,_,_,_,_,rfl⟩:=hs;rfl;split at hs;obtain⟨_,rfl⟩:=hs;rfl;obtain⟨_,_,_,_,_,_,rfl⟩:=hs;rfl;split at hs;obtain⟨_,rfl⟩:=hs;rfl;obtain⟨_,_,_,_,_,_,rfl⟩:=hs;rfl;exact hs.elim;exact hs
 |nil=>obtain⟨_,rfl⟩:=r;rfl
 |own z es=>exact r.elim
 |down z es=>exact r.elim
 |fn k caps=>obtain⟨f,cs,rfl,_⟩:=r;rfl
 |tp n=>obtain⟨o,b,_,_,rfl⟩:=r;rfl
 |sub o c=>exact r.1
 |c5 o l q=>exact r.1
 |br=>exact r
def wa :Q0->Q0->Prop
 | .res, .res=>True
 | .res,_=>False
 | .bB z es, .bB z' es'=>z=z'/\ es.length=es'.length/\ ∀c,A2 z es c->A2 z es' c
 | .bB _ _,_=>False
 | .bS n, .bS m=>n=m
 | .bS _,_=>False
 |_, .dead=>True
 | .box _, .box _=>True
 | .box _, .bK _=>True
 | .bK _, .bK _=>True
 | .arr z es, .arr z' es'=>z=z'/\ es.length=es'.length
 | .arr z es, .bG z' es'=>z=z'/\ es.length=es'.length
 | .bG z es, .bG z' es'=>z=z'/\ es.length=es'.length
 | .arr z es, .b9 z' es'=>z=z'/\ es.length=es'.length
 | .b9 z es, .b9 z' es'=>z=z'/\ es.length=es'.length
 | .b9 z es, .arr z' es'=>z=z'/\ es.length=es'.length
 | .b9 z es, .bG z' es'=>z=z'/\ es.length=es'.length
 |_,_=>False
def wa.refl (ob:Q0):wa ob ob:=by cases ob<;>simp[wa]
def wa.trans {a b c:Q0}(h:wa a b)(k:wa b c):wa a c:=by
 cases a<;>cases b<;>cases c<;>first
  |(simp_all[wa];done)
  |exact⟨h.1.trans k.1,h.2.1.trans k.2.1,fun c hc=>h.1▸k.2.2 c (h.1▸h.2.2 c hc)⟩
def wa.ne {a b:Q0}(s:wa a b)(h:a≠ .res):b≠ .res:=by rintro rfl;cases a<;>first|exact h rfl|exact s.elim|(simp[wa]at s;done)
def wa.rows {a b:Q0}(s:wa a b)(h:b.cD=true):a.cD=true/\ b.z=a.z:=by cases a<;>cases b<;>simp_all[wa,Q0.cD,Q0.z]
def wa.bB {z:Nat}{es:List (List PV)}{ob:Q0}(h:wa (.bB z es) ob):∃es',ob= .bB z es'/\ es.length=es'.length/\ ∀c,A2 z es c->A2 z es' c:=by
 cases ob<;>first
  |exact h.elim
  |(obtain⟨rfl,h1,h2⟩:=h;exact⟨_,rfl,h1,h2⟩)
structure Ch (M M':Nat->Prop) (w w':World) (J J':List (Option Nat)) (h h':List Q0):Prop where
 go:QH M M' w w'
 row:∀b cur,iW w b cur->∃cur',iW w' b cur'/\ cur'.size=cur.size
 obj:∀(o:Nat)(r:Option Nat)(ob:Q0),J[o]? =some r->h[o]? =some ob->ob≠ .res->∃ob',J'[o]? =some r/\ h'[o]? =some ob'/\ wa ob ob'
 zar:∀(o b z:Nat)(es:List (List PV))(c:Nat)(v:Value),J[o]? =some (some b)->h[o]? =some (.bB z es)->A2 z es c->w.cell? ⟨b,c,none⟩=some v->w'.cell? ⟨b,c,none⟩=some v
def QH.refl (M:Nat->Prop)(w:World):QH M M w w:=⟨Zi _,fun _ _ h=>h,fun _ _ _=>rfl⟩
def Ch.refl (M:Nat->Prop)(w:World)(J:List (Option Nat))(h:List Q0):Ch M M w w J J h h:=
 ⟨QH.refl M w,fun _ cur r=>⟨cur,r,rfl⟩,fun _ _ ob hr ho _=>⟨ob,hr,ho,wa.refl ob⟩,fun _ _ _ _ _ _ _ _ _ h=>h⟩
def QH.trans {M M' aa:Nat->Prop}{w w' ab:World}(h:QH M M' w w')(k:QH M' aa w' ab):QH M aa w ab:=
 ⟨Zc h.size k.size,fun b hb hm=>h.cls b hb (k.cls b (ZD hb h.size) hm),
  fun b hb hm=>(k.block b (ZD hb h.size) (fun ak=>hm (h.cls b hb ak))).trans (h.block b hb hm)⟩
def Ch.trans {M M' aa:Nat->Prop}{w w' ab:World}{J J' ah:List (Option Nat)}{h h' ai:List Q0}(c:Ch M M' w w' J J' h h')(d:Ch M' aa w' ab J' ah h' ai):Ch M aa w ab J ah h ai:=
 ⟨c.go.trans d.go,fun b cur r=>by
  obtain⟨c1,r1,e1⟩:=c.row b cur r
  obtain⟨c2,r2,e2⟩:=d.row b c1 r1
  exact⟨c2,r2,e2.trans e1⟩,
  fun o r ob hr ho hn=>by obtain⟨aj,af,ag,s1⟩:=c.obj o r ob hr ho hn;obtain⟨al,an,ao,s2⟩:=d.obj o r aj af ag (s1.ne hn);exact⟨al,an,ao,s1.trans s2⟩,
  fun o b z es p v hr ho hl hv=>by
   obtain⟨aj,af,ag,s1⟩:=c.obj o _ _ hr ho (by simp)
   obtain⟨es',rfl,_,h2⟩:=s1.bB
   exact d.zar o b z es' p v af ag (h2 p hl) (c.zar o b z es p v hr ho hl hv)⟩
def re.cZ {M M':Nat->Prop}{w w':World}{J J':List (Option Nat)}{h h':List Q0}(c:Ch M M' w w' J J' h h'){ob ob':Q0}{r:Option Nat}{v:Value}(s:wa ob ob')(hv:re w ob r v)(h1:v.oneCell'=true):re w' ob' r v:=by
 cases ob' with
 |dead=>exact h1
 |box cs=>cases ob<;>simp_all[wa,re]
 |bK ps=>exact h1
 |bS n=>exact h1
 |res=>cases ob<;>simp_all[wa,re]
 |arr z es=>
  cases ob<;>simp only[wa]at s;all_goals
   obtain⟨rfl,e⟩:=s
   cases r with
   |none=>simpa only[re]using hv
   |some b=>
    obtain⟨cur,cap,hr,hs,hl,hc,rfl⟩:=hv
    obtain⟨cur',a5,a8⟩:=c.row b cur hr
    exact⟨cur',cap,a5,a8.trans hs,e▸hl,hc,by rw[e]⟩
 |bG z es=>
  cases ob<;>simp only[wa]at s;all_goals
   obtain⟨rfl,e⟩:=s
   cases r with
   |none=>simpa only[re]using hv
   |some b=>
    obtain⟨cur,cap,hr,hs,hl,hc,rfl⟩:=hv
    obtain⟨cur',a5,a8⟩:=c.row b cur hr
    exact⟨cur',cap,a5,a8.trans hs,e▸hl,hc,by rw[e]⟩
 |b9 z es=>
  cases ob<;>simp only[wa]at s;all_goals
   obtain⟨rfl,e⟩:=s
   cases r with
   |none=>simpa only[re]using hv
   |some b=>
    obtain⟨cur,cap,hr,hs,hl,hc,rfl⟩:=hv
    obtain⟨cur',a5,a8⟩:=c.row b cur hr
    exact⟨cur',cap,a5,a8.trans hs,e▸hl,hc,by rw[e]⟩
 |bB z es=>
  cases ob<;>simp only[wa]at s;all_goals
   obtain⟨rfl,e,_⟩:=s
   cases r with
   |none=>simpa only[re]using hv
   |some b=>
    obtain⟨cur,cap,hr,hs,hl,hc,rfl⟩:=hv
    obtain⟨cur',a5,a8⟩:=c.row b cur hr
    exact⟨cur',cap,a5,a8.trans hs,e▸hl,hc,by rw[e]⟩
def Cr.cZ {ob ob':Q0}{r:Option Nat}{i j:Nat}{v:Value}(s:wa ob ob')(hv:Cr ob r i j v):Cr ob' r i j v:=by
 cases ob'<;>cases ob<;>simp_all[wa,Cr,Q0.z];all_goals
  obtain⟨b,_,rfl⟩:=hv
  exact⟨_,_,rfl⟩
def LR.ch {M M':Nat->Prop}{w w':World}{J J':List (Option Nat)}{h h':List Q0}(c:Ch M M' w w' J J' h h'){l:L}{v:Value}(r:LR M w J h l v):LR M' w' J' h' l v:=by
 have h1:=r.one;cases l with
 |pv p=>exact cE.go c.go p v r
 |ptr o i j=>obtain⟨r,ob,hr,ho,hs⟩:=r;obtain⟨ob',a5,ho',s⟩:=c.obj o r ob hr ho (by rintro rfl;exact hs);exact⟨r,ob',a5,ho',hs.cZ s⟩
 |ip e j=>obtain⟨b,o,rfl,hb,hlt,hr⟩:=r;exact⟨b,o,rfl,fun k=>hb (c.go.cls b hlt k),ZD hlt c.go.size,gR.go c.go e b o hb hlt hr⟩
 |arr o=>obtain⟨r,ob,hr,ho,hs⟩:=r;obtain⟨ob',a5,ho',s⟩:=c.obj o r ob hr ho (by rintro rfl;exact hs);exact⟨r,ob',a5,ho',re.cZ c s hs h1⟩
 |nil=>exact r
 |own z es=>exact r
 |down z es=>exact r
 |fn k caps=>obtain⟨f,cs,rfl,hk,hl,hc⟩:=r;exact⟨f,cs,rfl,hk,hl,fun i e u he hu=>(hc i e u he hu).go c.go⟩
 |tp n=>
  obtain⟨o,b,hr,ho,rfl⟩:=r;obtain⟨ob',a5,ho',s⟩:=c.obj o _ _ hr ho (by simp);cases ob' with
  |bS m=>obtain rfl:n=m:=s;exact⟨o,b,a5,ho',rfl⟩
  |_=>exact s.elim
 |sub o p=>obtain⟨_,b,z,es,hr,ho,hl,hv⟩:=r;obtain⟨ob',a5,ho',s⟩:=c.obj o _ _ hr ho (by simp);obtain⟨es',rfl,_,h2⟩:=s.bB;exact⟨h1,b,z,es',a5,ho',h2 p hl,c.zar o b z es p v hr ho hl hv⟩
 |c5 o l q=>obtain⟨_,r,ob,hr,ho,hn,hs⟩:=r;obtain⟨ob',a5,ho',s⟩:=c.obj o r ob hr ho hn;refine⟨h1,r,ob',a5,ho',s.ne hn,fun hq=> ?_⟩;obtain⟨a1,a2⟩:=s.rows hq;obtain⟨u,hu,hw⟩:=hs a1;exact⟨u,re.cZ c s hu hw.one,a2▸hw⟩
 |br=>exact r
def wJ.ch {M M':Nat->Prop}{w w':World}{J J':List (Option Nat)}{h h':List Q0}(c:Ch M M' w w' J J' h h'){ls:List L}{vs:List Value}(r:wJ M w J h ls vs):wJ M' w' J' h' ls vs:=
 ⟨r.1,fun i l v hl hv=>(r.2 i l v hl hv).ch c⟩
def VR.ch {M M':Nat->Prop}{w w':World}{J J':List (Option Nat)}{h h':List Q0}(c:Ch M M' w w' J J' h h'){x:V}{v:Value}(r:VR M w J h x v):VR M' w' J' h' x v:=by
 cases x with
 |one l=>exact LR.ch c r
 |agg ls=>obtain⟨cs,rfl,hl⟩:=r;exact⟨cs,rfl,hl.ch c⟩
 |b8 xs=>obtain⟨vs,rfl,hl,hr⟩:=r;refine⟨vs,rfl,hl,fun i x u hx hu=> ?_⟩;have:=hr i x u hx hu;split at this;obtain⟨cs,rfl,hl⟩:=this;exact⟨cs,rfl,hl.ch c⟩;exact LR.ch c this;exact this
def FR.ch {M M':Nat->Prop}{w w':World}{J J':List (Option Nat)}{h h':List Q0}(c:Ch M M' w w' J J' h h'){t:List V}{a:Act}(r:FR M w J h t a):FR M' w' J' h' t a:=
 ⟨r.defers,r.size,fun i v u hv hu=>(r.tmps i v u hv hu).ch c⟩
def FR.put {M:Nat->Prop}{w:World}{J:List (Option Nat)}{h:List Q0}{t:List V}{a:Act}(r:FR M w J h t a)(d:Option Nat){x:V}{u:Value}(hx:VR M w J h x u):FR M w J h (Gi.put t d x) (a.put d u):=by
 cases d with
 |none=>exact r
 |some d=>refine⟨r.defers,by simp[Gi.put,Act.put,r.size],fun i v u' hv hu=> ?_⟩;simp only[Gi.put,Act.put]at hv hu;by_cases e:d=i;subst e;by_cases hd:d<t.length;rw[Zd hd]at hv;rw[YF (by rw[r.size];exact hd)]at hu;cases hv;cases hu;exact hx;rw[ZT (by simp;omega)]at hv;cases hv;rw[Za e]at hv;rw[YQ e]at hu;exact r.tmps i v u' hv hu
def VR.undef {M:Nat->Prop}{w:World}{J:List (Option Nat)}{h:List Q0}:VR M w J h (.b8 []) Go.undef:=⟨#[],rfl,rfl,fun i x u hx=>by simp at hx⟩
def FR.eval {M:Nat->Prop}{w:World}{J:List (Option Nat)}{h:List Q0}{t:List V}{a:Act}(r:FR M w J h t a)(n:Nat):VR M w J h (t.getD n (.b8 [])) (a.eval (.tmp n)):=by
 by_cases hn:n<t.length;have h1:t[n]? =some (t.getD n (.b8 [])):=by simp[List.getD,hn]
 have h2:a.tmps[n]? =some (a.eval (.tmp n)):=by simp[Act.eval,r.size,hn]
 exact r.tmps n _ _ h1 h2;have h1:t.getD n (.b8 [])= .b8 []:=by simp[List.getD,ZT (QZ hn)]
 have h2:a.eval (.tmp n)=undef:=by simp[Act.eval,r.size,hn]
 rw[h1,h2];exact VR.undef
end Gi
