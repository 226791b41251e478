/- Of this proof. -/
import Derived.Test.YtebnmoogdmpepaaGreatGild
set_option linter.unusedSimpArgs false
set_option linter.unusedVariables false
namespace Gi
open Go Go.RowKit
variable {KI:KF}
def L.isArr (o:Nat):L→Bool
 | .arr x=>x==o
 |_=>false
def zo (ls:List L)(o:Nat):Option Nat:=ls.findIdx? (L.isArr o)
theorem pA {ls:List L}{o:Nat}:o∈al ls↔L.arr o∈ls:=by
 simp only[al,List.mem_filterMap]
 constructor
 ·rintro⟨l,hl,he⟩
  cases l<;>simp at he
  subst he;exact hl
 ·intro h
  exact⟨_,h,rfl⟩
theorem Li :∀{ls:List L},(al ls).Nodup→∀{q o:Nat},ls[q]? =some (.arr o)→zo ls o=some q
 |[],_,q,o,h=>by simp at h
 |l::ls,hn,q,o,h=>by
  have hn':(al ls).Nodup:=by
   cases l with
   |arr x=>exact(Yx.1 (by simpa[al]using hn)).2
   |_=>simpa[al]using hn
  cases q with
  |zero=>
   simp at h;subst h
   simp[zo,L.isArr,List.findIdx?_cons]
  |succ q=>
   have h':ls[q]? =some (.arr o):=by simpa using h
   have ih:=Li hn' h'
   have hne:L.isArr o l=false:=by
    cases l with
    |arr x=>
     have:=(Yx.1 (show(x::al ls).Nodup by simpa[al]using hn)).1
     simp only[L.isArr,beq_eq_false_iff_ne]
     intro e;subst e
     exact this (pA.2 (Zk h'))
    |_=>rfl
   unfold zo at ih⊢
   rw[List.findIdx?_cons,hne,ih]
   rfl
theorem Fz {ls:List L}{o:Nat}(h:¬o∈al ls):zo ls o=none:=by
 unfold zo
 rw[Y9]
 intro l hl
 cases l with
 |arr x=>
  simp only[L.isArr,beq_eq_false_iff_ne]
  intro e;subst e
  exact h (pA.2 hl)
 |_=>rfl
theorem M7 {ls:List L}{o:Nat}(h:ls.all (L.notArr o)=true):¬o∈al ls:=by
 intro hm
 have:=(Zw.1 h) _ (pA.1 hm)
 simp[L.notArr]at this
def graft (ls:List L)(o c0:Nat)(κ:Nat→List Nat)(b:Nat):List Nat:=
 match κ b with
 |x::τ=>(match zo ls x with
  |some q=>o::(c0+q)::τ
  |none=>x::τ)
 |[]=>[]
theorem p9 {ls:List L}{o c0 x:Nat}{κ:Nat→List Nat}{b:Nat}{τ:List Nat}(hp:zo ls x=none)(e:κ b=x::τ):graft ls o c0 κ b=x::τ:=by
 simp only[graft,e,hp]
theorem E1 {ls:List L}{o c0 x q:Nat}{κ:Nat→List Nat}{b:Nat}{τ:List Nat}(hp:zo ls x=some q)(e:κ b=x::τ):graft ls o c0 κ b=o::(c0+q)::τ:=by
 simp only[graft,e,hp]
theorem zT {M:Nat→Prop}{w:World}{κ:Nat→List Nat}{lo:Nat}{π:List Nat}{p:PV}{v:Value}(hb:p.bare=true)(r:ap M w p v):eE κ lo w p π v:=by
 cases p with
 |int k n=>simpa only[eE,ap]using r
 |bool b=>simpa only[eE,ap]using r
 |str s=>simpa only[eE,ap]using r
 |lst es=>
  cases es with
  |cons e es=>simp[PV.bare]at hb
  |nil=>
   simp only[ap]at r
   simp only[eE]
   rcases r with r|⟨b,o,c,z,rfl,_⟩
   ·exact .inl r
   ·exact .inl ⟨by trivial,_,_,rfl⟩
theorem BG {es:List (List PV)}(h:eS es=true){i j:Nat}{e:List PV}{p:PV}(he:es[i]? =some e)(hp:e[j]? =some p):p.bare=true:=by
 simp only[eS,Zw]at h
 exact h e (Zk he) p (Zk hp)
def AObj.isArrD (z:Nat)(es:List (List PV))(ob:AObj):Prop:=ob= .arr z es∨ob= .darr z es
section
variable {Γ:Ctx}{P:Program}{M0:Nat→Prop}{base:Nat}{σ:St}{a:Act}{w:World}{ρ:List (Option Nat)}
theorem Se {M:Nat→Prop}{h:List AObj}{κ:Nat→List Nat}{r:Option Nat}{z:Nat}{es:List (List PV)}{π:List Nat}{v:Value}(k:wu M base w ρ h r (.arr z es))(hs:km w (.arr z es) r v)
 (hκ:∀b,r=some b→κ b=π∧qA κ base w z es π b):eE κ base w (.lst es) π v:=by
 obtain⟨hz,hes,kx⟩:=k
 simp only[eE]
 cases r with
 |none=>
  obtain rfl:es=[]:=kx
  obtain⟨ad,hs⟩:=hs
  exact .inl ⟨by trivial,_,_,hs⟩
 |some b=>
  obtain⟨hbase,cur,cap,hrow,h1,h2,h3,_⟩:=kx
  obtain⟨cur',cap',hrow',h1',_,_,rfl⟩:=hs
  cases hrow.inj hrow'
  have:cap'=cap:=Yi hz (h1'.symm.trans h1)
  subst this
  obtain⟨q1,q2⟩:=hκ b rfl
  exact .inr ⟨b,cap',z,cur,rfl,hbase,q1,hz,hrow,h1,h2,h3,q2.ll hes⟩
theorem jP {h:List AObj}(k:HR0 M0 base w ρ h){κ:Nat→List Nat}(d:Deep κ base w ρ h){o z:Nat}{es:List (List PV)}(hd:aX h o=some (z,es)){r:Option Nat}(hr:ρ[o]? =some r):
 ∃ob,h[o]? =some ob∧ob.isArrD z es∧ob.mut=true∧wu (Mu M0 ρ h) base w ρ h r (.arr z es)∧∀b,r=some b→κ b=[o]∧qA κ base w z es [o] b:=by
 unfold aX at hd
 split at hd
 ·rename_i z' es' ho
  split at hd
  ·rename_i hb
   cases hd
   have k0:=k.objs o _ r ho hr
   refine⟨_,ho, .inl rfl,rfl,k0,fun b e=>⟨d.root o _ b ho rfl (by rw[hr,e]),fun i e1 j p he hp=> ?_⟩⟩
   subst e
   obtain⟨_,_,_,cur,cap,hrow,_,_,_,h4⟩:=k0
   obtain⟨v,hv,hrd⟩:=h4 i e1 j p he hp
   exact⟨v,by rw[hrow.cell];exact hv,zT (BG hb he hp) hrd⟩
  ·cases hd
 ·rename_i z' es' ho
  cases hd
  have k0:=k.objs o _ r ho hr
  refine⟨_,ho, .inr rfl,rfl,k0,fun b e=>⟨d.root o _ b ho rfl (by rw[hr,e]),d.tree o _ z es b ho rfl (by rw[hr,e])⟩⟩
 ·cases hd
theorem E0 {h:List AObj}(k:HR0 M0 base w ρ h){κ:Nat→List Nat}(d:Deep κ base w ρ h){ls:List L}(hn:(al ls).Nodup){o c0 q:Nat}{l:L}{v:Value}{p:PV}
 (hq:ls[q]? =some l) (hv:LR (Mu M0 ρ h) w ρ h l v) (hm:l.mov h=true) (hp:l.view h=some p):eE (graft ls o c0 κ) base w p [o,c0+q] v:=by
 cases l with
 |pv p'=>
  simp only[L.view]at hp;cases hp
  exact zT hm hv
 |nil=>
  simp only[L.view]at hp;cases hp
  obtain⟨_,rfl⟩:=hv
  simp only[eE]
  exact .inl ⟨by trivial,_,_,rfl⟩
 |arr o2=>
  obtain⟨r,ob,hr,hob,hs⟩:=hv
  have hpos:=Li hn hq
  have hmv:∃z es,aX h o2=some (z,es)∧p= .lst es∧km w (.arr z es) r v:=by
   simp only[L.mov,hob]at hm
   simp only[L.view,hob]at hp
   cases ob with
   |arr z es=>cases hp;exact⟨z,es,by simp[aX,hob,hm],rfl,hs⟩
   |darr z es=>cases hp;exact⟨z,es,by simp[aX,hob],rfl,hs⟩
   |_=>cases hm
  obtain⟨z,es,hd,rfl,hs'⟩:=hmv
  obtain⟨ob',_,_,_,k0,hc⟩:=jP k d hd hr
  refine Se k0 hs' fun b e=> ?_
  obtain⟨q1,q2⟩:=hc b e
  exact⟨E1 hpos q1,q2.go (Zl _) (fun _ _=>rfl) k0.2.1 (fun c b' τ _ e'=>⟨E1 hpos e',rfl⟩)⟩
 |_=>cases hm
theorem KU {h:List AObj}{l:L}{i:Nat}{x:AObj}(hx:(freezeL h l)[i]? =some x):h[i]? =some x∨∃z es,x= .froz z es:=by
 cases l with
 |arr o=>
  simp only[freezeL]at hx
  split at hx
  ·rename_i z es ho
   by_cases e:o=i
   ·subst e
    rw[Zd (Zb.1 ho).1]at hx
    cases hx;exact .inr ⟨_,_,rfl⟩
   ·rw[Za e]at hx;exact .inl hx
  ·rename_i z es ho
   by_cases e:o=i
   ·subst e
    rw[Zd (Zb.1 ho).1]at hx
    cases hx;exact .inr ⟨_,_,rfl⟩
   ·rw[Za e]at hx;exact .inl hx
  ·exact .inl hx
 |_=>exact .inl hx
theorem kd :∀(ls:List L){h:List AObj}{i:Nat}{x:AObj},(freezeLs h ls)[i]? =some x→x.mut=true→h[i]? =some x
 |[],_,_,_,hx,_=>hx
 |l::ls,h,i,x,hx,hm=>by
  rcases KU (kd ls (h:=freezeL h l) hx hm)with h1|⟨z,es,rfl⟩
  ·exact h1
  ·cases hm
theorem IW {h:List AObj}{l:L}{o:Nat}{x:AObj}(hl:l.notArr o=true)(hx:h[o]? =some x):(freezeL h l)[o]? =some x:=by
 cases l with
 |arr o'=>
  simp only[freezeL]
  have hne:o'≠o:=by simpa[L.notArr]using hl
  split
  ·rw[Za hne];exact hx
  ·rw[Za hne];exact hx
  ·exact hx
 |_=>exact hx
theorem p8 {o:Nat}{x:AObj}:∀(ls:List L){h:List AObj},ls.all (L.notArr o)=true→h[o]? =some x→(freezeLs h ls)[o]? =some x
 |[],_,_,hx=>hx
 |l::ls,h,hl,hx=>by
  simp only[Zq,Zm]at hl
  exact p8 ls (h:=freezeL h l) hl.2 (IW hl.1 hx)
theorem mM :∀(ls:List L){h:List AObj},(freezeLs h ls).length=h.length
 |[],_=>rfl
 |l::ls,h=>by
  show(freezeLs (freezeL h l) ls).length=h.length
  rw[mM ls]
  cases l with
  |arr o=>
   simp only[freezeL]
   split<;>simp
  |_=>rfl
theorem v7 {h:List AObj}{ls:List L}(hm:∀o,L.arr o∈ls→L.mov h (.arr o)=true){i:Nat}{x:AObj}(hx:(freezeLs h ls)[i]? =some x)(hmut:x.mut=true):¬i∈al ls:=by
 intro hi
 have hl:=pA.1 hi
 have h0:=kd ls hx hmut
 have h1:=hJ ls (h:=h) (.arr i) (.inr hl)
 have h2:=hm _ hl
 simp only[L.mut,hx]at h1
 simp only[L.mov,h0]at h2
 cases x<;>first|(simp at h1;done)|(simp at h2;done)
theorem Deep.stay {h:List AObj}(k:HR0 M0 base w ρ h){κ:Nat→List Nat}(d:Deep κ base w ρ h){ls:List L}(hm:ls.all (L.mov h)=true){o c0:Nat}{w':World}{i:Nat}{x:AObj}(hx:(freezeLs h ls)[i]? =some x)(hmut:x.mut=true){b:Nat}(hri:ρ[i]? =some (some b)):
 graft ls o c0 κ b=[i]∧∀{z:Nat}{es:List (List PV)},x.deep=some (z,es)→(∀b' c τ,b'<w.heap.size→κ b'=i::c::τ→w'.heap[b']? =w.heap[b']?)→w'.heap[b]? =w.heap[b]? →qA (graft ls o c0 κ) base w' z es [i] b:=by
 have hp:=Fz (v7 (fun o ho=>(Zw.1 hm) _ ho) hx hmut)
 have h0:=kd ls hx hmut
 refine⟨p9 hp (d.root i x b h0 hmut hri),fun{z es}hd hw hwb=> ?_⟩
 exact(d.tree i x z es b h0 hd hri).go (Zl _) (fun o _=>by unfold World.cell?;rw[hwb]) ((k.objs i x _ h0 hri).rows hd).2 (fun c b' τ hlt e=>⟨p9 hp e,hw b' c τ hlt e⟩)
theorem Zon.graft {κ:Nat→List Nat}{h h':List AObj}{w':World}(n:Zon κ M0 w h){ls:List L}{o c0:Nat}(hs:w.heap.size≤w'.heap.size)(hz:∀i z es,h'[i]? =some (.zarr z es)→i≠o∧h[i]? =some (.zarr z es)):Zon (Gi.graft ls o c0 κ) M0 w' h':=by
 refine⟨fun b hb=>by simp only[Gi.graft,n.new b (by omega)],fun b i c τ z es e hi=> ?_⟩
 obtain⟨h1,h2⟩:=hz i z es hi
 simp only[Gi.graft]at e
 split at e
 ·rename_i x τ0 hk
  split at e
  ·cases e;exact absurd rfl h1
  ·exact n.zone b i c τ z es (by rw[hk];exact e) h2
 ·cases e
theorem Jn (s:SR Γ M0 base σ a w ρ){o:Oper}{dm:Md}{t:TypeId}{x y:Operand}{n:Nat}{x' y':Opd}(hop:o.op= .store t x y)
 (hc:eV P kf dm o.op=some (.store n x' y')) {ob i j:Nat} (hev:x'.ev σ= .one (.ptr ob i j)) {z:Nat} {es:List (List PV)} (hd:aX σ.h ob=some (z,es)) {e ps:List PV} (hei:es[i]? =some e) (hps:viewL σ.h (y'.ev σ).cells=some ps)
 (hlen:(y'.ev σ).cells.length=n) (hle:j+n≤e.length) (hna:(y'.ev σ).cells.all (L.notArr ob)=true) (hmov:(y'.ev σ).cells.all (L.mov σ.h)=true) (hnd:(al (y'.ev σ).cells).Nodup):
 jC P M0 base σ w ρ (.tup []) ((freezeLs σ.h (y'.ev σ).cells).set ob (.darr z (es.set i (putAt e j ps)))) (execOp a.eval o):=by
 rw[hop]at hc;simp only[eV]at hc
 split at hc
 ·rename_i n1 x1 y1 hn hx hy
  cases hc
  have rx:=aw s hx
  have ry:=aw s hy
  rw[hev]at rx
  obtain⟨r0,obj,hr0,hob,hpt⟩:=rx
  have hnt:∀xs,y'.ev σ≠ .tup xs:=by
   intro xs e'
   rw[e']at hps
   simp[V.cells,viewL,L.view]at hps
  have hls:=ry.cells hnt
  obtain⟨κ,d,nz⟩:=s.hr.deep
  obtain⟨ob1,hob1,hisD,hmut,k0,hcells⟩:=jP s.hr.toHR0 d hd hr0
  rw[hob1]at hob;cases hob
  obtain⟨k1,c1⟩:=s.hr.freezeLs (y'.ev σ).cells
  have hcs1:=p8 (y'.ev σ).cells hna hob1
  have hls1:ru (Mu M0 ρ (freezeLs σ.h (y'.ev σ).cells)) w ρ (freezeLs σ.h (y'.ev σ).cells) (y'.ev σ).cells (a.eval y).cells.toList:=hls.ch c1
  obtain⟨hpl,hpr⟩:=sS k1 hls1 hps (fun l _=>ii _ l) (fun l hl=>hJ _ l (.inr hl))
  have k1x:wu (Mu M0 ρ (freezeLs σ.h (y'.ev σ).cells)) base w ρ (freezeLs σ.h (y'.ev σ).cells) r0 (.arr z es):=by
   have:=k1.objs ob _ r0 hcs1 hr0
   rcases hisD with rfl|rfl<;>exact this
  obtain⟨hz,hes,kx⟩:=k1x
  have hpt':∃b,r0=some b∧a.eval x= .pointer (some ⟨b,i*z+j,none⟩):=by rcases hisD with rfl|rfl<;>exact hpt
  obtain⟨b',rfl,hu⟩:=hpt'
  obtain⟨hbase,cur,cap,hrow,h1,h2,h3,h4⟩:=kx
  have hsz:(a.eval y).cells.size=n:=by rw[←hlen,hls.1];simp
  have hpn:ps.length=n:=by rw[hpl];simpa using hsz
  have hez:e.length=z:=hes e (Zk hei)
  have hilt:i<es.length:=(Zb.1 hei).1
  have hfit:i*z+j+n≤cur.size:=by
   rw[h1]
   calc i*z+j+n≤i*z+z:=by omega
    _=(i+1)*z:=by rw[Z7,Yv]
    _≤cap*z:=Zx _ (by omega)
  have hrun:=oh (P:=P) hn hrow hsz hfit hls.ones
  obtain⟨cur',hrow',hsz',hget⟩:=de b' (a.eval y).cells.toList (i*z+j) w cur hrow (by simp only[Yu,hsz];exact hfit)
  have hother:∀k,some b'≠some k→(w.setCells b' (i*z+j) (a.eval y).cells.toList).heap[k]? =w.heap[k]? :=fun k hk=>co b' _ _ w k (fun e=>hk (by rw[e]))
  have cell:∀{i1 j1:Nat}{e1:List PV}{p1:PV},(es.set i (putAt e j ps))[i1]? =some e1→e1[j1]? =some p1→
   (∃q,ps[q]? =some p1∧i1*z+j1=i*z+j+q∧cur'[i1*z+j1]? =(a.eval y).cells.toList[q]?)∨(∃e0,es[i1]? =some e0∧e0[j1]? =some p1∧cur'[i1*z+j1]? =cur[i1*z+j1]?):=by
   intro i1 j1 e1 p1 hi1 hj1
   rw[hget]
   simp only[Yu,hsz]
   by_cases hii:i=i1
   ·subst hii
    rw[Zd hilt]at hi1
    cases hi1
    rw[vy _ _ _ (by omega),hpn]at hj1
    split at hj1
    ·rename_i hin
     exact .inl ⟨j1-j,hj1,by omega,by rw[if_pos (by omega),show i*z+j1-(i*z+j)=j1-j by omega]⟩
    ·rename_i hin
     exact .inr ⟨e,hei,hj1,by rw[if_neg (by omega)]⟩
   ·rw[Za hii]at hi1
    have hj1z:j1<z:=by rw[←hes e1 (Zk hi1)];exact(Zb.1 hj1).1
    refine .inr ⟨e1,hi1,hj1,?_⟩
    rw[if_neg]
    intro hin
    have:∃q,q<z∧i1*z+j1=i*z+q:=⟨i1*z+j1-i*z,by omega,by omega⟩
    obtain⟨q,hq,e2⟩:=this
    exact hii (uz hj1z hq e2).1.symm
  have hall:∀e1∈es.set i (putAt e j ps),e1.length=z:=fun e1 he1=>by
   rcases Xn he1 with hm|rfl
   ·exact hes e1 hm
   ·rw[vz _ _ _ (by omega)];exact hez
  have hsim:qQ obj (.darr z (es.set i (putAt e j ps))):=by rcases hisD with rfl|rfl<;>exact⟨rfl,by simp⟩
  obtain⟨g1,g2⟩:=k1.toHR0.upd (w':=w.setCells b' (i*z+j) (a.eval y).cells.toList) (ob':= .darr z (es.set i (putAt e j ps))) hcs1 hr0 hmut hsim (cr b' _ _ w).symm hother
   (fun k c e hr=>by cases e;rw[hr.inj hrow];exact⟨cur',hrow',hsz'⟩)
   (fun c=>by
    refine⟨hz,hall,hbase,cur',cap,hrow',by rw[hsz'];exact h1,by simpa using h2,h3,fun i1 e1 j1 p1 hi1 hj1=> ?_⟩
    rcases cell hi1 hj1 with⟨q,hq,_,e2⟩|⟨e0,he0,hp0,e2⟩
    ·obtain⟨u,hu1,hu2⟩:=hpr q p1 hq
     exact⟨u,by rw[e2];exact hu1,ap.go c.go p1 u hu2⟩
    ·obtain⟨u,hu1,hu2⟩:=h4 i1 e0 j1 p1 he0 hp0
     exact⟨u,by rw[e2];exact hu1,ap.go c.go p1 u hu2⟩)
   (fun _ _ _ _ _ e=>by subst e;rcases hisD with h|h<;>cases h)
  have hpo:zo (y'.ev σ).cells ob=none:=Fz (M7 hna)
  obtain⟨hκb,hct⟩:=hcells b' rfl
  have hmv:∀{π:List Nat}{c:Nat}{κ':Nat→List Nat},(∀b τ,κ' b=[ob,c]++τ→b≠b')→BE κ' κ' w (w.setCells b' (i*z+j) (a.eval y).cells.toList) [ob,c] [ob,c]:=fun hne b τ _ e=>⟨e,hother b (fun e'=>hne b τ e (by cases e';rfl))⟩
  have hnb:∀b c τ,graft (y'.ev σ).cells ob (i*z+j) κ b=[ob,c]++τ→b≠b':=fun b c τ e e'=>by
   subst e'
   rw[p9 hpo hκb]at e
   simp at e
  have hdeep:Deep (graft (y'.ev σ).cells ob (i*z+j) κ) base (w.setCells b' (i*z+j) (a.eval y).cells.toList) ρ ((freezeLs σ.h (y'.ev σ).cells).set ob (.darr z (es.set i (putAt e j ps)))):=by
   have hobl:ob<(freezeLs σ.h (y'.ev σ).cells).length:=(Zb.1 hcs1).1
   have get:∀{q:Nat}{x:AObj},((freezeLs σ.h (y'.ev σ).cells).set ob (.darr z (es.set i (putAt e j ps))))[q]? =some x→(q=ob∧x= .darr z (es.set i (putAt e j ps)))∨(q≠ob∧(freezeLs σ.h (y'.ev σ).cells)[q]? =some x):=fun{q x}e'=>by
    by_cases hq:ob=q
    ·subst hq
     rw[Zd hobl]at e'
     cases e'
     exact .inl ⟨rfl,rfl⟩
    ·rw[Za hq]at e'
     exact .inr ⟨fun e2=>hq e2.symm,e'⟩
   refine⟨fun q x b hq hm hrq=> ?_,fun q x z1 es1 b hq hdq hrq=> ?_⟩
   ·rcases get hq with⟨rfl,rfl⟩|⟨_,hq'⟩
    ·rw[hr0]at hrq;cases hrq
     exact p9 hpo hκb
    ·exact(Deep.stay s.hr.toHR0 d hmov (w':=w) hq' hm hrq).1
   ·rcases get hq with⟨rfl,rfl⟩|⟨hne,hq'⟩
    ·rw[hr0]at hrq;cases hrq
     cases hdq
     intro i1 e1 j1 p1 hi1 hj1
     rcases cell hi1 hj1 with⟨m,hm1,e3,e2⟩|⟨e0,he0,hp0,e2⟩
     ·obtain⟨e4,e5⟩:=mX hps
      have hql:m<(y'.ev σ).cells.length:=by rw[←e4];exact(Zb.1 hm1).1
      have hlq:(y'.ev σ).cells[m]? =some (y'.ev σ).cells[m]:=by simp[hql]
      obtain⟨p',hp',hvw⟩:=e5 m _ hlq
      rw[hm1]at hp';cases hp'
      have huq:(a.eval y).cells.toList[m]? =some ((a.eval y).cells.toList[m]'(by rw[←hls.1];exact hql)):=by simp[←hls.1,hql]
      have T:=E0 s.hr.toHR0 d hnd (o:=q) (c0:=i*z+j) hlq (hls.2 m _ _ hlq huq) ((Zw.1 hmov) _ (Zg hql)) hvw
      refine⟨_,by rw[hrow'.cell,e2];exact huq,?_⟩
      rw[e3]
      exact eE.go (Zl _) p1 _ _ _ (hmv (π:=[]) (fun b τ e'=>hnb b _ τ e')) T
     ·obtain⟨v,hv,ht⟩:=hct i1 e0 j1 p1 he0 hp0
      rw[hrow.cell]at hv
      refine⟨v,by rw[hrow'.cell,e2];exact hv,?_⟩
      have T:=eE.go (κ':=graft (y'.ev σ).cells q (i*z+j) κ) (w':=w) (Zl base) p1 ([q]++[i1*z+j1]) ([q]++[i1*z+j1]) v (fun b τ _ e'=>⟨p9 (τ:=[i1*z+j1]++τ) hpo e',rfl⟩) ht
      exact eE.go (Zl _) p1 _ _ _ (hmv (π:=[]) (fun b τ e'=>hnb b _ τ e')) T
    ·have hmq:=AObj.deep_mut hdq
     refine(Deep.stay s.hr.toHR0 d hmov hq' hmq hrq).2 hdq (fun b2 c τ _ e2=>hother b2 (fun e3=> ?_)) (hother b (fun e3=> ?_))
     ·cases e3
      rw[hκb]at e2
      simp at e2
     ·cases e3
      have:=k1.apart q ob x obj b' hq' hcs1 hmq hmut hrq hr0
      exact hne this
  refine⟨.skip,undef,_,ρ,?_, .inr ⟨rfl,rfl⟩,bN b' base hbase _ _ w w (Below.refl _ _),⟨g1,_,hdeep,nz.graft (Nat.le_of_eq (cr b' _ _ w).symm) fun q z1 es1 hq=> ?_⟩,c1.trans g2,VR.undef⟩
  ·simp only[execOp,hop,hu]
   simp[hrun]
  ·by_cases hq':ob=q
   ·subst hq'
    rw[Zd (Zb.1 hcs1).1]at hq
    cases hq
   ·rw[Za hq']at hq
    exact⟨fun e=>hq' e.symm,kd _ hq rfl⟩
 ·cases hc
theorem wb :∀(vs:List V)(h:List AObj),freezeVs h vs=freezeLs h (vs.flatMap V.cells)
 |[],_=>rfl
 |v::vs,h=>by
  show freezeVs (freezeLs h v.cells) vs=_
  rw[wb vs]
  simp only[Yl,freezeLs,List.foldl_append]
theorem N3 {z:Nat}:∀{vs:List V},(∀v∈vs,v.cells.length=z)→∀{i j:Nat}{v:V},vs[i]? =some v→j<z→(vs.flatMap V.cells)[i*z+j]? =v.cells[j]?
 |[],_,i,j,v,h,_=>by simp at h
 |x::vs,hz,i,j,v,h,hj=>by
  have hx:x.cells.length=z:=hz x (by simp)
  cases i with
  |zero=>
   simp at h;subst h
   rw[Yl,Nat.zero_mul,Yc,Ze (by omega)]
  |succ i=>
   rw[Yl,Zh (by rw[hx,Z7];omega),hx,show(i+1)*z+j-z=i*z+j by rw[Z7];omega]
   exact N3 (fun v hv=>hz v (by simp[hv])) (by simpa using h) hj
theorem O5 (s:SR Γ M0 base σ a w ρ){o:Oper}{d:Md}{t:TypeId}{n z:Nat}{parts:Array (Nat×Operand)}{ps:List Opd}(hop:o.op= .buildSlice t n parts)
 (hc:eV P kf d o.op=some (.buildS z ps)) (hall:∀y∈ps,(y.ev σ).cells.length=z) (hz0:0<z) (h24:ps.length*z≤16777216) (hnt:∀y∈ps,∀xs,y.ev σ≠ .tup xs):
 ∃cells' e,(execOp a.eval o).run P w= .ok (.value (.slice (some ⟨w.heap.size,0,none⟩) ps.length ps.length)) (w.alloc (.cells cells' e))∧cells'.size=ps.length*z∧
  ∀(i:Nat)(y:Opd),ps[i]? =some y→∃us:List Value,ru (Mu M0 ρ σ.h) w ρ σ.h (y.ev σ).cells us∧∀j,j<z→cells'[i*z+j]? =us[j]? :=by
 rw[hop]at hc;simp only[eV]at hc
 split at hc
 ·rename_i e ps' ht hps
  split at hc
  ·rename_i z' v0 hsz hz
   split at hc
   ·rename_i hcond
    simp only[Zm,beq_iff_eq]at hcond
    obtain⟨hrange,hv0⟩:=hcond
    by_cases q:(d.st&&(ps'.isEmpty|| !d.dp))=true
    ·rw[if_pos q]at hc;cases hc
    rw[if_neg q]at hc
    cases hc
    obtain⟨i,hi,hz',hs'⟩:∃i,P.info? e=some i∧i.zero=some v0∧i.size=z:=by
     unfold m4 at hz;unfold o7 at hsz
     cases hi:P.info? e with
     |none=>simp[hi]at hz
     |some i=>simp[hi]at hz hsz;exact⟨i,rfl,hz,hsz⟩
    have hu:P.underlying t=some (.slice e):=by
     unfold gJ at ht
     split at ht<;>cases ht
     assumption
    have hplen:ps.length=n:=by rw[eT hps];have:=congrArg List.length hrange;simpa using this
    have hparts:(parts.map fun x=>(x.1,a.eval x.2)).toList=((parts.toList.map fun x=>a.eval x.2).zipIdx 0).map fun x=>(x.2,x.1):=by
     apply Xf
     intro k
     simp only[Yj,Zp,List.getElem?_zipIdx,Yc]
     have hk:(parts.toList.map (·.1))[k]? =(List.range n)[k]? :=by rw[hrange]
     simp only[Zp]at hk
     cases hq:parts.toList[k]? with
     |none=>simp
     |some q=>
      simp only[hq,Option.map_some]at hk⊢
      obtain⟨h1,h2⟩:=Zb.1 hk.symm
      simp at h2
      simp[←h2]
    have hval:∀(k:Nat)y,ps[k]? =some y→∃q,(parts.toList.map fun x=>a.eval x.2)[k]? =some q∧ru (Mu M0 ρ σ.h) w ρ σ.h (y.ev σ).cells q.cells.toList:=by
     intro k y hy
     have hk:k<parts.toList.length:=by rw[←eT hps];exact(Zb.1 hy).1
     obtain⟨y',hy',hcy⟩:=ib hps k parts.toList[k] (by simp[hk])
     rw[hy]at hy';cases hy'
     exact⟨_,by rw[Zp,Zr hk];rfl,(aw s hcy).cells (hnt y (Zk hy))⟩
    have hnl:(parts.toList.map fun x=>a.eval x.2).length=n:=by rw[Zs,←eT hps,hplen]
    have hsizes:∀u∈(parts.toList.map fun x=>a.eval x.2),u.cells.size=z:=by
     intro u hu'
     obtain⟨k,hk,rfl⟩:=Yp hu'
     have hkp:k<ps.length:=by rw[hplen,←hnl];exact hk
     obtain⟨q,hq,hl⟩:=hval k ps[k] (by simp[hkp])
     rw[Zr hk]at hq;cases hq
     rw[←hall ps[k] (Zg hkp),hl.1];simp
    obtain⟨cells',hf1,hf2,hf3,_⟩:=sQ (z:=z) (parts.toList.map fun x=>a.eval x.2) 0 ((Array.range (n*z)).map (v0.cells[· %v0.cells.size]!)) hsizes (by rw[hnl];simp)
    rw[←hparts,Yj]at hf1
    have hn24:¬n*z>2^24:=by rw[hplen]at h24;omega
    have hrun:(Instr.buildSlice t n (parts.map fun x=>(x.1,a.eval x.2))).run P w= .ok (.slice (some ⟨w.heap.size,0,none⟩) n n) (w.alloc (.cells cells' e)):=by
     simp only[Instr.buildSlice,Sem.run_bind,run_underlying hu,Result.andThen_ok,kO e hsz]
     rw[if_neg hn24]
     by_cases hnz:n*z=0
     ·have hr0:Array.range (n*z)= #[]:=by rw[hnz];rfl
      rw[hr0]at hf1
      simp only[hnz,if_true,Sem.run_bind,Sem.run_pure,Result.andThen_ok]
      have hr1:Array.range 0= #[]:=rfl
      simp only[hr1,Array.map_empty]at hf1⊢
      simp[hf1,newRow]
     ·simp only[hnz,if_false]
      have hzv:(zeroValue e).run P w= .ok v0 w:=by simp[zeroValue,typeInfo,hi,hz']
      simp[hzv,hf1,newRow]
    refine⟨cells',e,?_,by rw[hf2,hplen];simp,fun i y hy=> ?_⟩
    ·simp only[execOp,hop,hplen]
     have:(parts.map fun(x:Nat×Operand)=>match x with|(i,x)=>(i,a.eval x))=parts.map fun x=>(x.1,a.eval x.2):=rfl
     simp only[Sem.run_bind]
     first|rw[hrun]|(rw[this,hrun])
     simp
    ·obtain⟨q,hq,hl⟩:=hval i y hy
     refine⟨_,hl,fun j hj=> ?_⟩
     have:=hf3 i j q hq hj
     rw[Yc]at this
     rw[this]
     simp
   ·cases hc
  ·cases hc
 ·cases hc
theorem It (s:SR Γ M0 base σ a w ρ){o:Oper}{dm:Md}{t:TypeId}{n z:Nat}{parts:Array (Nat×Operand)}{ps:List Opd}(hop:o.op= .buildSlice t n parts)
 (hc:eV P kf dm o.op=some (.buildS z ps)) (hall:∀y∈ps,(y.ev σ).cells.length=z) (hz0:0<z) (h24:ps.length*z≤16777216) (hmov:((ps.map (Opd.ev σ)).flatMap V.cells).all (L.mov σ.h)=true)
 (hnd:(al ((ps.map (Opd.ev σ)).flatMap V.cells)).Nodup) {es:List (List PV)} (hes:aV σ.h (ps.map (Opd.ev σ))=some es):
 jC P M0 base σ w ρ (.one (.arr (freezeVs σ.h (ps.map (Opd.ev σ))).length)) (freezeVs σ.h (ps.map (Opd.ev σ))++[.darr z es]) (execOp a.eval o):=by
 have hnt:∀y∈ps,∀xs,y.ev σ≠ .tup xs:=by
  intro y hy xs e
  obtain⟨k,hk,rfl⟩:=Yp hy
  obtain⟨e1,_,he1⟩:=(iY hes).2 k (ps[k].ev σ) (by simp[hk])
  rw[e]at he1
  simp[V.cells,viewL,L.view]at he1
 obtain⟨cells',e,hrun,hcs,hpart⟩:=O5 s hop hc hall hz0 h24 hnt
 obtain⟨k1,c1⟩:=s.hr.freezeVs (ps.map (Opd.ev σ))
 obtain⟨κ,d,nz⟩:=s.hr.deep
 have hel:es.length=ps.length:=by rw[(iY hes).1];simp
 have hlz:∀v∈ps.map (Opd.ev σ),v.cells.length=z:=by
  intro v hv
  obtain⟨y,hy,rfl⟩:=Yo.1 hv
  exact hall y hy
 have cell:∀{i j:Nat}{e1:List PV}{p:PV},es[i]? =some e1→e1[j]? =some p→∃l v,((ps.map (Opd.ev σ)).flatMap V.cells)[i*z+j]? =some l∧LR (Mu M0 ρ σ.h) w ρ σ.h l v∧l.view σ.h=some p∧cells'[i*z+j]? =some v:=by
  intro i j e1 p he1 hp
  have hi:i<ps.length:=by rw[←hel];exact(Zb.1 he1).1
  have hy:ps[i]? =some ps[i]:=by simp[hi]
  obtain⟨us,hl,hc'⟩:=hpart i _ hy
  obtain⟨e2,he2,hv2⟩:=(iY hes).2 i (ps[i].ev σ) (by simp[hi])
  rw[he1]at he2;cases he2
  obtain⟨q1,q2⟩:=mX hv2
  have hj:j<(ps[i].ev σ).cells.length:=by rw[←q1];exact(Zb.1 hp).1
  have hjz:j<z:=by rw[←hall _ (Zg hi)];exact hj
  have hlj:(ps[i].ev σ).cells[j]? =some (ps[i].ev σ).cells[j]:=by simp[hj]
  obtain⟨p',hp',hvw⟩:=q2 j _ hlj
  rw[hp]at hp';cases hp'
  have hju:j<us.length:=by rw[←hl.1];exact hj
  exact⟨_,us[j],(N3 hlz (by simp[hi]) hjz).trans hlj,hl.2 j _ _ hlj (by simp[hju]),hvw,by rw[hc' j hjz];simp[hju]⟩
 have hall':∀e1∈es,e1.length=z:=fun e1 he1=>by
  obtain⟨k,hk,rfl⟩:=Yp he1
  obtain⟨e2,he2,hv2⟩:=(iY hes).2 k (ps[k]'(by omega)|>.ev σ) (by simp[show k<ps.length by omega])
  rw[Zr hk]at he2;cases he2
  rw[(mX hv2).1]
  exact hall _ (Zg _)
 have hold:∀b,b<w.heap.size→(w.alloc (.cells cells' e)).heap[b]? =w.heap[b]? :=fun b hb=>fg w _ b hb
 rw[wb]at k1 c1⊢
 generalize hls:(ps.map (Opd.ev σ)).flatMap V.cells=ls at*
 obtain⟨g1,g2⟩:=k1.toHR0.push (w':=w.alloc (.cells cells' e)) (by simp) hold (some w.heap.size) (.darr z es) (fun b e=>by cases e;exact Zl _)
  (fun c=>⟨hz0,hall',k1.le,cells',ps.length,gg.new w cells' e,hcs,by omega,by
   have:ps.length≤ps.length*z:=Nat.le_mul_of_pos_right _ hz0
   simp only[maxLen];omega,fun i e1 j p he1 hp=>by
   obtain⟨l,v,h1,h2,h3,h4⟩:=cell he1 hp
   refine⟨v,h4,ap.go c.go p v ?_⟩
   exact mY k1 (h2.ch c1) (by rw[ii];exact h3) (hJ _ l (.inr (Zk h1)))⟩)
 have hN:(freezeLs σ.h ls).length=σ.h.length:=mM ls
 refine⟨_, .slice (some ⟨w.heap.size,0,none⟩) ps.length ps.length,_,ρ++[some w.heap.size],hrun, .inl rfl,(Below.refl _ _).alloc s.hr.le _,⟨g1,fun b=>if b=w.heap.size then [(freezeLs σ.h ls).length]else graft ls (freezeLs σ.h ls).length 0 κ b,⟨fun i x b hi hx hri=> ?_,fun i x z1 es1 b hi hd hri=> ?_⟩,?_⟩,c1.trans g2,?_⟩
 ·by_cases hlt:i<(freezeLs σ.h ls).length
  ·rw[Ze hlt]at hi
   rw[Ze (by rw[k1.len];exact hlt)]at hri
   have hb:=(k1.objs i x _ hi hri).lt (AObj.mut_live hx)
   rw[if_neg (by omega)]
   exact(Deep.stay s.hr.toHR0 d hmov (w':=w) hi hx hri).1
  ·have h1:=(Zb.1 hi).1
   simp at h1
   obtain rfl:i=(freezeLs σ.h ls).length:=by omega
   rw[←k1.len]at hri
   simp at hri
   rw[if_pos hri.symm]
 ·by_cases hlt:i<(freezeLs σ.h ls).length
  ·rw[Ze hlt]at hi
   rw[Ze (by rw[k1.len];exact hlt)]at hri
   have hx:=AObj.deep_mut hd
   have hb:=(k1.objs i x _ hi hri).lt (AObj.mut_live hx)
   have T:=(Deep.stay s.hr.toHR0 d hmov (o:=(freezeLs σ.h ls).length) (c0:=0) (w':=w) hi hx hri).2 hd (fun _ _ _ _ _=>rfl) rfl
   exact T.go (Zl _) (fun o _=>by unfold World.cell?;rw[hold b hb]) ((k1.objs i x _ hi hri).rows hd).2 (fun c b' τ hb' e'=>⟨by rw[if_neg (by omega)];exact e',hold b' hb'⟩)
  ·have h1:=(Zb.1 hi).1
   simp at h1
   obtain rfl:i=(freezeLs σ.h ls).length:=by omega
   rw[←k1.len]at hri
   simp at hri hi
   subst hi;subst hri
   cases hd
   intro i1 e1 j1 p1 he1 hp1
   obtain⟨l,v,q1,q2,q3,q4⟩:=cell he1 hp1
   refine⟨v,by rw[(gg.new w cells' e).cell];exact q4,?_⟩
   have T:=E0 s.hr.toHR0 d hnd (o:=(freezeLs σ.h ls).length) (c0:=0) q1 q2 ((Zw.1 hmov) _ (Zk q1)) q3
   rw[Yc]at T
   exact eE.go (Zl _) p1 _ _ v (fun b' τ hb' e'=>⟨by rw[if_neg (by omega)];exact e',hold b' hb'⟩) T
 ·have nz':=nz.graft (w':=w) (h':=freezeLs σ.h ls++[.darr z es]) (ls:=ls) (o:=(freezeLs σ.h ls).length) (c0:=0) (Zl _) (fun i z1 es1 hi=>by
   by_cases hlt:i<(freezeLs σ.h ls).length
   ·rw[Ze hlt]at hi
    exact⟨by omega,kd _ hi rfl⟩
   ·have h1:=(Zb.1 hi).1
    simp at h1
    obtain rfl:i=(freezeLs σ.h ls).length:=by omega
    simp at hi)
  refine⟨fun b hb=> ?_,fun b i c τ z1 es1 e hi=> ?_⟩
  ·have:(w.alloc (.cells cells' e)).heap.size=w.heap.size+1:=by simp
   rw[if_neg (by omega)]
   exact nz'.new b (by omega)
  ·split at e
   ·cases e
   ·exact nz'.zone b i c τ z1 es1 e hi
 ·refine⟨some w.heap.size, .darr z es,by rw[←k1.len];simp,by simp,cells',ps.length,gg.new w cells' e,hcs,by omega,?_,by rw[hel]⟩
  have:ps.length≤ps.length*z:=Nat.le_mul_of_pos_right _ hz0
  simp only[maxLen];omega
end
end Gi
