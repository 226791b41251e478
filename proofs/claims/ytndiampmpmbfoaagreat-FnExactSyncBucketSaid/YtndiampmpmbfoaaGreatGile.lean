/- A part. -/
import Derived.Test.YtndiampmpmbfoaaGreatGild
set_option linter.all false
namespace Gi
open Go Go.RowKit
variable {KI:KF}
def L.bo (o:Nat):L->Bool
 | .arr x=>x==o
 |_=>false
def AE (ls:List L)(o:Nat):Option Nat:=ls.findIdx? (L.bo o)
def qk {ls:List L}{o:Nat}:o∈aj ls↔L.arr o∈ls:=by
 simp only[aj,List.mem_filterMap]
 constructor
 ·rintro⟨l,hl,he⟩
  cases l<;>simp at he
  subst he;exact hl
 ·intro h
  exact⟨_,h,rfl⟩
def M6 :∀{ls:List L},(aj ls).Nodup->∀{q o:Nat},ls[q]? =some (.arr o)->AE ls o=some q
 |[],_,q,o,h=>by simp at h
 |l::ls,hn,q,o,h=>by
  have bS:(aj ls).Nodup:=by
   cases l with
   |arr x=>exact(L'.1 (by simpa[aj]using hn)).2
   |_=>simpa[aj]using hn
  cases q with
  |zero=>
   simp at h;subst h
   simp[AE,L.bo,List.findIdx?_cons]
  |succ q=>
   have h':ls[q]? =some (.arr o):=by simpa using h
   have ih:=M6 bS h'
   have av:L.bo o l=false:=by
    cases l with
    |arr x=>
     have:=(L'.1 (show(x::aj ls).Nodup by simpa[aj]using hn)).1
     simp only[L.bo,beq_eq_false_iff_ne]
     intro e;subst e
     exact this (qk.2 (Zl h'))
    |_=>rfl
   unfold AE at ih⊢
   rw[List.findIdx?_cons,av,ih]
   rfl
def GY {ls:List L}{o:Nat}(h:¬o∈aj ls):AE ls o=none:=by
 unfold AE
 rw[Zb1]
 intro l hl
 cases l with
 |arr x=>
  simp only[L.bo,beq_eq_false_iff_ne]
  intro e;subst e
  exact h (qk.2 hl)
 |_=>rfl
def OR {ls:List L}{o:Nat}(h:ls.all (L.bC o)=true):¬o∈aj ls:=by
 intro hm
 have:=(Zt.1 h) _ (qk.1 hm)
 simp[L.bC]at this
def graft (ls:List L)(o c0:Nat)(κ:Nat->List Nat)(b:Nat):List Nat:=
 match κ b with
 |x::X=>(match AE ls x with
  |some q=>o::(c0+q)::X
  |none=>x::X)
 |[]=>[]
def qS {ls:List L}{o c0 x:Nat}{κ:Nat->List Nat}{b:Nat}{X:List Nat}(hp:AE ls x=none)(e:κ b=x::X):graft ls o c0 κ b=x::X:=by
 simp only[graft,e,hp]
def Gs {ls:List L}{o c0 x q:Nat}{κ:Nat->List Nat}{b:Nat}{X:List Nat}(hp:AE ls x=some q)(e:κ b=x::X):graft ls o c0 κ b=o::(c0+q)::X:=by
 simp only[graft,e,hp]
def Ba {M:Nat->Prop}{w:World}{κ:Nat->List Nat}{lo:Nat}{π:List Nat}{p:PV}{v:Value}(hb:p.bare=true)(r:aq M w p v):eP κ lo w p π v:=by
 cases p with
 |int k n=>simpa only[eP,aq]using r
 |bool b=>simpa only[eP,aq]using r
 |str s=>simpa only[eP,aq]using r
 |lst es=>
  cases es with
  |cons e es=>simp[PV.bare]at hb
  |nil=>
   simp only[aq]at r
   simp only[eP]
   rcases r with r|⟨b,o,c,z,rfl,_⟩
   ·exact .inl r
   ·exact .inl ⟨by trivial,_,_,rfl⟩
def CS {es:List (List PV)}(h:fV es=true){i j:Nat}{e:List PV}{p:PV}(he:es[i]? =some e)(hp:e[j]? =some p):p.bare=true:=by
 simp only[fV,Zt]at h
 exact h e (Zl he) p (Zl hp)
def Y0.br (z:Nat)(es:List (List PV))(ob:Y0):Prop:=ob= .arr z es \/ob= .bA z es
section
variable {Γ:Ctx}{P:Program}{M0:Nat->Prop}{base:Nat}{Z:St}{a:Act}{w:World}{J:List (Option Nat)}
def Uk {M:Nat->Prop}{h:List Y0}{κ:Nat->List Nat}{r:Option Nat}{z:Nat}{es:List (List PV)}{π:List Nat}{v:Value}(k:xX M base w J h r (.arr z es))(hs:ou w (.arr z es) r v)
 (hκ:∀b,r=some b->κ b=π/\ rU κ base w z es π b):eP κ base w (.lst es) π v:=by
 obtain⟨hz,ak,kx⟩:=k
 simp only[eP]
 cases r with
 |none=>
  obtain rfl:es=[]:=kx
  obtain⟨ad,hs⟩:=hs
  exact .inl ⟨by trivial,_,_,hs⟩
 |some b=>
  obtain⟨af,cur,cap,a5,h1,h2,h3,_⟩:=kx
  obtain⟨cur',aH,a2,bT,_,_,rfl⟩:=hs
  cases a5.inj a2
  have:aH=cap:=S' hz (bT.symm.trans h1)
  subst this
  obtain⟨q1,q2⟩:=hκ b rfl
  exact .inr ⟨b,aH,z,cur,rfl,af,q1,hz,a5,h1,h2,h3,q2.ll ak⟩
def iI {h:List Y0}(k:HR0 M0 base w J h){κ:Nat->List Nat}(d:Deep κ base w J h){o z:Nat}{es:List (List PV)}(hd:bf h o=some (z,es)){r:Option Nat}(hr:J[o]? =some r):
 ∃ob,h[o]? =some ob/\ ob.br z es/\ ob.mut=true/\ xX (Mu M0 J h) base w J h r (.arr z es)/\ ∀b,r=some b->κ b=[o]/\ rU κ base w z es [o] b:=by
 unfold bf at hd
 split at hd
 ·rename_i z' es' ho
  split at hd
  ·rename_i hb
   cases hd
   have k0:=k.objs o _ r ho hr
   refine⟨_,ho, .inl rfl,rfl,k0,fun b e=>⟨d.root o _ b ho rfl (by rw[hr,e]),fun i e1 j p he hp=> ?_⟩⟩
   subst e
   obtain⟨_,_,_,cur,cap,a5,_,_,_,h4⟩:=k0
   obtain⟨v,hv,bU⟩:=h4 i e1 j p he hp
   exact⟨v,by rw[a5.cell];exact hv,Ba (CS hb he hp) bU⟩
  ·cases hd
 ·rename_i z' es' ho
  cases hd
  have k0:=k.objs o _ r ho hr
  refine⟨_,ho, .inr rfl,rfl,k0,fun b e=>⟨d.root o _ b ho rfl (by rw[hr,e]),d.tree o _ z es b ho rfl (by rw[hr,e])⟩⟩
 ·cases hd
def Gr {h:List Y0}(k:HR0 M0 base w J h){κ:Nat->List Nat}(d:Deep κ base w J h){ls:List L}(hn:(aj ls).Nodup){o c0 q:Nat}{l:L}{v:Value}{p:PV}
 (hq:ls[q]? =some l) (hv:LR (Mu M0 J h) w J h l v) (hm:l.bG h=true) (hp:l.view h=some p):eP (graft ls o c0 κ) base w p [o,c0+q] v:=by
 cases l with
 |pv p'=>
  simp only[L.view]at hp;cases hp
  exact Ba hm hv
 |nil=>
  simp only[L.view]at hp;cases hp
  obtain⟨_,rfl⟩:=hv
  simp only[eP]
  exact .inl ⟨by trivial,_,_,rfl⟩
 |arr o2=>
  obtain⟨r,ob,hr,aA,hs⟩:=hv
  have aI:=M6 hn hq
  have aW:∃z es,bf h o2=some (z,es)/\ p= .lst es/\ ou w (.arr z es) r v:=by
   simp only[L.bG,aA]at hm
   simp only[L.view,aA]at hp
   cases ob with
   |arr z es=>cases hp;exact⟨z,es,by simp[bf,aA,hm],rfl,hs⟩
   |bA z es=>cases hp;exact⟨z,es,by simp[bf,aA],rfl,hs⟩
   |_=>cases hm
  obtain⟨z,es,hd,rfl,bt⟩:=aW
  obtain⟨ob',_,_,_,k0,hc⟩:=iI k d hd hr
  refine Uk k0 bt fun b e=> ?_
  obtain⟨q1,q2⟩:=hc b e
  exact⟨Gs aI q1,q2.go (Zn _) (fun _ _=>rfl) k0.2.1 (fun c b' X _ e'=>⟨Gs aI e',rfl⟩)⟩
 |_=>cases hm
def MA {h:List Y0}{l:L}{i:Nat}{x:Y0}(hx:(freezeL h l)[i]? =some x):h[i]? =some x \/∃z es,x= .bH z es:=by
 cases l with
 |arr o=>
  simp only[freezeL]at hx
  split at hx
  ·rename_i z es ho
   by_cases e:o=i
   ·subst e
    rw[Zd (Zb.1 ho).1]at hx
    cases hx;exact .inr ⟨_,_,rfl⟩
   ·rw[Za e]at hx;exact .inl hx
  ·rename_i z es ho
   by_cases e:o=i
   ·subst e
    rw[Zd (Zb.1 ho).1]at hx
    cases hx;exact .inr ⟨_,_,rfl⟩
   ·rw[Za e]at hx;exact .inl hx
  ·exact .inl hx
 |_=>exact .inl hx
def lC :∀(ls:List L){h:List Y0}{i:Nat}{x:Y0},(freezeLs h ls)[i]? =some x->x.mut=true->h[i]? =some x
 |[],_,_,_,hx,_=>hx
 |l::ls,h,i,x,hx,hm=>by
  rcases MA (lC ls (h:=freezeL h l) hx hm)with h1|⟨z,es,rfl⟩
  ·exact h1
  ·cases hm
def Kg {h:List Y0}{l:L}{o:Nat}{x:Y0}(hl:l.bC o=true)(hx:h[o]? =some x):(freezeL h l)[o]? =some x:=by
 cases l with
 |arr o'=>
  simp only[freezeL]
  have av:o'≠o:=by simpa[L.bC]using hl
  split
  ·rw[Za av];exact hx
  ·rw[Za av];exact hx
  ·exact hx
 |_=>exact hx
def qR {o:Nat}{x:Y0}:∀(ls:List L){h:List Y0},ls.all (L.bC o)=true->h[o]? =some x->(freezeLs h ls)[o]? =some x
 |[],_,_,hx=>hx
 |l::ls,h,hl,hx=>by
  simp only[Zq,Zh]at hl
  exact qR ls (h:=freezeL h l) hl.2 (Kg hl.1 hx)
def nZ :∀(ls:List L){h:List Y0},(freezeLs h ls).length=h.length
 |[],_=>rfl
 |l::ls,h=>by
  show(freezeLs (freezeL h l) ls).length=h.length
  rw[nZ ls]
  cases l with
  |arr o=>
   simp only[freezeL]
   split<;>simp
  |_=>rfl
def xG {h:List Y0}{ls:List L}(hm:∀o,L.arr o∈ls->L.bG h (.arr o)=true){i:Nat}{x:Y0}(hx:(freezeLs h ls)[i]? =some x)(a8:x.mut=true):¬i∈aj ls:=by
 intro hi
 have hl:=qk.1 hi
 have h0:=lC ls hx a8
 have h1:=iK ls (h:=h) (.arr i) (.inr hl)
 have h2:=hm _ hl
 simp only[L.mut,hx]at h1
 simp only[L.bG,h0]at h2
 cases x<;>first|(simp at h1;done)|(simp at h2;done)
def Deep.stay {h:List Y0}(k:HR0 M0 base w J h){κ:Nat->List Nat}(d:Deep κ base w J h){ls:List L}(hm:ls.all (L.bG h)=true){o c0:Nat}{w':World}{i:Nat}{x:Y0}(hx:(freezeLs h ls)[i]? =some x)(a8:x.mut=true){b:Nat}(a7:J[i]? =some (some b)):
 graft ls o c0 κ b=[i]/\ ∀{z:Nat}{es:List (List PV)},x.deep=some (z,es)->(∀b' c X,b'<w.heap.size->κ b'=i::c::X->w'.heap[b']? =w.heap[b']?)->w'.heap[b]? =w.heap[b]? ->rU (graft ls o c0 κ) base w' z es [i] b:=by
 have hp:=GY (xG (fun o ho=>(Zt.1 hm) _ ho) hx a8)
 have h0:=lC ls hx a8
 refine⟨qS hp (d.root i x b h0 a8 a7),fun{z es}hd hw bV=> ?_⟩
 exact(d.tree i x z es b h0 hd a7).go (Zn _) (fun o _=>by unfold World.cell?;rw[bV]) ((k.objs i x _ h0 a7).rows hd).2 (fun c b' X an e=>⟨qS hp e,hw b' c X an e⟩)
def Zon.graft {κ:Nat->List Nat}{h h':List Y0}{w':World}(n:Zon κ M0 w h){ls:List L}{o c0:Nat}(hs:w.heap.size<=w'.heap.size)(hz:∀i z es,h'[i]? =some (.bB z es)->i≠o/\ h[i]? =some (.bB z es)):Zon (Gi.graft ls o c0 κ) M0 w' h':=by
 refine⟨fun b hb=>by simp only[Gi.graft,n.new b (by omega)],fun b i c X z es e hi=> ?_⟩
 obtain⟨h1,h2⟩:=hz i z es hi
 simp only[Gi.graft]at e
 split at e
 ·rename_i x τ0 hk
  split at e
  ·cases e;exact absurd rfl h1
  ·exact n.zone b i c X z es (by rw[hk];exact e) h2
 ·cases e
def KY (s:SR Γ M0 base Z a w J){o:Oper}{dm:Md}{t:TypeId}{x y:Operand}{n:Nat}{x' y':Opd}(aB:o.op= .store t x y)
 (hc:fX P kf dm o.op=some (.store n x' y')) {ob i j:Nat} (bW:x'.ev Z= .one (.ptr ob i j)) {z:Nat} {es:List (List PV)} (hd:bf Z.h ob=some (z,es)) {e ps:List PV} (hei:es[i]? =some e) (ao:viewL Z.h (y'.ev Z).cells=some ps)
 (hlen:(y'.ev Z).cells.length=n) (hle:j+n<=e.length) (bu:(y'.ev Z).cells.all (L.bC ob)=true) (ae:(y'.ev Z).cells.all (L.bG Z.h)=true) (aZ:(aj (y'.ev Z).cells).Nodup):
 kO P M0 base Z w J (.b9 []) ((freezeLs Z.h (y'.ev Z).cells).set ob (.bA z (es.set i (putAt e j ps)))) (execOp a.eval o):=by
 rw[aB]at hc;simp only[fX]at hc
 split at hc
 ·rename_i n1 x1 y1 hn hx hy
  cases hc
  have rx:=aD s hx
  have ry:=aD s hy
  rw[bW]at rx
  obtain⟨r0,obj,aw,aA,bX⟩:=rx
  have aJ:∀xs,y'.ev Z≠ .b9 xs:=by
   intro xs e'
   rw[e']at ao
   simp[V.cells,viewL,L.view]at ao
  have aC:=ry.cells aJ
  obtain⟨κ,d,nz⟩:=s.hr.deep
  obtain⟨ck,aK,ar,a8,k0,aE⟩:=iI s.hr.toHR0 d hd aw
  rw[aK]at aA;cases aA
  obtain⟨k1,c1⟩:=s.hr.freezeLs (y'.ev Z).cells
  have ah:=qR (y'.ev Z).cells bu aK
  have b0:tg (Mu M0 J (freezeLs Z.h (y'.ev Z).cells)) w J (freezeLs Z.h (y'.ev Z).cells) (y'.ev Z).cells (a.eval y).cells.toList:=aC.ch c1
  obtain⟨bY,bZ⟩:=uo k1 b0 ao (fun l _=>iS _ l) (fun l hl=>iK _ l (.inr hl))
  have c2:xX (Mu M0 J (freezeLs Z.h (y'.ev Z).cells)) base w J (freezeLs Z.h (y'.ev Z).cells) r0 (.arr z es):=by
   have:=k1.objs ob _ r0 ah aw
   rcases ar with rfl|rfl<;>exact this
  obtain⟨hz,ak,kx⟩:=c2
  have b1:∃b,r0=some b/\ a.eval x= .pointer (some ⟨b,i*z+j,none⟩):=by rcases ar with rfl|rfl<;>exact bX
  obtain⟨b',rfl,hu⟩:=b1
  obtain⟨af,cur,cap,a5,h1,h2,h3,h4⟩:=kx
  have au:(a.eval y).cells.size=n:=by rw[<-hlen,aC.1];simp
  have c3:ps.length=n:=by rw[bY];simpa using au
  have c4:e.length=z:=ak e (Zl hei)
  have b3:i<es.length:=(Zb.1 hei).1
  have aL:i*z+j+n<=cur.size:=by
   rw[h1]
   calc i*z+j+n<=i*z+z:=by omega
    _=(i+1)*z:=by rw[Nat.add_mul,D']
    _<=cap*z:=ZH _ (by omega)
  have ag:=pq (P:=P) hn a5 au aL aC.cO
  obtain⟨cur',a2,aM,b4⟩:=eC b' (a.eval y).cells.toList (i*z+j) w cur a5 (by simp only[N',au];exact aL)
  have a6:∀k,some b'≠some k->(w.setCells b' (i*z+j) (a.eval y).cells.toList).heap[k]? =w.heap[k]? :=fun k hk=>dP b' _ _ w k (fun e=>hk (by rw[e]))
  have cell:∀{i1 j1:Nat}{e1:List PV}{p1:PV},(es.set i (putAt e j ps))[i1]? =some e1->e1[j1]? =some p1->
   (∃q,ps[q]? =some p1/\ i1*z+j1=i*z+j+q/\ cur'[i1*z+j1]? =(a.eval y).cells.toList[q]?) \/(∃e0,es[i1]? =some e0/\ e0[j1]? =some p1/\ cur'[i1*z+j1]? =cur[i1*z+j1]?):=by
   intro i1 j1 e1 p1 hi1 al
   rw[b4]
   simp only[N',au]
   by_cases b5:i=i1
   ·subst b5
    rw[Zd b3]at hi1
    cases hi1
    rw[wW _ _ _ (by omega),c3]at al
    split at al
    ·rename_i bw
     exact .inl ⟨j1-j,al,by omega,by rw[if_pos (by omega),show i*z+j1-(i*z+j)=j1-j by omega]⟩
    ·rename_i bw
     exact .inr ⟨e,hei,al,by rw[if_neg (by omega)]⟩
   ·rw[Za b5]at hi1
    have b6:j1<z:=by rw[<-ak e1 (Zl hi1)];exact(Zb.1 al).1
    refine .inr ⟨e1,hi1,al,?_⟩
    rw[if_neg]
    intro bw
    have:∃q,q<z/\ i1*z+j1=i*z+q:=⟨i1*z+j1-i*z,by omega,by omega⟩
    obtain⟨q,hq,e2⟩:=this
    exact b5 (vD b6 hq e2).1.symm
  have aa:∀e1∈es.set i (putAt e j ps),e1.length=z:=fun e1 he1=>by
   rcases Q' he1 with hm|rfl
   ·exact ak e1 hm
   ·rw[wX _ _ _ (by omega)];exact c4
  have b7:sI obj (.bA z (es.set i (putAt e j ps))):=by rcases ar with rfl|rfl<;>exact⟨rfl,by simp⟩
  obtain⟨g1,g2⟩:=k1.toHR0.c0 (w':=w.setCells b' (i*z+j) (a.eval y).cells.toList) (ob':= .bA z (es.set i (putAt e j ps))) ah aw a8 b7 (dR b' _ _ w).symm a6
   (fun k c e hr=>by cases e;rw[hr.inj a5];exact⟨cur',a2,aM⟩)
   (fun c=>by
    refine⟨hz,aa,af,cur',cap,a2,by rw[aM];exact h1,by simpa using h2,h3,fun i1 e1 j1 p1 hi1 al=> ?_⟩
    rcases cell hi1 al with⟨q,hq,_,e2⟩|⟨e0,b8,ba,e2⟩
    ·obtain⟨u,bb,bc⟩:=bZ q p1 hq
     exact⟨u,by rw[e2];exact bb,aq.go c.go p1 u bc⟩
    ·obtain⟨u,bb,bc⟩:=h4 i1 e0 j1 p1 b8 ba
     exact⟨u,by rw[e2];exact bb,aq.go c.go p1 u bc⟩)
   (fun _ _ _ _ _ e=>by subst e;rcases ar with h|h<;>cases h)
  have bd:AE (y'.ev Z).cells ob=none:=GY (OR bu)
  obtain⟨hκb,c5⟩:=aE b' rfl
  have aW:∀{π:List Nat}{c:Nat}{κ':Nat->List Nat},(∀b X,κ' b=[ob,c]++X->b≠b')->CP κ' κ' w (w.setCells b' (i*z+j) (a.eval y).cells.toList) [ob,c] [ob,c]:=fun av b X _ e=>⟨e,a6 b (fun e'=>av b X e (by cases e';rfl))⟩
  have bx:∀b c X,graft (y'.ev Z).cells ob (i*z+j) κ b=[ob,c]++X->b≠b':=fun b c X e e'=>by
   subst e'
   rw[qS bd hκb]at e
   simp at e
  have aN:Deep (graft (y'.ev Z).cells ob (i*z+j) κ) base (w.setCells b' (i*z+j) (a.eval y).cells.toList) J ((freezeLs Z.h (y'.ev Z).cells).set ob (.bA z (es.set i (putAt e j ps)))):=by
   have bg:ob<(freezeLs Z.h (y'.ev Z).cells).length:=(Zb.1 ah).1
   have get:∀{q:Nat}{x:Y0},((freezeLs Z.h (y'.ev Z).cells).set ob (.bA z (es.set i (putAt e j ps))))[q]? =some x->(q=ob/\ x= .bA z (es.set i (putAt e j ps))) \/(q≠ob/\ (freezeLs Z.h (y'.ev Z).cells)[q]? =some x):=fun{q x}e'=>by
    by_cases hq:ob=q
    ·subst hq
     rw[Zd bg]at e'
     cases e'
     exact .inl ⟨rfl,rfl⟩
    ·rw[Za hq]at e'
     exact .inr ⟨fun e2=>hq e2.symm,e'⟩
   refine⟨fun q x b hq hm ax=> ?_,fun q x z1 aO b hq bh ax=> ?_⟩
   ·rcases get hq with⟨rfl,rfl⟩|⟨_,ay⟩
    ·rw[aw]at ax;cases ax
     exact qS bd hκb
    ·exact(Deep.stay s.hr.toHR0 d ae (w':=w) ay hm ax).1
   ·rcases get hq with⟨rfl,rfl⟩|⟨av,ay⟩
    ·rw[aw]at ax;cases ax
     cases bh
     intro i1 e1 j1 p1 hi1 al
     rcases cell hi1 al with⟨m,bz,e3,e2⟩|⟨e0,b8,ba,e2⟩
     ·obtain⟨e4,e5⟩:=oh ao
      have aX:m<(y'.ev Z).cells.length:=by rw[<-e4];exact(Zb.1 bz).1
      have bj:(y'.ev Z).cells[m]? =some (y'.ev Z).cells[m]:=by simp[aX]
      obtain⟨p',aP,bk⟩:=e5 m _ bj
      rw[bz]at aP;cases aP
      have bD:(a.eval y).cells.toList[m]? =some ((a.eval y).cells.toList[m]'(by rw[<-aC.1];exact aX)):=by simp[<-aC.1,aX]
      have T:=Gr s.hr.toHR0 d aZ (o:=q) (c0:=i*z+j) bj (aC.2 m _ _ bj bD) ((Zt.1 ae) _ (Zf aX)) bk
      refine⟨_,by rw[a2.cell,e2];exact bD,?_⟩
      rw[e3]
      exact eP.go (Zn _) p1 _ _ _ (aW (π:=[]) (fun b X e'=>bx b _ X e')) T
     ·obtain⟨v,hv,ht⟩:=c5 i1 e0 j1 p1 b8 ba
      rw[a5.cell]at hv
      refine⟨v,by rw[a2.cell,e2];exact hv,?_⟩
      have T:=eP.go (κ':=graft (y'.ev Z).cells q (i*z+j) κ) (w':=w) (Zn base) p1 ([q]++[i1*z+j1]) ([q]++[i1*z+j1]) v (fun b X _ e'=>⟨qS (X:=[i1*z+j1]++X) bd e',rfl⟩) ht
      exact eP.go (Zn _) p1 _ _ _ (aW (π:=[]) (fun b X e'=>bx b _ X e')) T
    ·have bF:=Y0.bP bh
     refine(Deep.stay s.hr.toHR0 d ae ay bF ax).2 bh (fun b2 c X _ e2=>a6 b2 (fun e3=> ?_)) (a6 b (fun e3=> ?_))
     ·cases e3
      rw[hκb]at e2
      simp at e2
     ·cases e3
      have:=k1.apart q ob x obj b' ay ah bF a8 ax aw
      exact av this
  refine⟨.skip,undef,_,J,?_, .inr ⟨rfl,rfl⟩,cS b' base af _ _ w w (Below.refl _ _),⟨g1,_,aN,nz.graft (Nat.le_of_eq (dR b' _ _ w).symm) fun q z1 aO hq=> ?_⟩,c1.trans g2,VR.undef⟩
  ·simp only[execOp,aB,hu]
   simp[ag]
  ·by_cases ay:ob=q
   ·subst ay
    rw[Zd (Zb.1 ah).1]at hq
    cases hq
   ·rw[Za ay]at hq
    exact⟨fun e=>ay e.symm,lC _ hq rfl⟩
 ·cases hc
def xI :∀(vs:List V)(h:List Y0),freezeVs h vs=freezeLs h (vs.flatMap V.cells)
 |[],_=>rfl
 |v::vs,h=>by
  show freezeVs (freezeLs h v.cells) vs=_
  rw[xI vs]
  simp only[Y',freezeLs,List.foldl_append]
def PZ {z:Nat}:∀{vs:List V},(∀v∈vs,v.cells.length=z)->∀{i j:Nat}{v:V},vs[i]? =some v->j<z->(vs.flatMap V.cells)[i*z+j]? =v.cells[j]?
 |[],_,i,j,v,h,_=>by simp at h
 |x::vs,hz,i,j,v,h,hj=>by
  have hx:x.cells.length=z:=hz x (by simp)
  cases i with
  |zero=>
   simp at h;subst h
   rw[Y',Nat.zero_mul,ZO,Ze (by omega)]
  |succ i=>
   rw[Y',Zk (by rw[hx,Nat.add_mul];omega),hx,show(i+1)*z+j-z=i*z+j by rw[Nat.add_mul];omega]
   exact PZ (fun v hv=>hz v (by simp[hv])) (by simpa using h) hj
def QX (s:SR Γ M0 base Z a w J){o:Oper}{d:Md}{t:TypeId}{n z:Nat}{parts:Array (Nat×Operand)}{ps:List Opd}(aB:o.op= .buildSlice t n parts)
 (hc:fX P kf d o.op=some (.bN z ps)) (aa:∀y∈ps,(y.ev Z).cells.length=z) (aQ:0<z) (bl:ps.length*z<=16777216) (aJ:∀y∈ps,∀xs,y.ev Z≠ .b9 xs):
 ∃a1 e,(execOp a.eval o).run P w= .ok (.value (.slice (some ⟨w.heap.size,0,none⟩) ps.length ps.length)) (w.alloc (.cells a1 e))/\ a1.size=ps.length*z/\
  ∀(i:Nat)(y:Opd),ps[i]? =some y->∃us:List Value,tg (Mu M0 J Z.h) w J Z.h (y.ev Z).cells us/\ ∀j,j<z->a1[i*z+j]? =us[j]? :=by
 rw[aB]at hc;simp only[fX]at hc
 split at hc
 ·rename_i e c6 ht ao
  split at hc
  ·rename_i z' v0 au hz
   split at hc
   ·rename_i az
    simp only[Zh,beq_iff_eq]at az
    obtain⟨ai,cl⟩:=az
    by_cases q:(d.st&&(c6.isEmpty|| !d.dp))=true
    ·rw[if_pos q]at hc;cases hc
    rw[if_neg q]at hc
    cases hc
    obtain⟨i,hi,c7,bt⟩:∃i,P.info? e=some i/\ i.zero=some v0/\ i.size=z:=by
     unfold oA at hz;unfold rS at au
     cases hi:P.info? e with
     |none=>simp[hi]at hz
     |some i=>simp[hi]at hz au;exact⟨i,rfl,hz,au⟩
    have hu:P.underlying t=some (.slice e):=by
     unfold jh at ht
     split at ht<;>cases ht
     assumption
    have ab:ps.length=n:=by rw[fk ao];have:=congrArg List.length ai;simpa using this
    have aF:(parts.map fun x=>(x.1,a.eval x.2)).toList=((parts.toList.map fun x=>a.eval x.2).zipIdx 0).map fun x=>(x.2,x.1):=by
     apply Zc0
     intro k
     simp only[ZZ,Zp,List.getElem?_zipIdx,ZO]
     have hk:(parts.toList.map (·.1))[k]? =(List.range n)[k]? :=by rw[ai]
     simp only[Zp]at hk
     cases hq:parts.toList[k]? with
     |none=>simp
     |some q=>
      simp only[hq,Option.map_some]at hk⊢
      obtain⟨h1,h2⟩:=Zb.1 hk.symm
      simp at h2
      simp[<-h2]
    have aR:∀(k:Nat)y,ps[k]? =some y->∃q,(parts.toList.map fun x=>a.eval x.2)[k]? =some q/\ tg (Mu M0 J Z.h) w J Z.h (y.ev Z).cells q.cells.toList:=by
     intro k y hy
     have hk:k<parts.toList.length:=by rw[<-fk ao];exact(Zb.1 hy).1
     obtain⟨y',bI,c8⟩:=iN ao k parts.toList[k] (by simp[hk])
     rw[hy]at bI;cases bI
     exact⟨_,by rw[Zp,Zm hk];rfl,(aD s c8).cells (aJ y (Zl hy))⟩
    have bJ:(parts.toList.map fun x=>a.eval x.2).length=n:=by rw[Zr,<-fk ao,ab]
    have aG:∀u∈(parts.toList.map fun x=>a.eval x.2),u.cells.size=z:=by
     intro u c9
     obtain⟨k,hk,rfl⟩:=T' c9
     have bK:k<ps.length:=by rw[ab,<-bJ];exact hk
     obtain⟨q,hq,hl⟩:=aR k ps[k] (by simp[bK])
     rw[Zm hk]at hq;cases hq
     rw[<-aa ps[k] (Zf bK),hl.1];simp
    obtain⟨a1,aS,ca,cb,_⟩:=ul (z:=z) (parts.toList.map fun x=>a.eval x.2) 0 ((Array.range (n*z)).map (v0.cells[· %v0.cells.size]!)) aG (by rw[bJ];simp)
    rw[<-aF,ZZ]at aS
    have bm:¬n*z>2^24:=by rw[ab]at bl;omega
    have ag:(Instr.buildSlice t n (parts.map fun x=>(x.1,a.eval x.2))).run P w= .ok (.slice (some ⟨w.heap.size,0,none⟩) n n) (w.alloc (.cells a1 e)):=by
     simp only[Instr.buildSlice,Sem.run_bind,run_underlying hu,Result.andThen_ok,nA e au]
     rw[if_neg bm]
     by_cases bn:n*z=0
     ·have aw:Array.range (n*z)= #[]:=by rw[bn];rfl
      rw[aw]at aS
      simp only[bn,if_true,Sem.run_bind,Sem.run_pure,Result.andThen_ok]
      have cc:Array.range 0= #[]:=rfl
      simp only[cc,Array.map_empty]at aS⊢
      simp[aS,newRow]
     ·simp only[bn,if_false]
      have cd:(zeroValue e).run P w= .ok v0 w:=by simp[zeroValue,typeInfo,hi,c7]
      simp[cd,aS,newRow]
    refine⟨a1,e,?_,by rw[ca,ab];simp,fun i y hy=> ?_⟩
    ·simp only[execOp,aB,ab]
     have:(parts.map fun(x:Nat×Operand)=>match x with|(i,x)=>(i,a.eval x))=parts.map fun x=>(x.1,a.eval x.2):=rfl
     simp only[Sem.run_bind]
     first|rw[ag]|(rw[this,ag])
     simp
    ·obtain⟨q,hq,hl⟩:=aR i y hy
     refine⟨_,hl,fun j hj=> ?_⟩
     have:=cb i j q hq hj
     rw[ZO]at this
     rw[this]
     simp
   ·cases hc
  ·cases hc
 ·cases hc
def JM (s:SR Γ M0 base Z a w J){o:Oper}{dm:Md}{t:TypeId}{n z:Nat}{parts:Array (Nat×Operand)}{ps:List Opd}(aB:o.op= .buildSlice t n parts)
 (hc:fX P kf dm o.op=some (.bN z ps)) (aa:∀y∈ps,(y.ev Z).cells.length=z) (aQ:0<z) (bl:ps.length*z<=16777216) (ae:((ps.map (Opd.ev Z)).flatMap V.cells).all (L.bG Z.h)=true)
 (aZ:(aj ((ps.map (Opd.ev Z)).flatMap V.cells)).Nodup) {es:List (List PV)} (ak:aY Z.h (ps.map (Opd.ev Z))=some es):
 kO P M0 base Z w J (.one (.arr (freezeVs Z.h (ps.map (Opd.ev Z))).length)) (freezeVs Z.h (ps.map (Opd.ev Z))++[.bA z es]) (execOp a.eval o):=by
 have aJ:∀y∈ps,∀xs,y.ev Z≠ .b9 xs:=by
  intro y hy xs e
  obtain⟨k,hk,rfl⟩:=T' hy
  obtain⟨e1,_,he1⟩:=(jE ak).2 k (ps[k].ev Z) (by simp[hk])
  rw[e]at he1
  simp[V.cells,viewL,L.view]at he1
 obtain⟨a1,e,ag,bL,aT⟩:=QX s aB hc aa aQ bl aJ
 obtain⟨k1,c1⟩:=s.hr.freezeVs (ps.map (Opd.ev Z))
 obtain⟨κ,d,nz⟩:=s.hr.deep
 have bM:es.length=ps.length:=by rw[(jE ak).1];simp
 have cf:∀v∈ps.map (Opd.ev Z),v.cells.length=z:=by
  intro v hv
  obtain⟨y,hy,rfl⟩:=V'.1 hv
  exact aa y hy
 have cell:∀{i j:Nat}{e1:List PV}{p:PV},es[i]? =some e1->e1[j]? =some p->∃l v,((ps.map (Opd.ev Z)).flatMap V.cells)[i*z+j]? =some l/\ LR (Mu M0 J Z.h) w J Z.h l v/\ l.view Z.h=some p/\ a1[i*z+j]? =some v:=by
  intro i j e1 p he1 hp
  have hi:i<ps.length:=by rw[<-bM];exact(Zb.1 he1).1
  have hy:ps[i]? =some ps[i]:=by simp[hi]
  obtain⟨us,hl,cg⟩:=aT i _ hy
  obtain⟨e2,aU,bp⟩:=(jE ak).2 i (ps[i].ev Z) (by simp[hi])
  rw[he1]at aU;cases aU
  obtain⟨q1,q2⟩:=oh bp
  have hj:j<(ps[i].ev Z).cells.length:=by rw[<-q1];exact(Zb.1 hp).1
  have bO:j<z:=by rw[<-aa _ (Zf hi)];exact hj
  have bq:(ps[i].ev Z).cells[j]? =some (ps[i].ev Z).cells[j]:=by simp[hj]
  obtain⟨p',aP,bk⟩:=q2 j _ bq
  rw[hp]at aP;cases aP
  have bQ:j<us.length:=by rw[<-hl.1];exact hj
  exact⟨_,us[j],(PZ cf (by simp[hi]) bO).trans bq,hl.2 j _ _ bq (by simp[bQ]),bk,by rw[cg j bO];simp[bQ]⟩
 have aV:∀e1∈es,e1.length=z:=fun e1 he1=>by
  obtain⟨k,hk,rfl⟩:=T' he1
  obtain⟨e2,aU,bp⟩:=(jE ak).2 k (ps[k]'(by omega)|>.ev Z) (by simp[show k<ps.length by omega])
  rw[Zm hk]at aU;cases aU
  rw[(oh bp).1]
  exact aa _ (Zf _)
 have hold:∀b,b<w.heap.size->(w.alloc (.cells a1 e)).heap[b]? =w.heap[b]? :=fun b hb=>fb w _ b hb
 rw[xI]at k1 c1⊢
 generalize aC:(ps.map (Opd.ev Z)).flatMap V.cells=ls at*
 obtain⟨g1,g2⟩:=k1.toHR0.push (w':=w.alloc (.cells a1 e)) (by simp) hold (some w.heap.size) (.bA z es) (fun b e=>by cases e;exact Zn _)
  (fun c=>⟨aQ,aV,k1.le,a1,ps.length,fO.new w a1 e,bL,by omega,by
   have:ps.length<=ps.length*z:=Nat.le_mul_of_pos_right _ aQ
   simp only[maxLen];omega,fun i e1 j p he1 hp=>by
   obtain⟨l,v,h1,h2,h3,h4⟩:=cell he1 hp
   refine⟨v,h4,aq.go c.go p v ?_⟩
   exact ol k1 (h2.ch c1) (by rw[iS];exact h3) (iK _ l (.inr (Zl h1)))⟩)
 have hN:(freezeLs Z.h ls).length=Z.h.length:=nZ ls
 refine⟨_, .slice (some ⟨w.heap.size,0,none⟩) ps.length ps.length,_,J++[some w.heap.size],ag, .inl rfl,(Below.refl _ _).alloc s.hr.le _,⟨g1,fun b=>if b=w.heap.size then [(freezeLs Z.h ls).length]else graft ls (freezeLs Z.h ls).length 0 κ b,⟨fun i x b hi hx a7=> ?_,fun i x z1 aO b hi hd a7=> ?_⟩,?_⟩,c1.trans g2,?_⟩
 ·by_cases an:i<(freezeLs Z.h ls).length
  ·rw[Ze an]at hi
   rw[Ze (by rw[k1.len];exact an)]at a7
   have hb:=(k1.objs i x _ hi a7).lt (Y0.bE hx)
   rw[if_neg (by omega)]
   exact(Deep.stay s.hr.toHR0 d ae (w':=w) hi hx a7).1
  ·have h1:=(Zb.1 hi).1
   simp at h1
   obtain rfl:i=(freezeLs Z.h ls).length:=by omega
   rw[<-k1.len]at a7
   simp at a7
   rw[if_pos a7.symm]
 ·by_cases an:i<(freezeLs Z.h ls).length
  ·rw[Ze an]at hi
   rw[Ze (by rw[k1.len];exact an)]at a7
   have hx:=Y0.bP hd
   have hb:=(k1.objs i x _ hi a7).lt (Y0.bE hx)
   have T:=(Deep.stay s.hr.toHR0 d ae (o:=(freezeLs Z.h ls).length) (c0:=0) (w':=w) hi hx a7).2 hd (fun _ _ _ _ _=>rfl) rfl
   exact T.go (Zn _) (fun o _=>by unfold World.cell?;rw[hold b hb]) ((k1.objs i x _ hi a7).rows hd).2 (fun c b' X bs e'=>⟨by rw[if_neg (by omega)];exact e',hold b' bs⟩)
  ·have h1:=(Zb.1 hi).1
   simp at h1
   obtain rfl:i=(freezeLs Z.h ls).length:=by omega
   rw[<-k1.len]at a7
   simp at a7 hi
   subst hi;subst a7
   cases hd
   intro i1 e1 j1 p1 he1 cj
   obtain⟨l,v,q1,q2,q3,q4⟩:=cell he1 cj
   refine⟨v,by rw[(fO.new w a1 e).cell];exact q4,?_⟩
   have T:=Gr s.hr.toHR0 d aZ (o:=(freezeLs Z.h ls).length) (c0:=0) q1 q2 ((Zt.1 ae) _ (Zl q1)) q3
   rw[ZO]at T
   exact eP.go (Zn _) p1 _ _ v (fun b' X bs e'=>⟨by rw[if_neg (by omega)];exact e',hold b' bs⟩) T
 ·have bR:=nz.graft (w':=w) (h':=freezeLs Z.h ls++[.bA z es]) (ls:=ls) (o:=(freezeLs Z.h ls).length) (c0:=0) (Zn _) (fun i z1 aO hi=>by
   by_cases an:i<(freezeLs Z.h ls).length
   ·rw[Ze an]at hi
    exact⟨by omega,lC _ hi rfl⟩
   ·have h1:=(Zb.1 hi).1
    simp at h1
    obtain rfl:i=(freezeLs Z.h ls).length:=by omega
    simp at hi)
  refine⟨fun b hb=> ?_,fun b i c X z1 aO e hi=> ?_⟩
  ·have:(w.alloc (.cells a1 e)).heap.size=w.heap.size+1:=by simp
   rw[if_neg (by omega)]
   exact bR.new b (by omega)
  ·split at e
   ·cases e
   ·exact bR.zone b i c X z1 aO e hi
 ·refine⟨some w.heap.size, .bA z es,by rw[<-k1.len];simp,by simp,a1,ps.length,fO.new w a1 e,bL,by omega,?_,by rw[bM]⟩
  have:ps.length<=ps.length*z:=Nat.le_mul_of_pos_right _ aQ
  simp only[maxLen];omega
end
end Gi
