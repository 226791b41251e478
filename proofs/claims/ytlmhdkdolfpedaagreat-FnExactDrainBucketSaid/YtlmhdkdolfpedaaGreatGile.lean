/- Of this proof. -/
import Derived.Test.YtlmhdkdolfpedaaGreatGild
set_option linter.all false
namespace Gi
open Go Go.RowKit
variable {KI:KF}
def L.bn (o:Nat):L->Bool
 | .arr x=>x==o
 |_=>false
def DE (ls:List L)(o:Nat):Option Nat:=ls.findIdx? (L.bn o)
def uq {ls:List L}{o:Nat}:o∈cz ls↔L.arr o∈ls:=by simp only[cz,List.mem_filterMap];constructor;rintro⟨l,hl,he⟩;cases l<;>simp at he;subst he;exact hl;intro h;exact⟨_,h,rfl⟩
def Rm :∀{ls:List L},(cz ls).Nodup->∀{q o:Nat},ls[q]? =some (.arr o)->DE ls o=some q
 |[],_,q,o,h=>by simp at h
 |l::ls,hn,q,o,h=>by
  have bL:(cz ls).Nodup:=by
   cases l with
   |arr x=>exact(Yn.1 (by simpa[cz]using hn)).2
   |_=>simpa[cz]using hn
  cases q with
  |zero=>simp at h;subst h;simp[DE,L.bn,QN]
  |succ q=>
   have h':ls[q]? =some (.arr o):=by simpa using h
   have ih:=Rm bL h';have aq:L.bn o l=false:=by
    cases l with
    |arr x=>have:=(Yn.1 (show(x::cz ls).Nodup by simpa[cz]using hn)).1;simp only[L.bn,beq_eq_false_iff_ne];intro e;subst e;exact this (uq.2 (Zn h'))
    |_=>rfl
   unfold DE at ih⊢;rw[QN,aq,ih];rfl
def JN {ls:List L}{o:Nat}(h:¬o∈cz ls):DE ls o=none:=by
 unfold DE;rw[YB];intro l hl;cases l with
 |arr x=>simp only[L.bn,beq_eq_false_iff_ne];intro e;subst e;exact h (uq.2 hl)
 |_=>rfl
def Tj {ls:List L}{o:Nat}(h:ls.all (L.bA o)=true):¬o∈cz ls:=by intro hm;have:=(Zu.1 h) _ (uq.1 hm);simp[L.bA]at this
def graft (ls:List L)(o c0:Nat)(κ:Nat->List Nat)(b:Nat):List Nat:=
 match κ b with
 |x::X=>(match DE ls x with
  |some q=>o::(c0+q)::X
  |none=>x::X)
 |[]=>[]
def vd {ls:List L}{o c0 x:Nat}{κ:Nat->List Nat}{b:Nat}{X:List Nat}(hp:DE ls x=none)(e:κ b=x::X):graft ls o c0 κ b=x::X:=by simp only[graft,e,hp]
def Jk {ls:List L}{o c0 x q:Nat}{κ:Nat->List Nat}{b:Nat}{X:List Nat}(hp:DE ls x=some q)(e:κ b=x::X):graft ls o c0 κ b=o::(c0+q)::X:=by simp only[graft,e,hp]
def D4 {M:Nat->Prop}{w:World}{κ:Nat->List Nat}{lo:Nat}{π:List Nat}{p:PV}{v:Value}(hb:p.bare=true)(r:cE M w p v):il κ lo w p π v:=by
 cases p with
 |int k n=>simpa only[il,cE]using r
 |bool b=>simpa only[il,cE]using r
 |str s=>simpa only[il,cE]using r
 |lst es=>
  cases es with
  |cons e es=>simp[PV.bare]at hb
  |nil=>simp only[cE]at r;simp only[il];rcases r with r|⟨b,o,c,z,rfl,_⟩;exact .inl r;exact .inl ⟨by trivial,_,_,rfl⟩
def FQ {es:List (List PV)}(h:jd es=true){i j:Nat}{e:List PV}{p:PV}(he:es[i]? =some e)(hp:e[j]? =some p):p.bare=true:=by simp only[jd,Zu]at h;exact h e (Zn he) p (Zn hp)
def Q0.bq (z:Nat)(es:List (List PV))(ob:Q0):Prop:=ob= .arr z es \/ob= .b9 z es
section
variable {Γ:Ctx}{P:Program}{M0:Nat->Prop}{base:Nat}{Z:St}{a:Act}{w:World}{J:List (Option Nat)}
def abA {M:Nat->Prop}{h:List Q0}{κ:Nat->List Nat}{r:Option Nat}{z:Nat}{es:List (List PV)}{π:List Nat}{v:Value}(k:Bo M base w J h r (.arr z es))(hs:re w (.arr z es) r v)
 (hκ:∀b,r=some b->κ b=π/\ vK κ base w z es π b):il κ base w (.lst es) π v:=by
 obtain⟨hz,aj,kx⟩:=k;simp only[il];cases r with
 |none=>obtain rfl:es=[]:=kx;obtain⟨ad,hs⟩:=hs;exact .inl ⟨by trivial,_,_,hs⟩
 |some b=>obtain⟨af,cur,cap,a5,h1,h2,h3,_⟩:=kx;obtain⟨cur',aD,a2,bN,_,_,rfl⟩:=hs;cases a5.inj a2;have:aD=cap:=Yr hz (bN.symm.trans h1);subst this;obtain⟨q1,q2⟩:=hκ b rfl;exact .inr ⟨b,aD,z,cur,rfl,af,q1,hz,a5,h1,h2,h3,q2.ll aj⟩
def kS {h:List Q0}(k:HR0 M0 base w J h){κ:Nat->List Nat}(d:Deep κ base w J h){o z:Nat}{es:List (List PV)}(hd:de h o=some (z,es)){r:Option Nat}(hr:J[o]? =some r):
 ∃ob,h[o]? =some ob/\ ob.bq z es/\ ob.mut=true/\ Bo (Mu M0 J h) base w J h r (.arr z es)/\ ∀b,r=some b->κ b=[o]/\ vK κ base w z es [o] b:=by unfold de at hd;split at hd;rename_i z' es' ho;split at hd;rename_i hb;cases hd;have k0:=k.objs o _ r ho hr;refine⟨_,ho, .inl rfl,rfl,k0,fun b e=>⟨d.root o _ b ho rfl (by rw[hr,e]),fun i e1 j p he hp=> ?_⟩⟩;subst e;obtain⟨_,_,_,cur,cap,a5,_,_,_,h4⟩:=k0;obtain⟨v,hv,bP⟩:=h4 i e1 j p he hp;exact⟨v,by rw[a5.cell];exact hv,D4 (FQ hb he hp) bP⟩;cases hd;rename_i z' es' ho;cases hd;have k0:=k.objs o _ r ho hr;refine⟨_,ho, .inr rfl,rfl,k0,fun b e=>⟨d.root o _ b ho rfl (by rw[hr,e]),d.tree o _ z es b ho rfl (by rw[hr,e])⟩⟩;cases hd
def Jj {h:List Q0}(k:HR0 M0 base w J h){κ:Nat->List Nat}(d:Deep κ base w J h){ls:List L}(hn:(cz ls).Nodup){o c0 q:Nat}{l:L}{v:Value}{p:PV}
 (hq:ls[q]? =some l) (hv:LR (Mu M0 J h) w J h l v) (hm:l.bE h=true) (hp:l.view h=some p):il (graft ls o c0 κ) base w p [o,c0+q] v:=by
 cases l with
 |pv p'=>simp only[L.view]at hp;cases hp;exact D4 hm hv
 |nil=>simp only[L.view]at hp;cases hp;obtain⟨_,rfl⟩:=hv;simp only[il];exact .inl ⟨by trivial,_,_,rfl⟩
 |arr o2=>
  obtain⟨r,ob,hr,ax,hs⟩:=hv;have aE:=Rm hn hq;have aS:∃z es,de h o2=some (z,es)/\ p= .lst es/\ re w (.arr z es) r v:=by
   simp only[L.bE,ax]at hm;simp only[L.view,ax]at hp;cases ob with
   |arr z es=>cases hp;exact⟨z,es,by simp[de,ax,hm],rfl,hs⟩
   |b9 z es=>cases hp;exact⟨z,es,by simp[de,ax],rfl,hs⟩
   |_=>cases hm
  obtain⟨z,es,hd,rfl,bm⟩:=aS;obtain⟨ob',_,_,_,k0,hc⟩:=kS k d hd hr;refine abA k0 bm fun b e=> ?_;obtain⟨q1,q2⟩:=hc b e;exact⟨Jk aE q1,q2.go (Zi _) (fun _ _=>rfl) k0.2.1 (fun c b' X _ e'=>⟨Jk aE e',rfl⟩)⟩
 |_=>cases hm
def PU {h:List Q0}{l:L}{i:Nat}{x:Q0}(hx:(freezeL h l)[i]? =some x):h[i]? =some x \/∃z es,x= .bG z es:=by
 cases l with
 |arr o=>simp only[freezeL]at hx;split at hx;rename_i z es ho;by_cases e:o=i;subst e;rw[Zd (Zb.1 ho).1]at hx;cases hx;exact .inr ⟨_,_,rfl⟩;rw[Za e]at hx;exact .inl hx;rename_i z es ho;by_cases e:o=i;subst e;rw[Zd (Zb.1 ho).1]at hx;cases hx;exact .inr ⟨_,_,rfl⟩;rw[Za e]at hx;exact .inl hx;exact .inl hx
 |_=>exact .inl hx
def ou :∀(ls:List L){h:List Q0}{i:Nat}{x:Q0},(freezeLs h ls)[i]? =some x->x.mut=true->h[i]? =some x
 |[],_,_,_,hx,_=>hx
 |l::ls,h,i,x,hx,hm=>by rcases PU (ou ls (h:=freezeL h l) hx hm)with h1|⟨z,es,rfl⟩;exact h1;cases hm
def Ns {h:List Q0}{l:L}{o:Nat}{x:Q0}(hl:l.bA o=true)(hx:h[o]? =some x):(freezeL h l)[o]? =some x:=by
 cases l with
 |arr o'=>
  simp only[freezeL];have aq:o'≠o:=by simpa[L.bA]using hl
  split;rw[Za aq];exact hx;rw[Za aq];exact hx;exact hx
 |_=>exact hx
def u0 {o:Nat}{x:Q0}:∀(ls:List L){h:List Q0},ls.all (L.bA o)=true->h[o]? =some x->(freezeLs h ls)[o]? =some x
 |[],_,_,hx=>hx
 |l::ls,h,hl,hx=>by simp only[Zq,Zg]at hl;exact u0 ls (h:=freezeL h l) hl.2 (Ns hl.1 hx)
def qO :∀(ls:List L){h:List Q0},(freezeLs h ls).length=h.length
 |[],_=>rfl
 |l::ls,h=>by
  show(freezeLs (freezeL h l) ls).length=h.length;rw[qO ls];cases l with
  |arr o=>simp only[freezeL];split<;>simp
  |_=>rfl
def A8 {h:List Q0}{ls:List L}(hm:∀o,L.arr o∈ls->L.bE h (.arr o)=true){i:Nat}{x:Q0}(hx:(freezeLs h ls)[i]? =some x)(a8:x.mut=true):¬i∈cz ls:=by intro hi;have hl:=uq.1 hi;have h0:=ou ls hx a8;have h1:=kU ls (h:=h) (.arr i) (.inr hl);have h2:=hm _ hl;simp only[L.mut,hx]at h1;simp only[L.bE,h0]at h2;cases x<;>first|(simp at h1;done)|(simp at h2;done)
def Deep.stay {h:List Q0}(k:HR0 M0 base w J h){κ:Nat->List Nat}(d:Deep κ base w J h){ls:List L}(hm:ls.all (L.bE h)=true){o c0:Nat}{w':World}{i:Nat}{x:Q0}(hx:(freezeLs h ls)[i]? =some x)(a8:x.mut=true){b:Nat}(a7:J[i]? =some (some b)):
 graft ls o c0 κ b=[i]/\ ∀{z:Nat}{es:List (List PV)},x.deep=some (z,es)->(∀b' c X,b'<w.heap.size->κ b'=i::c::X->w'.heap[b']? =w.heap[b']?)->w'.heap[b]? =w.heap[b]? ->vK (graft ls o c0 κ) base w' z es [i] b:=by have hp:=JN (A8 (fun o ho=>(Zu.1 hm) _ ho) hx a8);have h0:=ou ls hx a8;refine⟨vd hp (d.root i x b h0 a8 a7),fun{z es}hd hw bQ=> ?_⟩;exact(d.tree i x z es b h0 hd a7).go (Zi _) (fun o _=>by unfold World.cell?;rw[bQ]) ((k.objs i x _ h0 a7).rows hd).2 (fun c b' X hlt e=>⟨vd hp e,hw b' c X hlt e⟩)
def Zon.graft {κ:Nat->List Nat}{h h':List Q0}{w':World}(n:Zon κ M0 w h){ls:List L}{o c0:Nat}(hs:w.heap.size<=w'.heap.size)(hz:∀i z es,h'[i]? =some (.bB z es)->i≠o/\ h[i]? =some (.bB z es)):Zon (Gi.graft ls o c0 κ) M0 w' h':=by refine⟨fun b hb=>by simp only[Gi.graft,n.new b (by omega)],fun b i c X z es e hi=> ?_⟩;obtain⟨h1,h2⟩:=hz i z es hi;simp only[Gi.graft]at e;split at e;rename_i x τ0 hk;split at e;cases e;exact absurd rfl h1;exact n.zone b i c X z es (by rw[hk];exact e) h2;cases e
def Oa (s:SR Γ M0 base Z a w J){o:Oper}{dm:Md}{t:TypeId}{x y:Operand}{n:Nat}{x' y':Opd}(ay:o.op= .store t x y)
 (hc:jj P kf dm o.op=some (.store n x' y')) {ob i j:Nat} (bR:x'.ev Z= .one (.ptr ob i j)) {z:Nat} {es:List (List PV)} (hd:de Z.h ob=some (z,es)) {e ps:List PV} (hei:es[i]? =some e) (al:viewL Z.h (y'.ev Z).cells=some ps)
 (hlen:(y'.ev Z).cells.length=n) (hle:j+n<=e.length) (bo:(y'.ev Z).cells.all (L.bA ob)=true) (ae:(y'.ev Z).cells.all (L.bE Z.h)=true) (aU:(cz (y'.ev Z).cells).Nodup):
 nL P M0 base Z w J (.b8 []) ((freezeLs Z.h (y'.ev Z).cells).set ob (.b9 z (es.set i (putAt e j ps)))) (execOp a.eval o):=by
 rw[ay]at hc;simp only[jj]at hc;split at hc;rename_i n1 x1 y1 hn hx hy;cases hc;have rx:=cQ s hx;have ry:=cQ s hy;rw[bR]at rx;obtain⟨r0,obj,ar,ax,bS⟩:=rx;have aF:∀xs,y'.ev Z≠ .b8 xs:=by intro xs e';rw[e']at al;simp[V.cells,viewL,L.view]at al
 have az:=ry.cells aF;obtain⟨κ,d,nz⟩:=s.hr.deep;obtain⟨cc,aG,an,a8,k0,aA⟩:=kS s.hr.toHR0 d hd ar;rw[aG]at ax;cases ax;obtain⟨k1,c1⟩:=s.hr.freezeLs (y'.ev Z).cells;have ah:=u0 (y'.ev Z).cells bo aG;have aV:wJ (Mu M0 J (freezeLs Z.h (y'.ev Z).cells)) w J (freezeLs Z.h (y'.ev Z).cells) (y'.ev Z).cells (a.eval y).cells.toList:=az.ch c1;obtain⟨bT,bU⟩:=xM k1 aV al (fun l _=>la _ l) (fun l hl=>kU _ l (.inr hl));have bV:Bo (Mu M0 J (freezeLs Z.h (y'.ev Z).cells)) base w J (freezeLs Z.h (y'.ev Z).cells) r0 (.arr z es):=by have:=k1.objs ob _ r0 ah ar;rcases an with rfl|rfl<;>exact this
 obtain⟨hz,aj,kx⟩:=bV;have aW:∃b,r0=some b/\ a.eval x= .pointer (some ⟨b,i*z+j,none⟩):=by rcases an with rfl|rfl<;>exact bS
 obtain⟨b',rfl,hu⟩:=aW;obtain⟨af,cur,cap,a5,h1,h2,h3,h4⟩:=kx;have ao:(a.eval y).cells.size=n:=by rw[<-hlen,az.1];simp
 have bW:ps.length=n:=by rw[bT];simpa using ao
 have bX:e.length=z:=aj e (Zn hei);have aX:i<es.length:=(Zb.1 hei).1;have aH:i*z+j+n<=cur.size:=by
  rw[h1];calc i*z+j+n<=i*z+z:=by omega
   _=(i+1)*z:=by rw[Nat.add_mul,Yk]
   _<=cap*z:=ZE _ (by omega)
 have ag:=tf (P:=P) hn a5 ao aH az.cN;obtain⟨cur',a2,aI,aY⟩:=gW b' (a.eval y).cells.toList (i*z+j) w cur a5 (by simp only[Yo,ao];exact aH);have a6:∀k,some b'≠some k->(w.setCells b' (i*z+j) (a.eval y).cells.toList).heap[k]? =w.heap[k]? :=fun k hk=>gu b' _ _ w k (fun e=>hk (by rw[e]));have cell:∀{i1 j1:Nat}{e1:List PV}{p1:PV},(es.set i (putAt e j ps))[i1]? =some e1->e1[j1]? =some p1->
  (∃q,ps[q]? =some p1/\ i1*z+j1=i*z+j+q/\ cur'[i1*z+j1]? =(a.eval y).cells.toList[q]?) \/(∃e0,es[i1]? =some e0/\ e0[j1]? =some p1/\ cur'[i1*z+j1]? =cur[i1*z+j1]?):=by
  intro i1 j1 e1 p1 hi1 ak;rw[aY];simp only[Yo,ao];by_cases aZ:i=i1;subst aZ;rw[Zd aX]at hi1;cases hi1;rw[Aq _ _ _ (by omega),bW]at ak;split at ak;rename_i bp;exact .inl ⟨j1-j,ak,by omega,by rw[if_pos (by omega),show i*z+j1-(i*z+j)=j1-j by omega]⟩;rename_i bp;exact .inr ⟨e,hei,ak,by rw[if_neg (by omega)]⟩;rw[Za aZ]at hi1;have b0:j1<z:=by rw[<-aj e1 (Zn hi1)];exact(Zb.1 ak).1
  refine .inr ⟨e1,hi1,ak,?_⟩;rw[if_neg];intro bp;have:∃q,q<z/\ i1*z+j1=i*z+q:=⟨i1*z+j1-i*z,by omega,by omega⟩;obtain⟨q,hq,e2⟩:=this;exact aZ (yY b0 hq e2).1.symm
 have aa:∀e1∈es.set i (putAt e j ps),e1.length=z:=fun e1 he1=>by rcases ZK he1 with hm|rfl;exact aj e1 hm;rw[Ar _ _ _ (by omega)];exact bX
 have b1:wa obj (.b9 z (es.set i (putAt e j ps))):=by rcases an with rfl|rfl<;>exact⟨rfl,by simp⟩
 obtain⟨g1,g2⟩:=k1.toHR0.bz (w':=w.setCells b' (i*z+j) (a.eval y).cells.toList) (ob':= .b9 z (es.set i (putAt e j ps))) ah ar a8 b1 (gD b' _ _ w).symm a6
  (fun k c e hr=>by cases e;rw[hr.inj a5];exact⟨cur',a2,aI⟩)
  (fun c=>by
   refine⟨hz,aa,af,cur',cap,a2,by rw[aI];exact h1,by simpa using h2,h3,fun i1 e1 j1 p1 hi1 ak=> ?_⟩
   rcases cell hi1 ak with⟨q,hq,_,e2⟩|⟨e0,b3,b4,e2⟩
   ·obtain⟨u,b5,b6⟩:=bU q p1 hq
    exact⟨u,by rw[e2];exact b5,cE.go c.go p1 u b6⟩
   ·obtain⟨u,b5,b6⟩:=h4 i1 e0 j1 p1 b3 b4
    exact⟨u,by rw[e2];exact b5,cE.go c.go p1 u b6⟩)
  (fun _ _ _ _ _ e=>by subst e;rcases an with h|h<;>cases h)
 have b7:DE (y'.ev Z).cells ob=none:=JN (Tj bo);obtain⟨hκb,bY⟩:=aA b' rfl;have aS:∀{π:List Nat}{c:Nat}{κ':Nat->List Nat},(∀b X,κ' b=[ob,c]++X->b≠b')->FN κ' κ' w (w.setCells b' (i*z+j) (a.eval y).cells.toList) [ob,c] [ob,c]:=fun aq b X _ e=>⟨e,a6 b (fun e'=>aq b X e (by cases e';rfl))⟩;have br:∀b c X,graft (y'.ev Z).cells ob (i*z+j) κ b=[ob,c]++X->b≠b':=fun b c X e e'=>by subst e';rw[vd b7 hκb]at e;simp at e
 have aJ:Deep (graft (y'.ev Z).cells ob (i*z+j) κ) base (w.setCells b' (i*z+j) (a.eval y).cells.toList) J ((freezeLs Z.h (y'.ev Z).cells).set ob (.b9 z (es.set i (putAt e j ps)))):=by
  have ba:ob<(freezeLs Z.h (y'.ev Z).cells).length:=(Zb.1 ah).1;have get:∀{q:Nat}{x:Q0},((freezeLs Z.h (y'.ev Z).cells).set ob (.b9 z (es.set i (putAt e j ps))))[q]? =some x->(q=ob/\ x= .b9 z (es.set i (putAt e j ps))) \/(q≠ob/\ (freezeLs Z.h (y'.ev Z).cells)[q]? =some x):=fun{q x}e'=>by by_cases hq:ob=q;subst hq;rw[Zd ba]at e';cases e';exact .inl ⟨rfl,rfl⟩;rw[Za hq]at e';exact .inr ⟨fun e2=>hq e2.symm,e'⟩
  refine⟨fun q x b hq hm au=> ?_,fun q x z1 aK b hq bb au=> ?_⟩;rcases get hq with⟨rfl,rfl⟩|⟨_,av⟩;rw[ar]at au;cases au;exact vd b7 hκb;exact(Deep.stay s.hr.toHR0 d ae (w':=w) av hm au).1;rcases get hq with⟨rfl,rfl⟩|⟨aq,av⟩;rw[ar]at au;cases au;cases bb;intro i1 e1 j1 p1 hi1 ak;rcases cell hi1 ak with⟨m,bs,e3,e2⟩|⟨e0,b3,b4,e2⟩;obtain⟨e4,e5⟩:=qV al;have aT:m<(y'.ev Z).cells.length:=by rw[<-e4];exact(Zb.1 bs).1
  have bc:(y'.ev Z).cells[m]? =some (y'.ev Z).cells[m]:=by simp[aT]
  obtain⟨p',aL,bd⟩:=e5 m _ bc;rw[bs]at aL;cases aL;have bt:(a.eval y).cells.toList[m]? =some ((a.eval y).cells.toList[m]'(by rw[<-az.1];exact aT)):=by simp[<-az.1,aT]
  have T:=Jj s.hr.toHR0 d aU (o:=q) (c0:=i*z+j) bc (az.2 m _ _ bc bt) ((Zu.1 ae) _ (Zf aT)) bd;refine⟨_,by rw[a2.cell,e2];exact bt,?_⟩;rw[e3];exact il.go (Zi _) p1 _ _ _ (aS (π:=[]) (fun b X e'=>br b _ X e')) T;obtain⟨v,hv,ht⟩:=bY i1 e0 j1 p1 b3 b4;rw[a5.cell]at hv;refine⟨v,by rw[a2.cell,e2];exact hv,?_⟩;have T:=il.go (κ':=graft (y'.ev Z).cells q (i*z+j) κ) (w':=w) (Zi base) p1 ([q]++[i1*z+j1]) ([q]++[i1*z+j1]) v (fun b X _ e'=>⟨vd (X:=[i1*z+j1]++X) b7 e',rfl⟩) ht;exact il.go (Zi _) p1 _ _ _ (aS (π:=[]) (fun b X e'=>br b _ X e')) T;have bu:=Q0.bO bb;refine(Deep.stay s.hr.toHR0 d ae av bu au).2 bb (fun b2 c X _ e2=>a6 b2 (fun e3=> ?_)) (a6 b (fun e3=> ?_));cases e3;rw[hκb]at e2;simp at e2;cases e3;have:=k1.apart q ob x obj b' av ah bu a8 au ar;exact aq this
 refine⟨.skip,undef,_,J,?_, .inr ⟨rfl,rfl⟩,fE b' base af _ _ w w (Below.refl _ _),⟨g1,_,aJ,nz.graft (Nat.le_of_eq (gD b' _ _ w).symm) fun q z1 aK hq=> ?_⟩,c1.trans g2,VR.undef⟩;simp only[execOp,ay,hu];simp[ag];by_cases av:ob=q;subst av;rw[Zd (Zb.1 ah).1]at hq;cases hq;rw[Za av]at hq;exact⟨fun e=>av e.symm,ou _ hq rfl⟩;cases hc
def Ba :∀(vs:List V)(h:List Q0),freezeVs h vs=freezeLs h (vs.flatMap V.cells)
 |[],_=>rfl
 |v::vs,h=>by show freezeVs (freezeLs h v.cells) vs=_;rw[Ba vs];simp only[Y',freezeLs,Qn]
def Uj {z:Nat}:∀{vs:List V},(∀v∈vs,v.cells.length=z)->∀{i j:Nat}{v:V},vs[i]? =some v->j<z->(vs.flatMap V.cells)[i*z+j]? =v.cells[j]?
 |[],_,i,j,v,h,_=>by simp at h
 |x::vs,hz,i,j,v,h,hj=>by
  have hx:x.cells.length=z:=hz x (by simp);cases i with
  |zero=>simp at h;subst h;rw[Y',Nat.zero_mul,ZJ,Ze (by omega)]
  |succ i=>rw[Y',Zm (by rw[hx,Nat.add_mul];omega),hx,show(i+1)*z+j-z=i*z+j by rw[Nat.add_mul];omega];exact Uj (fun v hv=>hz v (by simp[hv])) (by simpa using h) hj
def Vi (s:SR Γ M0 base Z a w J){o:Oper}{d:Md}{t:TypeId}{n z:Nat}{parts:Array (Nat×Operand)}{ps:List Opd}(ay:o.op= .buildSlice t n parts)
 (hc:jj P kf d o.op=some (.bM z ps)) (aa:∀y∈ps,(y.ev Z).cells.length=z) (aM:0<z) (bf:ps.length*z<=16777216) (aF:∀y∈ps,∀xs,y.ev Z≠ .b8 xs):
 ∃a1 e,(execOp a.eval o).run P w= .ok (.value (.slice (some ⟨w.heap.size,0,none⟩) ps.length ps.length)) (w.alloc (.cells a1 e))/\ a1.size=ps.length*z/\
  ∀(i:Nat)(y:Opd),ps[i]? =some y->∃us:List Value,wJ (Mu M0 J Z.h) w J Z.h (y.ev Z).cells us/\ ∀j,j<z->a1[i*z+j]? =us[j]? :=by
 rw[ay]at hc;simp only[jj]at hc;split at hc
 ·rename_i e bZ ht al;split at hc
  ·rename_i z' v0 ao hz;split at hc
   ·rename_i aw;simp only[Zg,beq_iff_eq]at aw;obtain⟨ai,cd⟩:=aw;by_cases q:(d.st&&(bZ.isEmpty|| !d.dp))=true;rw[if_pos q]at hc;cases hc;rw[if_neg q]at hc;cases hc;obtain⟨i,hi,c2,bm⟩:∃i,P.info? e=some i/\ i.zero=some v0/\ i.size=z:=by
     unfold rf at hz;unfold vJ at ao;cases hi:P.info? e with
     |none=>simp[hi]at hz
     |some i=>simp[hi]at hz ao;exact⟨i,rfl,hz,ao⟩
    have hu:P.underlying t=some (.slice e):=by unfold lJ at ht;split at ht<;>cases ht;assumption
    have ab:ps.length=n:=by rw[iC al];have:=congrArg List.length ai;simpa using this
    have aB:(parts.map fun x=>(x.1,a.eval x.2)).toList=((parts.toList.map fun x=>a.eval x.2).zipIdx 0).map fun x=>(x.2,x.1):=by
     apply YK;intro k;simp only[ZZ,Zp,Qv,ZJ];have hk:(parts.toList.map (·.1))[k]? =(List.range n)[k]? :=by rw[ai]
     simp only[Zp]at hk;cases hq:parts.toList[k]? with
     |none=>simp
     |some q=>simp only[hq,Qe]at hk⊢;obtain⟨h1,h2⟩:=Zb.1 hk.symm;simp at h2;simp[<-h2]
    have aN:∀(k:Nat)y,ps[k]? =some y->∃q,(parts.toList.map fun x=>a.eval x.2)[k]? =some q/\ wJ (Mu M0 J Z.h) w J Z.h (y.ev Z).cells q.cells.toList:=by
     intro k y hy;have hk:k<parts.toList.length:=by rw[<-iC al];exact(Zb.1 hy).1
     obtain⟨y',bw,c3⟩:=kX al k parts.toList[k] (by simp[hk]);rw[hy]at bw;cases bw;exact⟨_,by rw[Zp,Zk hk];rfl,(cQ s c3).cells (aF y (Zn hy))⟩
    have bx:(parts.toList.map fun x=>a.eval x.2).length=n:=by rw[Zr,<-iC al,ab]
    have aC:∀u∈(parts.toList.map fun x=>a.eval x.2),u.cells.size=z:=by
     intro u c4;obtain⟨k,hk,rfl⟩:=Yh c4;have bC:k<ps.length:=by rw[ab,<-bx];exact hk
     obtain⟨q,hq,hl⟩:=aN k ps[k] (by simp[bC]);rw[Zk hk]at hq;cases hq;rw[<-aa ps[k] (Zf bC),hl.1];simp
    obtain⟨a1,aO,c5,c6,_⟩:=xK (z:=z) (parts.toList.map fun x=>a.eval x.2) 0 ((Array.range (n*z)).map (v0.cells[· %v0.cells.size]!)) aC (by rw[bx];simp);rw[<-aB,ZZ]at aO;have bg:¬n*z>2^24:=by rw[ab]at bf;omega
    have ag:(Instr.buildSlice t n (parts.map fun x=>(x.1,a.eval x.2))).run P w= .ok (.slice (some ⟨w.heap.size,0,none⟩) n n) (w.alloc (.cells a1 e)):=by
     simp only[Instr.buildSlice,Sem.run_bind,run_underlying hu,Result.andThen_ok,qk e ao];rw[if_neg bg];by_cases bh:n*z=0;have ar:Array.range (n*z)= #[]:=by rw[bh];rfl
     rw[ar]at aO;simp only[bh,if_true,Sem.run_bind,Sem.run_pure,Result.andThen_ok];have c7:Array.range 0= #[]:=rfl;simp only[c7,Array.map_empty]at aO⊢;simp[aO,newRow];simp only[bh,if_false];have c8:(zeroValue e).run P w= .ok v0 w:=by simp[zeroValue,typeInfo,hi,c2]
     simp[c8,aO,newRow]
    refine⟨a1,e,?_,by rw[c5,ab];simp,fun i y hy=> ?_⟩
    ·simp only[execOp,ay,ab];have:(parts.map fun(x:Nat×Operand)=>match x with|(i,x)=>(i,a.eval x))=parts.map fun x=>(x.1,a.eval x.2):=rfl;simp only[Sem.run_bind];first|rw[ag]|(rw[this,ag])
     simp
    obtain⟨q,hq,hl⟩:=aN i y hy;refine⟨_,hl,fun j hj=> ?_⟩;have:=c6 i j q hq hj;rw[ZJ]at this;rw[this];simp
   cases hc
  cases hc
 cases hc
def MR (s:SR Γ M0 base Z a w J){o:Oper}{dm:Md}{t:TypeId}{n z:Nat}{parts:Array (Nat×Operand)}{ps:List Opd}(ay:o.op= .buildSlice t n parts)
 (hc:jj P kf dm o.op=some (.bM z ps)) (aa:∀y∈ps,(y.ev Z).cells.length=z) (aM:0<z) (bf:ps.length*z<=16777216) (ae:((ps.map (Opd.ev Z)).flatMap V.cells).all (L.bE Z.h)=true)
 (aU:(cz ((ps.map (Opd.ev Z)).flatMap V.cells)).Nodup) {es:List (List PV)} (aj:cT Z.h (ps.map (Opd.ev Z))=some es):
 nL P M0 base Z w J (.one (.arr (freezeVs Z.h (ps.map (Opd.ev Z))).length)) (freezeVs Z.h (ps.map (Opd.ev Z))++[.b9 z es]) (execOp a.eval o):=by
 have aF:∀y∈ps,∀xs,y.ev Z≠ .b8 xs:=by intro y hy xs e;obtain⟨k,hk,rfl⟩:=Yh hy;obtain⟨e1,_,he1⟩:=(mi aj).2 k (ps[k].ev Z) (by simp[hk]);rw[e]at he1;simp[V.cells,viewL,L.view]at he1
 obtain⟨a1,e,ag,bF,aP⟩:=Vi s ay hc aa aM bf aF;obtain⟨k1,c1⟩:=s.hr.freezeVs (ps.map (Opd.ev Z));obtain⟨κ,d,nz⟩:=s.hr.deep;have bH:es.length=ps.length:=by rw[(mi aj).1];simp
 have c9:∀v∈ps.map (Opd.ev Z),v.cells.length=z:=by intro v hv;obtain⟨y,hy,rfl⟩:=ZV.1 hv;exact aa y hy
 have cell:∀{i j:Nat}{e1:List PV}{p:PV},es[i]? =some e1->e1[j]? =some p->∃l v,((ps.map (Opd.ev Z)).flatMap V.cells)[i*z+j]? =some l/\ LR (Mu M0 J Z.h) w J Z.h l v/\ l.view Z.h=some p/\ a1[i*z+j]? =some v:=by
  intro i j e1 p he1 hp;have hi:i<ps.length:=by rw[<-bH];exact(Zb.1 he1).1
  have hy:ps[i]? =some ps[i]:=by simp[hi]
  obtain⟨us,hl,ca⟩:=aP i _ hy;obtain⟨e2,aQ,bj⟩:=(mi aj).2 i (ps[i].ev Z) (by simp[hi]);rw[he1]at aQ;cases aQ;obtain⟨q1,q2⟩:=qV bj;have hj:j<(ps[i].ev Z).cells.length:=by rw[<-q1];exact(Zb.1 hp).1
  have bI:j<z:=by rw[<-aa _ (Zf hi)];exact hj
  have bk:(ps[i].ev Z).cells[j]? =some (ps[i].ev Z).cells[j]:=by simp[hj]
  obtain⟨p',aL,bd⟩:=q2 j _ bk;rw[hp]at aL;cases aL;have bJ:j<us.length:=by rw[<-hl.1];exact hj
  exact⟨_,us[j],(Uj c9 (by simp[hi]) bI).trans bk,hl.2 j _ _ bk (by simp[bJ]),bd,by rw[ca j bI];simp[bJ]⟩
 have aR:∀e1∈es,e1.length=z:=fun e1 he1=>by obtain⟨k,hk,rfl⟩:=Yh he1;obtain⟨e2,aQ,bj⟩:=(mi aj).2 k (ps[k]'(by omega)|>.ev Z) (by simp[show k<ps.length by omega]);rw[Zk hk]at aQ;cases aQ;rw[(qV bj).1];exact aa _ (Zf _)
 have hold:∀b,b<w.heap.size->(w.alloc (.cells a1 e)).heap[b]? =w.heap[b]? :=fun b hb=>iu w _ b hb;rw[Ba]at k1 c1⊢;generalize az:(ps.map (Opd.ev Z)).flatMap V.cells=ls at*;obtain⟨g1,g2⟩:=k1.toHR0.push (w':=w.alloc (.cells a1 e)) (by simp) hold (some w.heap.size) (.b9 z es) (fun b e=>by cases e;exact Zi _)
  (fun c=>⟨aM,aR,k1.le,a1,ps.length,iW.new w a1 e,bF,by omega,by
   have:ps.length<=ps.length*z:=Ql _ aM
   simp only[maxLen];omega,fun i e1 j p he1 hp=>by
   obtain⟨l,v,h1,h2,h3,h4⟩:=cell he1 hp
   refine⟨v,h4,cE.go c.go p v ?_⟩
   exact qW k1 (h2.ch c1) (by rw[la];exact h3) (kU _ l (.inr (Zn h1)))⟩)
 have hN:(freezeLs Z.h ls).length=Z.h.length:=qO ls;refine⟨_, .slice (some ⟨w.heap.size,0,none⟩) ps.length ps.length,_,J++[some w.heap.size],ag, .inl rfl,(Below.refl _ _).alloc s.hr.le _,⟨g1,fun b=>if b=w.heap.size then [(freezeLs Z.h ls).length]else graft ls (freezeLs Z.h ls).length 0 κ b,⟨fun i x b hi hx a7=> ?_,fun i x z1 aK b hi hd a7=> ?_⟩,?_⟩,c1.trans g2,?_⟩;by_cases hlt:i<(freezeLs Z.h ls).length;rw[Ze hlt]at hi;rw[Ze (by rw[k1.len];exact hlt)]at a7;have hb:=(k1.objs i x _ hi a7).lt (Q0.bD hx);rw[if_neg (by omega)];exact(Deep.stay s.hr.toHR0 d ae (w':=w) hi hx a7).1;have h1:=(Zb.1 hi).1;simp at h1;obtain rfl:i=(freezeLs Z.h ls).length:=by omega
 rw[<-k1.len]at a7;simp at a7;rw[if_pos a7.symm];by_cases hlt:i<(freezeLs Z.h ls).length;rw[Ze hlt]at hi;rw[Ze (by rw[k1.len];exact hlt)]at a7;have hx:=Q0.bO hd;have hb:=(k1.objs i x _ hi a7).lt (Q0.bD hx);have T:=(Deep.stay s.hr.toHR0 d ae (o:=(freezeLs Z.h ls).length) (c0:=0) (w':=w) hi hx a7).2 hd (fun _ _ _ _ _=>rfl) rfl;exact T.go (Zi _) (fun o _=>by unfold World.cell?;rw[hold b hb]) ((k1.objs i x _ hi a7).rows hd).2 (fun c b' X bl e'=>⟨by rw[if_neg (by omega)];exact e',hold b' bl⟩);have h1:=(Zb.1 hi).1;simp at h1;obtain rfl:i=(freezeLs Z.h ls).length:=by omega
 rw[<-k1.len]at a7;simp at a7 hi;subst hi;subst a7;cases hd;intro i1 e1 j1 p1 he1 cb;obtain⟨l,v,q1,q2,q3,q4⟩:=cell he1 cb;refine⟨v,by rw[(iW.new w a1 e).cell];exact q4,?_⟩;have T:=Jj s.hr.toHR0 d aU (o:=(freezeLs Z.h ls).length) (c0:=0) q1 q2 ((Zu.1 ae) _ (Zn q1)) q3;rw[ZJ]at T;exact il.go (Zi _) p1 _ _ v (fun b' X bl e'=>⟨by rw[if_neg (by omega)];exact e',hold b' bl⟩) T;have bK:=nz.graft (w':=w) (h':=freezeLs Z.h ls++[.b9 z es]) (ls:=ls) (o:=(freezeLs Z.h ls).length) (c0:=0) (Zi _) (fun i z1 aK hi=>by
  by_cases hlt:i<(freezeLs Z.h ls).length
  ·rw[Ze hlt]at hi
   exact⟨by omega,ou _ hi rfl⟩
  ·have h1:=(Zb.1 hi).1
   simp at h1
   obtain rfl:i=(freezeLs Z.h ls).length:=by omega
   simp at hi)
 refine⟨fun b hb=> ?_,fun b i c X z1 aK e hi=> ?_⟩;have:(w.alloc (.cells a1 e)).heap.size=w.heap.size+1:=by simp
 rw[if_neg (by omega)];exact bK.new b (by omega);split at e;cases e;exact bK.zone b i c X z1 aK e hi;refine⟨some w.heap.size, .b9 z es,by rw[<-k1.len];simp,by simp,a1,ps.length,iW.new w a1 e,bF,by omega,?_,by rw[bH]⟩;have:ps.length<=ps.length*z:=Ql _ aM;simp only[maxLen];omega
end
end Gi
