/- Of this proof. -/
import Derived.Test.YtpnolnkjijmfjaaGreatGild
set_option linter.all false
namespace Gi
open Go Go.RowKit
variable {KI:KF}
def L.br (o:Nat):L->Bool
 | .arr x=>x==o
 |_=>false
def DX (ls:List L)(o:Nat):Option Nat:=ls.findIdx? (L.br o)
def uF {ls:List L}{o:Nat}:o∈cz ls↔L.arr o∈ls:=by simp only[cz,List.mem_filterMap];constructor;rintro⟨l,hl,he⟩;cases l<;>simp at he;subst he;exact hl;intro h;exact⟨_,h,rfl⟩
def RO :∀{ls:List L},(cz ls).Nodup->∀{q o:Nat},ls[q]? =some (.arr o)->DX ls o=some q
 |[],_,q,o,h=>by simp at h
 |l::ls,hn,q,o,h=>by
  have bK:(cz ls).Nodup:=by
   cases l with
   |arr x=>exact(Yn.1 (by simpa[cz]using hn)).2
   |_=>simpa[cz]using hn
  cases q with
  |zero=>simp at h;subst h;simp[DX,L.br,QO]
  |succ q=>
   have h':ls[q]? =some (.arr o):=by simpa using h
   have ih:=RO bK h';have aq:L.br o l=false:=by
    cases l with
    |arr x=>have:=(Yn.1 (show(x::cz ls).Nodup by simpa[cz]using hn)).1;simp only[L.br,beq_eq_false_iff_ne];intro e;subst e;exact this (uF.2 (Zn h'))
    |_=>rfl
   unfold DX at ih⊢;rw[QO,aq,ih];rfl
def Kc {ls:List L}{o:Nat}(h:¬o∈cz ls):DX ls o=none:=by
 unfold DX;rw[YC];intro l hl;cases l with
 |arr x=>simp only[L.br,beq_eq_false_iff_ne];intro e;subst e;exact h (uF.2 hl)
 |_=>rfl
def TJ {ls:List L}{o:Nat}(h:ls.all (L.bB o)=true):¬o∈cz ls:=by intro hm;have:=(Zu.1 h) _ (uF.1 hm);simp[L.bB]at this
def graft (ls:List L)(o c0:Nat)(κ:Nat->List Nat)(b:Nat):List Nat:=
 match κ b with
 |x::X=>(match DX ls x with
  |some q=>o::(c0+q)::X
  |none=>x::X)
 |[]=>[]
def vq {ls:List L}{o c0 x:Nat}{κ:Nat->List Nat}{b:Nat}{X:List Nat}(hp:DX ls x=none)(e:κ b=x::X):graft ls o c0 κ b=x::X:=by simp only[graft,e,hp]
def JF {ls:List L}{o c0 x q:Nat}{κ:Nat->List Nat}{b:Nat}{X:List Nat}(hp:DX ls x=some q)(e:κ b=x::X):graft ls o c0 κ b=o::(c0+q)::X:=by simp only[graft,e,hp]
def En {M:Nat->Prop}{w:World}{κ:Nat->List Nat}{lo:Nat}{π:List Nat}{p:PV}{v:Value}(hb:p.bare=true)(r:cG M w p v):io κ lo w p π v:=by
 cases p with
 |int k n=>simpa only[io,cG]using r
 |bool b=>simpa only[io,cG]using r
 |str s=>simpa only[io,cG]using r
 |lst es=>
  cases es with
  |cons e es=>simp[PV.bare]at hb
  |nil=>simp only[cG]at r;simp only[io];rcases r with r|⟨b,o,c,z,rfl,_⟩;exact .inl r;exact .inl ⟨by trivial,_,_,rfl⟩
def Gj {es:List (List PV)}(h:jk es=true){i j:Nat}{e:List PV}{p:PV}(he:es[i]? =some e)(hp:e[j]? =some p):p.bare=true:=by simp only[jk,Zu]at h;exact h e (Zn he) p (Zn hp)
def Q0.bu (z:Nat)(es:List (List PV))(ob:Q0):Prop:=ob= .arr z es \/ob= .bA z es
section
variable {Γ:Ctx}{P:Program}{M0:Nat->Prop}{base:Nat}{Z:St}{a:Act}{w:World}{J:List (Option Nat)}
def ab4 {M:Nat->Prop}{h:List Q0}{κ:Nat->List Nat}{r:Option Nat}{z:Nat}{es:List (List PV)}{π:List Nat}{v:Value}(k:BI M base w J h r (.arr z es))(hs:ru w (.arr z es) r v)
 (hκ:∀b,r=some b->κ b=π/\ vY κ base w z es π b):io κ base w (.lst es) π v:=by
 obtain⟨hz,aj,kx⟩:=k;simp only[io];cases r with
 |none=>obtain rfl:es=[]:=kx;obtain⟨ad,hs⟩:=hs;exact .inl ⟨by trivial,_,_,hs⟩
 |some b=>obtain⟨af,cur,cap,a5,h1,h2,h3,_⟩:=kx;obtain⟨cur',aD,a2,bL,_,_,rfl⟩:=hs;cases a5.inj a2;have:aD=cap:=Yr hz (bL.symm.trans h1);subst this;obtain⟨q1,q2⟩:=hκ b rfl;exact .inr ⟨b,aD,z,cur,rfl,af,q1,hz,a5,h1,h2,h3,q2.ll aj⟩
def k6 {h:List Q0}(k:HR0 M0 base w J h){κ:Nat->List Nat}(d:Deep κ base w J h){o z:Nat}{es:List (List PV)}(hd:dg h o=some (z,es)){r:Option Nat}(hr:J[o]? =some r):
 ∃ob,h[o]? =some ob/\ ob.bu z es/\ ob.mut=true/\ BI (Mu M0 J h) base w J h r (.arr z es)/\ ∀b,r=some b->κ b=[o]/\ vY κ base w z es [o] b:=by unfold dg at hd;split at hd;rename_i z' es' ho;split at hd;rename_i hb;cases hd;have k0:=k.objs o _ r ho hr;refine⟨_,ho, .inl rfl,rfl,k0,fun b e=>⟨d.root o _ b ho rfl (by rw[hr,e]),fun i e1 j p he hp=> ?_⟩⟩;subst e;obtain⟨_,_,_,cur,cap,a5,_,_,_,h4⟩:=k0;obtain⟨v,hv,bM⟩:=h4 i e1 j p he hp;exact⟨v,by rw[a5.cell];exact hv,En (Gj hb he hp) bM⟩;cases hd;rename_i z' es' ho;cases hd;have k0:=k.objs o _ r ho hr;refine⟨_,ho, .inr rfl,rfl,k0,fun b e=>⟨d.root o _ b ho rfl (by rw[hr,e]),d.tree o _ z es b ho rfl (by rw[hr,e])⟩⟩;cases hd
def JE {h:List Q0}(k:HR0 M0 base w J h){κ:Nat->List Nat}(d:Deep κ base w J h){ls:List L}(hn:(cz ls).Nodup){o c0 q:Nat}{l:L}{v:Value}{p:PV}
 (hq:ls[q]? =some l) (hv:LR (Mu M0 J h) w J h l v) (hm:l.bG h=true) (hp:l.view h=some p):io (graft ls o c0 κ) base w p [o,c0+q] v:=by
 cases l with
 |pv p'=>simp only[L.view]at hp;cases hp;exact En hm hv
 |nil=>simp only[L.view]at hp;cases hp;obtain⟨_,rfl⟩:=hv;simp only[io];exact .inl ⟨by trivial,_,_,rfl⟩
 |arr o2=>
  obtain⟨r,ob,hr,ax,hs⟩:=hv;have aE:=RO hn hq;have aS:∃z es,dg h o2=some (z,es)/\ p= .lst es/\ ru w (.arr z es) r v:=by
   simp only[L.bG,ax]at hm;simp only[L.view,ax]at hp;cases ob with
   |arr z es=>cases hp;exact⟨z,es,by simp[dg,ax,hm],rfl,hs⟩
   |bA z es=>cases hp;exact⟨z,es,by simp[dg,ax],rfl,hs⟩
   |_=>cases hm
  obtain⟨z,es,hd,rfl,bl⟩:=aS;obtain⟨ob',_,_,_,k0,hc⟩:=k6 k d hd hr;refine ab4 k0 bl fun b e=> ?_;obtain⟨q1,q2⟩:=hc b e;exact⟨JF aE q1,q2.go (Zi _) (fun _ _=>rfl) k0.2.1 (fun c b' X _ e'=>⟨JF aE e',rfl⟩)⟩
 |_=>cases hm
def Rk {h:List Q0}{l:L}{i:Nat}{x:Q0}(hx:(freezeL h l)[i]? =some x):h[i]? =some x \/∃z es,x= .bI z es:=by
 cases l with
 |arr o=>simp only[freezeL]at hx;split at hx;rename_i z es ho;by_cases e:o=i;subst e;rw[Zd (Zb.1 ho).1]at hx;cases hx;exact .inr ⟨_,_,rfl⟩;rw[Za e]at hx;exact .inl hx;rename_i z es ho;by_cases e:o=i;subst e;rw[Zd (Zb.1 ho).1]at hx;cases hx;exact .inr ⟨_,_,rfl⟩;rw[Za e]at hx;exact .inl hx;exact .inl hx
 |_=>exact .inl hx
def oH :∀(ls:List L){h:List Q0}{i:Nat}{x:Q0},(freezeLs h ls)[i]? =some x->x.mut=true->h[i]? =some x
 |[],_,_,_,hx,_=>hx
 |l::ls,h,i,x,hx,hm=>by rcases Rk (oH ls (h:=freezeL h l) hx hm)with h1|⟨z,es,rfl⟩;exact h1;cases hm
def NM {h:List Q0}{l:L}{o:Nat}{x:Q0}(hl:l.bB o=true)(hx:h[o]? =some x):(freezeL h l)[o]? =some x:=by
 cases l with
 |arr o'=>
  simp only[freezeL];have aq:o'≠o:=by simpa[L.bB]using hl
  split;rw[Za aq];exact hx;rw[Za aq];exact hx;exact hx
 |_=>exact hx
def vp {o:Nat}{x:Q0}:∀(ls:List L){h:List Q0},ls.all (L.bB o)=true->h[o]? =some x->(freezeLs h ls)[o]? =some x
 |[],_,_,hx=>hx
 |l::ls,h,hl,hx=>by simp only[Zq,Zg]at hl;exact vp ls (h:=freezeL h l) hl.2 (NM hl.1 hx)
def qZ :∀(ls:List L){h:List Q0},(freezeLs h ls).length=h.length
 |[],_=>rfl
 |l::ls,h=>by
  show(freezeLs (freezeL h l) ls).length=h.length;rw[qZ ls];cases l with
  |arr o=>simp only[freezeL];split<;>simp
  |_=>rfl
def Bs {h:List Q0}{ls:List L}(hm:∀o,L.arr o∈ls->L.bG h (.arr o)=true){i:Nat}{x:Q0}(hx:(freezeLs h ls)[i]? =some x)(a8:x.mut=true):¬i∈cz ls:=by intro hi;have hl:=uF.1 hi;have h0:=oH ls hx a8;have h1:=la ls (h:=h) (.arr i) (.inr hl);have h2:=hm _ hl;simp only[L.mut,hx]at h1;simp only[L.bG,h0]at h2;cases x<;>first|(simp at h1;done)|(simp at h2;done)
def Deep.stay {h:List Q0}(k:HR0 M0 base w J h){κ:Nat->List Nat}(d:Deep κ base w J h){ls:List L}(hm:ls.all (L.bG h)=true){o c0:Nat}{w':World}{i:Nat}{x:Q0}(hx:(freezeLs h ls)[i]? =some x)(a8:x.mut=true){b:Nat}(a7:J[i]? =some (some b)):
 graft ls o c0 κ b=[i]/\ ∀{z:Nat}{es:List (List PV)},x.deep=some (z,es)->(∀b' c X,b'<w.heap.size->κ b'=i::c::X->w'.heap[b']? =w.heap[b']?)->w'.heap[b]? =w.heap[b]? ->vY (graft ls o c0 κ) base w' z es [i] b:=by have hp:=Kc (Bs (fun o ho=>(Zu.1 hm) _ ho) hx a8);have h0:=oH ls hx a8;refine⟨vq hp (d.root i x b h0 a8 a7),fun{z es}hd hw bN=> ?_⟩;exact(d.tree i x z es b h0 hd a7).go (Zi _) (fun o _=>by unfold World.cell?;rw[bN]) ((k.objs i x _ h0 a7).rows hd).2 (fun c b' X hlt e=>⟨vq hp e,hw b' c X hlt e⟩)
def Zon.graft {κ:Nat->List Nat}{h h':List Q0}{w':World}(n:Zon κ M0 w h){ls:List L}{o c0:Nat}(hs:w.heap.size<=w'.heap.size)(hz:∀i z es,h'[i]? =some (.bC z es)->i≠o/\ h[i]? =some (.bC z es)):Zon (Gi.graft ls o c0 κ) M0 w' h':=by refine⟨fun b hb=>by simp only[Gi.graft,n.new b (by omega)],fun b i c X z es e hi=> ?_⟩;obtain⟨h1,h2⟩:=hz i z es hi;simp only[Gi.graft]at e;split at e;rename_i x τ0 hk;split at e;cases e;exact absurd rfl h1;exact n.zone b i c X z es (by rw[hk];exact e) h2;cases e
def OB (s:SR Γ M0 base Z a w J){o:Oper}{dm:Md}{t:TypeId}{x y:Operand}{n:Nat}{x' y':Opd}(ay:o.op= .store t x y)
 (hc:jm P kf dm o.op=some (.store n x' y')) {ob i j:Nat} (bP:x'.ev Z= .one (.ptr ob i j)) {z:Nat} {es:List (List PV)} (hd:dg Z.h ob=some (z,es)) {e ps:List PV} (hei:es[i]? =some e) (al:viewL Z.h (y'.ev Z).cells=some ps)
 (hlen:(y'.ev Z).cells.length=n) (hle:j+n<=e.length) (bm:(y'.ev Z).cells.all (L.bB ob)=true) (ae:(y'.ev Z).cells.all (L.bG Z.h)=true) (aU:(cz (y'.ev Z).cells).Nodup):
 nU P M0 base Z w J (.b8 []) ((freezeLs Z.h (y'.ev Z).cells).set ob (.bA z (es.set i (putAt e j ps)))) (execOp a.eval o):=by
 rw[ay]at hc;simp only[jm]at hc;split at hc;rename_i n1 x1 y1 hn hx hy;cases hc;have rx:=cR s hx;have ry:=cR s hy;rw[bP]at rx;obtain⟨r0,obj,ar,ax,bR⟩:=rx;have aF:∀xs,y'.ev Z≠ .b8 xs:=by intro xs e';rw[e']at al;simp[V.cells,viewL,L.view]at al
 have az:=ry.cells aF;obtain⟨κ,d,nz⟩:=s.hr.deep;obtain⟨cc,aG,an,a8,k0,aA⟩:=k6 s.hr.toHR0 d hd ar;rw[aG]at ax;cases ax;obtain⟨k1,c1⟩:=s.hr.freezeLs (y'.ev Z).cells;have ah:=vp (y'.ev Z).cells bm aG;have aV:xc (Mu M0 J (freezeLs Z.h (y'.ev Z).cells)) w J (freezeLs Z.h (y'.ev Z).cells) (y'.ev Z).cells (a.eval y).cells.toList:=az.ch c1;obtain⟨bS,bT⟩:=yd k1 aV al (fun l _=>lw _ l) (fun l hl=>la _ l (.inr hl));have bU:BI (Mu M0 J (freezeLs Z.h (y'.ev Z).cells)) base w J (freezeLs Z.h (y'.ev Z).cells) r0 (.arr z es):=by have:=k1.objs ob _ r0 ah ar;rcases an with rfl|rfl<;>exact this
 obtain⟨hz,aj,kx⟩:=bU;have aW:∃b,r0=some b/\ a.eval x= .pointer (some ⟨b,i*z+j,none⟩):=by rcases an with rfl|rfl<;>exact bR
 obtain⟨b',rfl,hu⟩:=aW;obtain⟨af,cur,cap,a5,h1,h2,h3,h4⟩:=kx;have ao:(a.eval y).cells.size=n:=by rw[<-hlen,az.1];simp
 have bV:ps.length=n:=by rw[bS];simpa using ao
 have bW:e.length=z:=aj e (Zn hei);have aX:i<es.length:=(Zb.1 hei).1;have aH:i*z+j+n<=cur.size:=by
  rw[h1];calc i*z+j+n<=i*z+z:=by omega
   _=(i+1)*z:=by rw[Nat.add_mul,Yl]
   _<=cap*z:=ZE _ (by omega)
 have ag:=tz (P:=P) hn a5 ao aH az.cV;obtain⟨cur',a2,aI,aY⟩:=gY b' (a.eval y).cells.toList (i*z+j) w cur a5 (by simp only[Yo,ao];exact aH);have a6:∀k,some b'≠some k->(w.setCells b' (i*z+j) (a.eval y).cells.toList).heap[k]? =w.heap[k]? :=fun k hk=>gE b' _ _ w k (fun e=>hk (by rw[e]));have cell:∀{i1 j1:Nat}{e1:List PV}{p1:PV},(es.set i (putAt e j ps))[i1]? =some e1->e1[j1]? =some p1->
  (∃q,ps[q]? =some p1/\ i1*z+j1=i*z+j+q/\ cur'[i1*z+j1]? =(a.eval y).cells.toList[q]?) \/(∃e0,es[i1]? =some e0/\ e0[j1]? =some p1/\ cur'[i1*z+j1]? =cur[i1*z+j1]?):=by
  intro i1 j1 e1 p1 hi1 ak;rw[aY];simp only[Yo,ao];by_cases aZ:i=i1;subst aZ;rw[Zd aX]at hi1;cases hi1;rw[AK _ _ _ (by omega),bV]at ak;split at ak;rename_i bn;exact .inl ⟨j1-j,ak,by omega,by rw[if_pos (by omega),show i*z+j1-(i*z+j)=j1-j by omega]⟩;rename_i bn;exact .inr ⟨e,hei,ak,by rw[if_neg (by omega)]⟩;rw[Za aZ]at hi1;have b0:j1<z:=by rw[<-aj e1 (Zn hi1)];exact(Zb.1 ak).1
  refine .inr ⟨e1,hi1,ak,?_⟩;rw[if_neg];intro bn;have:∃q,q<z/\ i1*z+j1=i*z+q:=⟨i1*z+j1-i*z,by omega,by omega⟩;obtain⟨q,hq,e2⟩:=this;exact aZ (zy b0 hq e2).1.symm
 have aa:∀e1∈es.set i (putAt e j ps),e1.length=z:=fun e1 he1=>by rcases ZF he1 with hm|rfl;exact aj e1 hm;rw[AL _ _ _ (by omega)];exact bW
 have b1:wx obj (.bA z (es.set i (putAt e j ps))):=by rcases an with rfl|rfl<;>exact⟨rfl,by simp⟩
 obtain⟨g1,g2⟩:=k1.toHR0.c6 (w':=w.setCells b' (i*z+j) (a.eval y).cells.toList) (ob':= .bA z (es.set i (putAt e j ps))) ah ar a8 b1 (gF b' _ _ w).symm a6
  (fun k c e hr=>by cases e;rw[hr.inj a5];exact⟨cur',a2,aI⟩)
  (fun c=>by
   refine⟨hz,aa,af,cur',cap,a2,by rw[aI];exact h1,by simpa using h2,h3,fun i1 e1 j1 p1 hi1 ak=> ?_⟩
   rcases cell hi1 ak with⟨q,hq,_,e2⟩|⟨e0,b3,b4,e2⟩
   ·obtain⟨u,b5,b6⟩:=bT q p1 hq
    exact⟨u,by rw[e2];exact b5,cG.go c.go p1 u b6⟩
   ·obtain⟨u,b5,b6⟩:=h4 i1 e0 j1 p1 b3 b4
    exact⟨u,by rw[e2];exact b5,cG.go c.go p1 u b6⟩)
  (fun _ _ _ _ _ e=>by subst e;rcases an with h|h<;>cases h)
 have b7:DX (y'.ev Z).cells ob=none:=Kc (TJ bm);obtain⟨hκb,bX⟩:=aA b' rfl;have aS:∀{π:List Nat}{c:Nat}{κ':Nat->List Nat},(∀b X,κ' b=[ob,c]++X->b≠b')->Gf κ' κ' w (w.setCells b' (i*z+j) (a.eval y).cells.toList) [ob,c] [ob,c]:=fun aq b X _ e=>⟨e,a6 b (fun e'=>aq b X e (by cases e';rfl))⟩;have bo:∀b c X,graft (y'.ev Z).cells ob (i*z+j) κ b=[ob,c]++X->b≠b':=fun b c X e e'=>by subst e';rw[vq b7 hκb]at e;simp at e
 have aJ:Deep (graft (y'.ev Z).cells ob (i*z+j) κ) base (w.setCells b' (i*z+j) (a.eval y).cells.toList) J ((freezeLs Z.h (y'.ev Z).cells).set ob (.bA z (es.set i (putAt e j ps)))):=by
  have b9:ob<(freezeLs Z.h (y'.ev Z).cells).length:=(Zb.1 ah).1;have get:∀{q:Nat}{x:Q0},((freezeLs Z.h (y'.ev Z).cells).set ob (.bA z (es.set i (putAt e j ps))))[q]? =some x->(q=ob/\ x= .bA z (es.set i (putAt e j ps))) \/(q≠ob/\ (freezeLs Z.h (y'.ev Z).cells)[q]? =some x):=fun{q x}e'=>by by_cases hq:ob=q;subst hq;rw[Zd b9]at e';cases e';exact .inl ⟨rfl,rfl⟩;rw[Za hq]at e';exact .inr ⟨fun e2=>hq e2.symm,e'⟩
  refine⟨fun q x b hq hm au=> ?_,fun q x z1 aK b hq ba au=> ?_⟩;rcases get hq with⟨rfl,rfl⟩|⟨_,av⟩;rw[ar]at au;cases au;exact vq b7 hκb;exact(Deep.stay s.hr.toHR0 d ae (w':=w) av hm au).1;rcases get hq with⟨rfl,rfl⟩|⟨aq,av⟩;rw[ar]at au;cases au;cases ba;intro i1 e1 j1 p1 hi1 ak;rcases cell hi1 ak with⟨m,bp,e3,e2⟩|⟨e0,b3,b4,e2⟩;obtain⟨e4,e5⟩:=rn al;have aT:m<(y'.ev Z).cells.length:=by rw[<-e4];exact(Zb.1 bp).1
  have bb:(y'.ev Z).cells[m]? =some (y'.ev Z).cells[m]:=by simp[aT]
  obtain⟨p',aL,bc⟩:=e5 m _ bb;rw[bp]at aL;cases aL;have bq:(a.eval y).cells.toList[m]? =some ((a.eval y).cells.toList[m]'(by rw[<-az.1];exact aT)):=by simp[<-az.1,aT]
  have T:=JE s.hr.toHR0 d aU (o:=q) (c0:=i*z+j) bb (az.2 m _ _ bb bq) ((Zu.1 ae) _ (Zf aT)) bc;refine⟨_,by rw[a2.cell,e2];exact bq,?_⟩;rw[e3];exact io.go (Zi _) p1 _ _ _ (aS (π:=[]) (fun b X e'=>bo b _ X e')) T;obtain⟨v,hv,ht⟩:=bX i1 e0 j1 p1 b3 b4;rw[a5.cell]at hv;refine⟨v,by rw[a2.cell,e2];exact hv,?_⟩;have T:=io.go (κ':=graft (y'.ev Z).cells q (i*z+j) κ) (w':=w) (Zi base) p1 ([q]++[i1*z+j1]) ([q]++[i1*z+j1]) v (fun b X _ e'=>⟨vq (X:=[i1*z+j1]++X) b7 e',rfl⟩) ht;exact io.go (Zi _) p1 _ _ _ (aS (π:=[]) (fun b X e'=>bo b _ X e')) T;have bs:=Q0.bQ ba;refine(Deep.stay s.hr.toHR0 d ae av bs au).2 ba (fun b2 c X _ e2=>a6 b2 (fun e3=> ?_)) (a6 b (fun e3=> ?_));cases e3;rw[hκb]at e2;simp at e2;cases e3;have:=k1.apart q ob x obj b' av ah bs a8 au ar;exact aq this
 refine⟨.skip,undef,_,J,?_, .inr ⟨rfl,rfl⟩,fH b' base af _ _ w w (Below.refl _ _),⟨g1,_,aJ,nz.graft (Nat.le_of_eq (gF b' _ _ w).symm) fun q z1 aK hq=> ?_⟩,c1.trans g2,VR.undef⟩;simp only[execOp,ay,hu];simp[ag];by_cases av:ob=q;subst av;rw[Zd (Zb.1 ah).1]at hq;cases hq;rw[Za av]at hq;exact⟨fun e=>av e.symm,oH _ hq rfl⟩;cases hc
def Bu :∀(vs:List V)(h:List Q0),freezeVs h vs=freezeLs h (vs.flatMap V.cells)
 |[],_=>rfl
 |v::vs,h=>by show freezeVs (freezeLs h v.cells) vs=_;rw[Bu vs];simp only[Y',freezeLs,Qn]
def UI {z:Nat}:∀{vs:List V},(∀v∈vs,v.cells.length=z)->∀{i j:Nat}{v:V},vs[i]? =some v->j<z->(vs.flatMap V.cells)[i*z+j]? =v.cells[j]?
 |[],_,i,j,v,h,_=>by simp at h
 |x::vs,hz,i,j,v,h,hj=>by
  have hx:x.cells.length=z:=hz x (by simp);cases i with
  |zero=>simp at h;subst h;rw[Y',Nat.zero_mul,ZK,Ze (by omega)]
  |succ i=>rw[Y',Zm (by rw[hx,Nat.add_mul];omega),hx,show(i+1)*z+j-z=i*z+j by rw[Nat.add_mul];omega];exact UI (fun v hv=>hz v (by simp[hv])) (by simpa using h) hj
def VM (s:SR Γ M0 base Z a w J){o:Oper}{d:Md}{t:TypeId}{n z:Nat}{parts:Array (Nat×Operand)}{ps:List Opd}(ay:o.op= .buildSlice t n parts)
 (hc:jm P kf d o.op=some (.bO z ps)) (aa:∀y∈ps,(y.ev Z).cells.length=z) (aM:0<z) (bd:ps.length*z<=16777216) (aF:∀y∈ps,∀xs,y.ev Z≠ .b8 xs):
 ∃a1 e,(execOp a.eval o).run P w= .ok (.value (.slice (some ⟨w.heap.size,0,none⟩) ps.length ps.length)) (w.alloc (.cells a1 e))/\ a1.size=ps.length*z/\
  ∀(i:Nat)(y:Opd),ps[i]? =some y->∃us:List Value,xc (Mu M0 J Z.h) w J Z.h (y.ev Z).cells us/\ ∀j,j<z->a1[i*z+j]? =us[j]? :=by
 rw[ay]at hc;simp only[jm]at hc;split at hc
 ·rename_i e bY ht al;split at hc
  ·rename_i z' v0 ao hz;split at hc
   ·rename_i aw;simp only[Zg,beq_iff_eq]at aw;obtain⟨ai,cd⟩:=aw;by_cases q:(d.st&&(bY.isEmpty|| !d.dp))=true;rw[if_pos q]at hc;cases hc;rw[if_neg q]at hc;cases hc;obtain⟨i,hi,bZ,bl⟩:∃i,P.info? e=some i/\ i.zero=some v0/\ i.size=z:=by
     unfold si at hz;unfold vX at ao;cases hi:P.info? e with
     |none=>simp[hi]at hz
     |some i=>simp[hi]at hz ao;exact⟨i,rfl,hz,ao⟩
    have hu:P.underlying t=some (.slice e):=by unfold lR at ht;split at ht<;>cases ht;assumption
    have ab:ps.length=n:=by rw[iH al];have:=congrArg List.length ai;simpa using this
    have aB:(parts.map fun x=>(x.1,a.eval x.2)).toList=((parts.toList.map fun x=>a.eval x.2).zipIdx 0).map fun x=>(x.2,x.1):=by
     apply YL;intro k;simp only[ZZ,Zp,Qw,ZK];have hk:(parts.toList.map (·.1))[k]? =(List.range n)[k]? :=by rw[ai]
     simp only[Zp]at hk;cases hq:parts.toList[k]? with
     |none=>simp
     |some q=>simp only[hq,Qe]at hk⊢;obtain⟨h1,h2⟩:=Zb.1 hk.symm;simp at h2;simp[<-h2]
    have aN:∀(k:Nat)y,ps[k]? =some y->∃q,(parts.toList.map fun x=>a.eval x.2)[k]? =some q/\ xc (Mu M0 J Z.h) w J Z.h (y.ev Z).cells q.cells.toList:=by
     intro k y hy;have hk:k<parts.toList.length:=by rw[<-iH al];exact(Zb.1 hy).1
     obtain⟨y',bt,c2⟩:=lf al k parts.toList[k] (by simp[hk]);rw[hy]at bt;cases bt;exact⟨_,by rw[Zp,Zj hk];rfl,(cR s c2).cells (aF y (Zn hy))⟩
    have bw:(parts.toList.map fun x=>a.eval x.2).length=n:=by rw[Zr,<-iH al,ab]
    have aC:∀u∈(parts.toList.map fun x=>a.eval x.2),u.cells.size=z:=by
     intro u c3;obtain⟨k,hk,rfl⟩:=Yi c3;have bx:k<ps.length:=by rw[ab,<-bw];exact hk
     obtain⟨q,hq,hl⟩:=aN k ps[k] (by simp[bx]);rw[Zj hk]at hq;cases hq;rw[<-aa ps[k] (Zf bx),hl.1];simp
    obtain⟨a1,aO,c4,c5,_⟩:=yb (z:=z) (parts.toList.map fun x=>a.eval x.2) 0 ((Array.range (n*z)).map (v0.cells[· %v0.cells.size]!)) aC (by rw[bw];simp);rw[<-aB,ZZ]at aO;have bf:¬n*z>2^24:=by rw[ab]at bd;omega
    have ag:(Instr.buildSlice t n (parts.map fun x=>(x.1,a.eval x.2))).run P w= .ok (.slice (some ⟨w.heap.size,0,none⟩) n n) (w.alloc (.cells a1 e)):=by
     simp only[Instr.buildSlice,Sem.run_bind,run_underlying hu,Result.andThen_ok,qy e ao];rw[if_neg bf];by_cases bg:n*z=0;have ar:Array.range (n*z)= #[]:=by rw[bg];rfl
     rw[ar]at aO;simp only[bg,if_true,Sem.run_bind,Sem.run_pure,Result.andThen_ok];have c7:Array.range 0= #[]:=rfl;simp only[c7,Array.map_empty]at aO⊢;simp[aO,newRow];simp only[bg,if_false];have c8:(zeroValue e).run P w= .ok v0 w:=by simp[zeroValue,typeInfo,hi,bZ]
     simp[c8,aO,newRow]
    refine⟨a1,e,?_,by rw[c4,ab];simp,fun i y hy=> ?_⟩
    ·simp only[execOp,ay,ab];have:(parts.map fun(x:Nat×Operand)=>match x with|(i,x)=>(i,a.eval x))=parts.map fun x=>(x.1,a.eval x.2):=rfl;simp only[Sem.run_bind];first|rw[ag]|(rw[this,ag])
     simp
    obtain⟨q,hq,hl⟩:=aN i y hy;refine⟨_,hl,fun j hj=> ?_⟩;have:=c5 i j q hq hj;rw[ZK]at this;rw[this];simp
   cases hc
  cases hc
 cases hc
def Ni (s:SR Γ M0 base Z a w J){o:Oper}{dm:Md}{t:TypeId}{n z:Nat}{parts:Array (Nat×Operand)}{ps:List Opd}(ay:o.op= .buildSlice t n parts)
 (hc:jm P kf dm o.op=some (.bO z ps)) (aa:∀y∈ps,(y.ev Z).cells.length=z) (aM:0<z) (bd:ps.length*z<=16777216) (ae:((ps.map (Opd.ev Z)).flatMap V.cells).all (L.bG Z.h)=true)
 (aU:(cz ((ps.map (Opd.ev Z)).flatMap V.cells)).Nodup) {es:List (List PV)} (aj:cQ Z.h (ps.map (Opd.ev Z))=some es):
 nU P M0 base Z w J (.one (.arr (freezeVs Z.h (ps.map (Opd.ev Z))).length)) (freezeVs Z.h (ps.map (Opd.ev Z))++[.bA z es]) (execOp a.eval o):=by
 have aF:∀y∈ps,∀xs,y.ev Z≠ .b8 xs:=by intro y hy xs e;obtain⟨k,hk,rfl⟩:=Yi hy;obtain⟨e1,_,he1⟩:=(mA aj).2 k (ps[k].ev Z) (by simp[hk]);rw[e]at he1;simp[V.cells,viewL,L.view]at he1
 obtain⟨a1,e,ag,bz,aP⟩:=VM s ay hc aa aM bd aF;obtain⟨k1,c1⟩:=s.hr.freezeVs (ps.map (Opd.ev Z));obtain⟨κ,d,nz⟩:=s.hr.deep;have bD:es.length=ps.length:=by rw[(mA aj).1];simp
 have c9:∀v∈ps.map (Opd.ev Z),v.cells.length=z:=by intro v hv;obtain⟨y,hy,rfl⟩:=ZV.1 hv;exact aa y hy
 have cell:∀{i j:Nat}{e1:List PV}{p:PV},es[i]? =some e1->e1[j]? =some p->∃l v,((ps.map (Opd.ev Z)).flatMap V.cells)[i*z+j]? =some l/\ LR (Mu M0 J Z.h) w J Z.h l v/\ l.view Z.h=some p/\ a1[i*z+j]? =some v:=by
  intro i j e1 p he1 hp;have hi:i<ps.length:=by rw[<-bD];exact(Zb.1 he1).1
  have hy:ps[i]? =some ps[i]:=by simp[hi]
  obtain⟨us,hl,ca⟩:=aP i _ hy;obtain⟨e2,aQ,bh⟩:=(mA aj).2 i (ps[i].ev Z) (by simp[hi]);rw[he1]at aQ;cases aQ;obtain⟨q1,q2⟩:=rn bh;have hj:j<(ps[i].ev Z).cells.length:=by rw[<-q1];exact(Zb.1 hp).1
  have bE:j<z:=by rw[<-aa _ (Zf hi)];exact hj
  have bj:(ps[i].ev Z).cells[j]? =some (ps[i].ev Z).cells[j]:=by simp[hj]
  obtain⟨p',aL,bc⟩:=q2 j _ bj;rw[hp]at aL;cases aL;have bH:j<us.length:=by rw[<-hl.1];exact hj
  exact⟨_,us[j],(UI c9 (by simp[hi]) bE).trans bj,hl.2 j _ _ bj (by simp[bH]),bc,by rw[ca j bE];simp[bH]⟩
 have aR:∀e1∈es,e1.length=z:=fun e1 he1=>by obtain⟨k,hk,rfl⟩:=Yi he1;obtain⟨e2,aQ,bh⟩:=(mA aj).2 k (ps[k]'(by omega)|>.ev Z) (by simp[show k<ps.length by omega]);rw[Zj hk]at aQ;cases aQ;rw[(rn bh).1];exact aa _ (Zf _)
 have hold:∀b,b<w.heap.size->(w.alloc (.cells a1 e)).heap[b]? =w.heap[b]? :=fun b hb=>iw w _ b hb;rw[Bu]at k1 c1⊢;generalize az:(ps.map (Opd.ev Z)).flatMap V.cells=ls at*;obtain⟨g1,g2⟩:=k1.toHR0.push (w':=w.alloc (.cells a1 e)) (by simp) hold (some w.heap.size) (.bA z es) (fun b e=>by cases e;exact Zi _)
  (fun c=>⟨aM,aR,k1.le,a1,ps.length,jb.new w a1 e,bz,by omega,by
   have:ps.length<=ps.length*z:=Ql _ aM
   simp only[maxLen];omega,fun i e1 j p he1 hp=>by
   obtain⟨l,v,h1,h2,h3,h4⟩:=cell he1 hp
   refine⟨v,h4,cG.go c.go p v ?_⟩
   exact ro k1 (h2.ch c1) (by rw[lw];exact h3) (la _ l (.inr (Zn h1)))⟩)
 have hN:(freezeLs Z.h ls).length=Z.h.length:=qZ ls;refine⟨_, .slice (some ⟨w.heap.size,0,none⟩) ps.length ps.length,_,J++[some w.heap.size],ag, .inl rfl,(Below.refl _ _).alloc s.hr.le _,⟨g1,fun b=>if b=w.heap.size then [(freezeLs Z.h ls).length]else graft ls (freezeLs Z.h ls).length 0 κ b,⟨fun i x b hi hx a7=> ?_,fun i x z1 aK b hi hd a7=> ?_⟩,?_⟩,c1.trans g2,?_⟩;by_cases hlt:i<(freezeLs Z.h ls).length;rw[Ze hlt]at hi;rw[Ze (by rw[k1.len];exact hlt)]at a7;have hb:=(k1.objs i x _ hi a7).lt (Q0.bF hx);rw[if_neg (by omega)];exact(Deep.stay s.hr.toHR0 d ae (w':=w) hi hx a7).1;have h1:=(Zb.1 hi).1;simp at h1;obtain rfl:i=(freezeLs Z.h ls).length:=by omega
 rw[<-k1.len]at a7;simp at a7;rw[if_pos a7.symm];by_cases hlt:i<(freezeLs Z.h ls).length;rw[Ze hlt]at hi;rw[Ze (by rw[k1.len];exact hlt)]at a7;have hx:=Q0.bQ hd;have hb:=(k1.objs i x _ hi a7).lt (Q0.bF hx);have T:=(Deep.stay s.hr.toHR0 d ae (o:=(freezeLs Z.h ls).length) (c0:=0) (w':=w) hi hx a7).2 hd (fun _ _ _ _ _=>rfl) rfl;exact T.go (Zi _) (fun o _=>by unfold World.cell?;rw[hold b hb]) ((k1.objs i x _ hi a7).rows hd).2 (fun c b' X bk e'=>⟨by rw[if_neg (by omega)];exact e',hold b' bk⟩);have h1:=(Zb.1 hi).1;simp at h1;obtain rfl:i=(freezeLs Z.h ls).length:=by omega
 rw[<-k1.len]at a7;simp at a7 hi;subst hi;subst a7;cases hd;intro i1 e1 j1 p1 he1 cb;obtain⟨l,v,q1,q2,q3,q4⟩:=cell he1 cb;refine⟨v,by rw[(jb.new w a1 e).cell];exact q4,?_⟩;have T:=JE s.hr.toHR0 d aU (o:=(freezeLs Z.h ls).length) (c0:=0) q1 q2 ((Zu.1 ae) _ (Zn q1)) q3;rw[ZK]at T;exact io.go (Zi _) p1 _ _ v (fun b' X bk e'=>⟨by rw[if_neg (by omega)];exact e',hold b' bk⟩) T;have bJ:=nz.graft (w':=w) (h':=freezeLs Z.h ls++[.bA z es]) (ls:=ls) (o:=(freezeLs Z.h ls).length) (c0:=0) (Zi _) (fun i z1 aK hi=>by
  by_cases hlt:i<(freezeLs Z.h ls).length
  ·rw[Ze hlt]at hi
   exact⟨by omega,oH _ hi rfl⟩
  ·have h1:=(Zb.1 hi).1
   simp at h1
   obtain rfl:i=(freezeLs Z.h ls).length:=by omega
   simp at hi)
 refine⟨fun b hb=> ?_,fun b i c X z1 aK e hi=> ?_⟩;have:(w.alloc (.cells a1 e)).heap.size=w.heap.size+1:=by simp
 rw[if_neg (by omega)];exact bJ.new b (by omega);split at e;cases e;exact bJ.zone b i c X z1 aK e hi;refine⟨some w.heap.size, .bA z es,by rw[<-k1.len];simp,by simp,a1,ps.length,jb.new w a1 e,bz,by omega,?_,by rw[bD]⟩;have:ps.length<=ps.length*z:=Ql _ aM;simp only[maxLen];omega
end
end Gi
