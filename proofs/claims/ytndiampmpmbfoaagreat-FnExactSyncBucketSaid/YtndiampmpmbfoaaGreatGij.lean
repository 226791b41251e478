/- A part. -/
import Derived.Test.YtndiampmpmbfoaaGreatGih
set_option linter.all false
namespace Gi
open Go Go.RowKit
variable {KI:KF}
section
variable {Γ:Ctx}{P:Program}{M0:Nat->Prop}{base:Nat}{Z:St}{a:Act}{w:World}{J:List (Option Nat)}
def eC (b:Nat):∀(vs:List Value)(o:Nat)(w:World)(cur:Array Value),fO w b cur->o+vs.length<=cur.size->
 ∃cur',fO (w.setCells b o vs) b cur'/\ cur'.size=cur.size/\ ∀i,cur'[i]? =if o<=i/\ i<o+vs.length then vs[i-o]? else cur[i]?
 |[],o,w,cur,hr,_=>⟨cur,hr,rfl,fun i=>by rw[if_neg (by simp)]⟩
 |v::vs,o,w,cur,hr,hl=>by
  simp only[Zo]at hl
  have h1:fO (w.setCell ⟨b,o,none⟩ v) b (cur.setIfInBounds o v):=by
   obtain⟨T,hr⟩:=hr
   exact⟨T,heap_setCell_same w b o cur T v hr⟩
  obtain⟨cur',h2,h3,h4⟩:=eC b vs (o+1) _ _ h1 (by simp;omega)
  refine⟨cur',h2,by rw[h3];simp,fun i=> ?_⟩
  rw[h4]
  simp only[Zo]
  by_cases e1:o+1<=i/\ i<o+1+vs.length
  ·rw[if_pos e1,if_pos (by omega),show i-o=(i-(o+1))+1 by omega]
   simp
  ·rw[if_neg e1]
   by_cases e2:i=o
   ·subst e2
    rw[if_pos (by omega),Zb4 (by omega)]
    simp
   ·rw[if_neg (by omega),Zc7 (by omega)]
def dP (b:Nat):∀(vs:List Value)(o:Nat)(w:World)(k:Nat),k≠b->(w.setCells b o vs).heap[k]? =w.heap[k]?
 |[],_,_,_,_=>rfl
 |v::vs,o,w,k,h=>by
  rw[World.setCells,dP b vs (o+1) _ k h]
  exact heap_setCell_other w ⟨b,o,none⟩ k v h
def dR (b:Nat):∀(vs:List Value)(o:Nat)(w:World),(w.setCells b o vs).heap.size=w.heap.size
 |[],_,_=>rfl
 |v::vs,o,w=>by rw[World.setCells,dR b vs (o+1)];simp
def cS (b B:Nat)(hB:B<=b):∀(vs:List Value)(o:Nat)(w0 w:World),Below B w0 w->Below B w0 (w.setCells b o vs)
 |[],_,_,_,h=>h
 |v::vs,o,w0,w,h=>by
  rw[World.setCells]
  exact cS b B hB vs (o+1) w0 _ (h.setCell (p:=⟨b,o,none⟩) hB v)
def kO [KF](P:Program)(M0:Nat->Prop)(base:Nat)(Z:St)(w:World)(J:List (Option Nat))(v:V)(h':List Y0)(s:Sem Next):Prop:=
 ∃n u w' J',s.run P w= .ok n w'/\ (n= .value u \/(n= .skip/\ u=undef))/\ Below base w w'/\ HR M0 base w' J' h'/\ Ch (Mu M0 J Z.h) (Mu M0 J' h') w w' J J' Z.h h'/\ VR (Mu M0 J' h') w' J' h' v u
def fO.new (w:World)(cells:Array Value)(t:TypeId):fO (w.alloc (.cells cells t)) w.heap.size cells:=⟨t,heap_alloc_new w _⟩
def fb (w:World)(o:Obj)(b:Nat)(h:b<w.heap.size):(w.alloc o).heap[b]? =w.heap[b]? :=by
 simp only[World.alloc,Array.getElem?_push]
 rw[if_neg (by omega)]
def TS (k:HR M0 base w J Z.h)(t:TypeId)(cells:Array Value)(cs:List L)(hl:tg (Mu M0 J Z.h) w J Z.h cs cells.toList):
 ∃J',Below base w (w.alloc (.cells cells t))/\ HR M0 base (w.alloc (.cells cells t)) J' (Z.h++[.box cs])/\ Ch (Mu M0 J Z.h) (Mu M0 J' (Z.h++[.box cs])) w (w.alloc (.cells cells t)) J J' Z.h (Z.h++[.box cs])/\
  VR (Mu M0 J' (Z.h++[.box cs])) (w.alloc (.cells cells t)) J' (Z.h++[.box cs]) (.one (.ptr Z.h.length 0 0)) (.pointer (some ⟨w.heap.size,0,none⟩)):=by
 obtain⟨h1,h2⟩:=k.push (w':=w.alloc (.cells cells t)) (by simp) (fun b hb=>fb w _ b hb) (some w.heap.size) (.box cs) (fun b e=>by cases e;exact Zn _)
  (fun c=>⟨w.heap.size,cells,rfl,k.le,fO.new w cells t,hl.ch c⟩)
 refine⟨_,(Below.refl _ _).alloc k.le _,h1,h2,some w.heap.size, .box cs,?_,?_,w.heap.size,rfl,by simp⟩
 ·rw[<-k.len];simp
 ·simp
def oh {h:List Y0}:∀{ls:List L}{ps:List PV},viewL h ls=some ps->ps.length=ls.length/\ ∀(i:Nat)l,ls[i]? =some l->∃p,ps[i]? =some p/\ l.view h=some p
 |[],ps,e=>by simp[viewL]at e;subst e;exact⟨rfl,fun i l hl=>by simp at hl⟩
 |l::ls,ps,e=>by
  unfold viewL at e
  split at e
  ·rename_i p bj h1 h2
   cases e
   obtain⟨h3,h4⟩:=oh h2
   refine⟨by simp[h3],fun i l' hl=> ?_⟩
   cases i with
   |zero=>simp at hl;subst hl;exact⟨p,rfl,h1⟩
   |succ i=>simpa using h4 i l' (by simpa using hl)
  ·cases e
def Kh {h:List Y0}(l l':L):l'.view (freezeL h l)=l'.view h:=by
 cases l with
 |arr o=>
  simp only[freezeL]
  split
  ·rename_i z es ho
   cases l' with
   |arr o'=>
    simp only[L.view]
    by_cases e:o=o'
    ·subst e
     rw[Zd (Zb.1 ho).1,ho]
    ·rw[Za e]
   |_=>rfl
  ·rename_i z es ho
   cases l' with
   |arr o'=>
    simp only[L.view]
    by_cases e:o=o'
    ·subst e
     rw[Zd (Zb.1 ho).1,ho]
    ·rw[Za e]
   |_=>rfl
  ·rfl
 |_=>rfl
def C5 {h:List Y0}(l l':L)(hm:L.mut h l'=false \/l'=l):L.mut (freezeL h l) l'=false:=by
 cases l with
 |arr o=>
  simp only[freezeL]
  split
  ·rename_i z es ho
   cases l' with
   |arr o'=>
    simp only[L.mut]
    by_cases e:o=o'
    ·subst e
     rw[Zd (Zb.1 ho).1]
    ·rw[Za e]
     rcases hm with hm|hm
     ·exact hm
     ·cases hm;exact absurd rfl e
   |_=>rfl
  ·rename_i z es ho
   cases l' with
   |arr o'=>
    simp only[L.mut]
    by_cases e:o=o'
    ·subst e
     rw[Zd (Zb.1 ho).1]
    ·rw[Za e]
     rcases hm with hm|hm
     ·exact hm
     ·cases hm;exact absurd rfl e
   |_=>rfl
  ·rename_i bk aX
   cases l' with
   |arr o'=>
    rcases hm with hm|hm
    ·exact hm
    ·cases hm
     simp only[L.mut]
   |_=>rfl
 |_=>
  rcases hm with hm|hm
  ·exact hm
  ·subst hm;rfl
def iS :∀(ls:List L){h:List Y0}(l':L),l'.view (freezeLs h ls)=l'.view h
 |[],_,_=>rfl
 |l::ls,h,l'=>(iS ls (h:=freezeL h l) l').trans (Kh l l')
def iK :∀(ls:List L){h:List Y0}(l':L),(L.mut h l'=false \/l'∈ls)->L.mut (freezeLs h ls) l'=false
 |[],h,l',hm=>by rcases hm with hm|hm;exact hm;cases hm
 |l::ls,h,l',hm=>by
  refine iK ls (h:=freezeL h l) l' ?_
  rcases hm with hm|hm
  ·exact .inl (C5 l l' (.inl hm))
  ·rcases ZL.1 hm with rfl|hm
   ·exact .inl (C5 _ _ (.inr rfl))
   ·exact .inr hm
def jX :∀(vs:List V){h:List Y0}(l':L),l'.view (freezeVs h vs)=l'.view h
 |[],_,_=>rfl
 |v::vs,h,l'=>(jX vs (h:=freezeLs h v.cells) l').trans (iS v.cells l')
def lD :∀(vs:List V){h:List Y0}(l':L),(L.mut h l'=false \/∃v∈vs,l'∈v.cells)->L.mut (freezeVs h vs) l'=false
 |[],h,l',hm=>by rcases hm with hm|⟨v,hv,_⟩;exact hm;cases hv
 |v::vs,h,l',hm=>by
  refine lD vs (h:=freezeLs h v.cells) l' ?_
  rcases hm with hm|⟨v',al,hl⟩
  ·exact .inl (iK _ l' (.inl hm))
  ·rcases ZL.1 al with rfl|al
   ·exact .inl (iK _ l' (.inr hl))
   ·exact .inr ⟨v',al,hl⟩
def uo {h h1:List Y0}(k1:HR M0 base w J h1){ls:List L}{us:List Value}{ps:List PV}(hl:tg (Mu M0 J h1) w J h1 ls us)(hv:viewL h ls=some ps)
 (av:∀l∈ls,l.view h1=l.view h) (aF:∀l∈ls,L.mut h1 l=false):ps.length=us.length/\ ∀(j:Nat)p,ps[j]? =some p->∃v,us[j]? =some v/\ aq (Mu M0 J h1) w p v:=by
 obtain⟨e1,e2⟩:=oh hv
 refine⟨e1.trans hl.1,fun j p hp=> ?_⟩
 have hj:j<ls.length:=by rw[<-e1];exact(Zb.1 hp).1
 have aR:ls[j]? =some ls[j]:=by simp[hj]
 have aS:us[j]? =some (us[j]'(by rw[<-hl.1];exact hj)):=by simp[<-hl.1,hj]
 obtain⟨p',aT,ah⟩:=e2 j _ aR
 rw[hp]at aT;cases aT
 have aw:ls[j]∈ls:=Zf hj
 exact⟨_,aS,ol k1 (hl.2 j _ _ aR aS) (by rw[av _ aw];exact ah) (aF _ aw)⟩
def CQ (s:SR Γ M0 base Z a w J){o:Oper}{d:Md}{ao:AOp}{v:V}{h':List Y0}{call:Nat->List V->Option V}{t:TypeId}(aa:o.op= .alloc t)
 (hc:fX P kf d o.op=some ao) (he:cz call Z ao=some (v,h')):kO P M0 base Z w J v h' (execOp a.eval o):=by
 rw[aa]at hc;simp only[fX]at hc
 split at hc
 ·rename_i v0 hz
  split at hc
  ·rename_i cs ab
   cases hc;cases he
   obtain⟨i,hi,aG⟩:∃i,P.info? t=some i/\ i.zero=some v0:=by
    unfold oA at hz
    cases hi:P.info? t with
    |none=>simp[hi]at hz
    |some i=>simp[hi]at hz;exact⟨i,rfl,hz⟩
   obtain⟨J',h1,h2,h3,h4⟩:=TS s.hr t v0.cells cs (qn ab)
   refine⟨_,_,_,J',?_, .inl rfl,h1,h2,h3,h4⟩
   simp only[execOp,aa]
   simp[Instr.alloc,zeroValue,typeInfo,hi,aG,newVar,newRow,run_newObj_alloc]
  ·cases hc
 ·cases hc
def I4 (s:SR Γ M0 base Z a w J){o:Oper}{d:Md}{ao:AOp}{v:V}{h':List Y0}{call:Nat->List V->Option V}{t:TypeId}{x:Operand}(aa:o.op= .box t x)
 (hc:fX P kf d o.op=some ao) (he:cz call Z ao=some (v,h')):kO P M0 base Z w J v h' (execOp a.eval o):=by
 rw[aa]at hc;simp only[fX,Zj]at hc
 obtain⟨y,hy,rfl⟩:=hc
 simp only[cz]at he
 split at he
 ·rename_i ax
  cases he
  have r:=(aD s hy).cells (V.c9 ax)
  obtain⟨J',h1,h2,h3,h4⟩:=TS s.hr t (a.eval x).cells _ r
  refine⟨_,_,_,J',?_, .inl rfl,h1,h2,h3,h4⟩
  simp only[execOp,aa]
  simp[Instr.box,newVar,newRow,run_newObj_alloc]
 ·cases he
def EJ {h:List Y0}(k:HR M0 base w J h){w':World}(hs:w.heap.size<w'.heap.size)(hb:∀b,b<w.heap.size->w'.heap[b]? =w.heap[b]?){z cap:Nat}{es:List (List PV)}{cur:Array Value}
 (hz:0<z) (ai:∀e∈es,e.length=z) (a1:fO w' w.heap.size cur) (h1:cur.size=cap*z) (h2:es.length<=cap) (h3:cap<=maxLen)
 (hr:∀(i:Nat)(e:List PV)(j:Nat)(p:PV),es[i]? =some e->e[j]? =some p->∃v,cur[i*z+j]? =some v/\ aq (Mu M0 J h) w p v):
 HR M0 base w' (J++[some w.heap.size]) (h++[.arr z es])/\ Ch (Mu M0 J h) (Mu M0 (J++[some w.heap.size]) (h++[.arr z es])) w w' J (J++[some w.heap.size]) h (h++[.arr z es])/\
  VR (Mu M0 (J++[some w.heap.size]) (h++[.arr z es])) w' (J++[some w.heap.size]) (h++[.arr z es]) (.one (.arr h.length)) (.slice (some ⟨w.heap.size,0,none⟩) es.length cap):=by
 obtain⟨g1,g2⟩:=k.push (w':=w') (Zd2 hs) hb (some w.heap.size) (.arr z es) (fun b e=>by cases e;exact Zn _)
  (fun c=>⟨hz,ai,k.le,cur,cap,a1,h1,h2,h3,fun i e j p he hp=>by
   obtain⟨v,hv,aY⟩:=hr i e j p he hp
   exact⟨v,hv,aq.go c.go p v aY⟩⟩)
 refine⟨g1,g2,some w.heap.size, .arr z es,?_,?_,cur,cap,a1,h1,h2,h3,rfl⟩
 ·rw[<-k.len];simp
 ·simp
def TR {h:List Y0}(k:HR M0 base w J h){w':World}(hs:w.heap.size<w'.heap.size)(hb:∀b,b<w.heap.size->w'.heap[b]? =w.heap[b]?){z cap:Nat}{es:List (List PV)}{cur:Array Value}
 (hz:0<z) (ai:∀e∈es,e.length=z) (a1:fO w' w.heap.size cur) (h1:cur.size=cap*z) (h2:es.length<=cap) (h3:cap<=maxLen)
 (hr:∀(i:Nat)(e:List PV)(j:Nat)(p:PV),es[i]? =some e->e[j]? =some p->∃v,cur[i*z+j]? =some v/\ aq (Mu M0 J h) w p v):
 ∃J',HR M0 base w' J' (h++[.arr z es])/\ Ch (Mu M0 J h) (Mu M0 J' (h++[.arr z es])) w w' J J' h (h++[.arr z es])/\
  VR (Mu M0 J' (h++[.arr z es])) w' J' (h++[.arr z es]) (.one (.arr h.length)) (.slice (some ⟨w.heap.size,0,none⟩) es.length cap):=
 ⟨_,EJ k hs hb hz ai a1 h1 h2 h3 hr⟩
def TO {z:Array Value}{n i j:Nat}(hj:j<z.size)(hi:i<n):(madeCells z (n*z.size))[i*z.size+j]? =some z[j]:=by
 have aZ:i*z.size+j<n*z.size:=by
  calc i*z.size+j<i*z.size+z.size:=by omega
   _=(i+1)*z.size:=by rw[Nat.add_mul,D']
   _<=n*z.size:=ZH _ hi
 have aH:(i*z.size+j)%z.size=j:=by
  rw[Zb5,Nat.mul_add_mod];exact Nat.mod_eq_of_lt hj
 simp[madeCells,aZ,aH,hj]
def Rb {M:Nat->Prop}{v:Value}{p:PV}(e:XO v=some p):aq M w p v:=by
 unfold XO at e
 split at e<;>cases e
 ·simp[aq]
 ·simp[aq]
 ·simp[aq]
 ·simp only[aq];exact .inl ⟨by trivial,_,_,rfl⟩
def ON (s:SR Γ M0 base Z a w J){o:Oper}{d:Md}{ao:AOp}{v:V}{h':List Y0}{call:Nat->List V->Option V}{t:TypeId}{x y:Operand}(aa:o.op= .makeSlice t x y)
 (hc:fX P kf d o.op=some ao) (he:cz call Z ao=some (v,h')):kO P M0 base Z w J v h' (execOp a.eval o):=by
 rw[aa]at hc;simp only[fX]at hc
 split at hc
 ·rename_i e x' y' ht hx hy
  split at hc
  ·rename_i b0
   subst b0
   split at hc
   ·rename_i aU z v0 aI a8 hz
    split at hc
    ·rename_i zs aV
     split at hc
     ·rename_i aJ
      cases hc
      simp only[cz]at he
      split at he
      ·rename_i kk m hm
       split at he
       ·rename_i hb
        obtain⟨h0,aK,b1,bl⟩:=hb
        cases he
        obtain⟨m,rfl⟩:=Int.eq_ofNat_of_zero_le h0
        have ex:=(aD s hx).int hm
        have ey:=(aD s hy).int hm
        obtain⟨i,hi,aG,b2,b3⟩:∃i,P.info? e=some i/\ i.zero=some v0/\ i.size=z/\ i.bytes=aU:=by
         unfold oA at hz;unfold rS at a8;unfold Oh at aI
         cases hi:P.info? e with
         |none=>simp[hi]at hz
         |some i=>simp[hi]at hz a8 aI;exact⟨i,rfl,hz,a8,aI⟩
        have hu:P.underlying t=some (.slice e):=by
         unfold jh at ht
         split at ht<;>cases ht
         assumption
        have ab:v0.cells.size=z:=by rw[<-aJ,fk aV];simp
        have b4:(aU:Int)*(m:Int)<=281474976710656:=by rw[Int.mul_comm];omega
        have a7:=run_make (P:=P) w t e i v0 hu hi aG kk kk (m:Int) (m:Int) (by omega) (by omega) (by rw[b3];exact b4) b1
        simp only[Int.toNat_natCast]at a7
        rw[b2,<-ab]at a7
        rw[aJ]
        have b5:0<z:=by omega
        obtain⟨J',g1,g2,g3⟩:=TR (h:=Z.h) s.hr (w':=w.alloc (.cells (madeCells v0.cells (m*v0.cells.size)) e)) (by simp) (fun b hb=>fb w _ b hb) (z:=z) (cap:=m) (es:=List.replicate m zs) b5
         (fun e' aL=>by rw[(List.mem_replicate.1 aL).2];exact aJ) (fO.new w _ e) (by rw[size_madeCells,ab]) (by simp) (by simp only[maxLen];omega)
         (fun i' e' j p aL hp=>by
          obtain⟨b6,rfl⟩:i'<m/\ zs=e':=by simpa[List.getElem?_replicate]using aL
          obtain⟨v',al,b7⟩:=Vc aV j p hp
          have hj:j<v0.cells.size:=by simpa using(Zb.1 al).1
          refine⟨v0.cells[j],by rw[<-ab];exact TO hj b6,?_⟩
          have:v'=v0.cells[j]:=by simpa[hj]using al.symm
          rw[<-this]
          exact Rb b7)
        refine⟨.value (.slice (some ⟨w.heap.size,0,none⟩) m m), .slice (some ⟨w.heap.size,0,none⟩) m m,_,J',?_, .inl rfl,(Below.refl _ _).alloc s.hr.le _,g1,g2,?_⟩
        ·simp only[execOp,aa,ex,ey]
         simp only[Sem.run_bind,a7,Result.andThen_ok,Sem.run_pure]
        ·simpa using g3
       ·cases he
      ·cases he
     ·cases hc
    ·cases hc
   ·cases hc
  ·cases hc
 ·cases hc
end
end Gi
namespace Gi
open Go Go.RowKit
variable {KI:KF}
section
variable {Γ:Ctx}{P:Program}{M0:Nat->Prop}{base:Nat}{Z:St}{a:Act}{w:World}{J:List (Option Nat)}
def pq {t:TypeId}{n b o:Nat}{u:Value}{cur:Array Value}(hn:rS P t=some n)(a1:fO w b cur)(a8:u.cells.size=n)(hle:o+n<=cur.size)(h1:∀v∈u.cells.toList,v.oneCell'=true):
 (Instr.storeAt t (.pointer (some ⟨b,o,none⟩)) u).run P w= .ok () (w.setCells b o u.cells.toList):=by
 have a2:=run_storeCells_cells (P:=P) b o u.cells.toList 0 w (fun j hj=>by
  rw[a1.cell]
  have:o+j<cur.size:=by simp at hj;omega
  simp[this]) (fun j _=>a1.free _) h1
 simp only[Za7]at a2
 simp[Instr.storeAt,Instr.sureAddr,storeVar,nA t hn,a8,a2]
def tg.cO {M:Nat->Prop}{h:List Y0}{ls:List L}{us:List Value}(r:tg M w J h ls us):∀v∈us,v.oneCell'=true:=fun v hv=>by
 obtain⟨i,hi,rfl⟩:=T' hv
 exact(r.2 i (ls[i]'(by rw[r.1];exact hi)) us[i] (by simp[r.1,hi]) (by simp[hi])).one
def Iw {ob z:Nat}{es:List (List PV)}:∀(ls:List L)(h:List Y0),ls.all (L.bC ob)=true->h[ob]? =some (.arr z es)->(freezeLs h ls)[ob]? =some (.arr z es):=by
 intro ls
 induction ls with
 |nil=>intro h _ hh;exact hh
 |cons l ls ih=>
  intro h ag hh
  simp only[Zq,Zh]at ag
  refine ih (freezeL h l) ag.2 ?_
  cases l with
  |arr o'=>
   simp only[freezeL]
   split
   ·rw[Za (by simpa[L.bC]using ag.1)]
    exact hh
   ·rw[Za (by simpa[L.bC]using ag.1)]
    exact hh
   ·exact hh
  |_=>exact hh
def vD {i i' j j' z:Nat}(hj:j<z)(b8:j'<z)(h:i*z+j=i'*z+j'):i=i'/\ j=j':=by
 have h1:(i*z+j)/z=i:=by rw[Zb5,Nat.mul_add_div (by omega),Nat.div_eq_of_lt hj,Za7]
 have h2:(i'*z+j')/z=i':=by rw[Zb5,Nat.mul_add_div (by omega),Nat.div_eq_of_lt b8,Za7]
 have:i=i':=by rw[<-h1,h,h2]
 subst this
 exact⟨rfl,by omega⟩
def Nr (s:SR Γ M0 base Z a w J){o:Oper}{d:Md}{ao:AOp}{v:V}{h':List Y0}{call:Nat->List V->Option V}{t:TypeId}{x y:Operand}(aa:o.op= .store t x y)
 (hc:fX P kf d o.op=some ao) (he:cz call Z ao=some (v,h')):kO P M0 base Z w J v h' (execOp a.eval o):=by
 rw[aa]at hc;simp only[fX]at hc
 split at hc
 ·rename_i n x' y' hn hx hy
  cases hc
  simp only[cz]at he
  split at he
  ·rename_i bm a2
   cases he
   have rx:=aD s hx
   have ry:=aD s hy
   simp only[bD]at a2
   split at a2
   ·rename_i hlen
    split at a2
    ·rename_i ob i j ba
     rw[ba]at rx
     obtain⟨r0,obj,aC,aE,aW⟩:=rx
     split at a2
     ·rename_i cs ab
      rw[ab]at aE;cases aE
      split at a2
      ·rename_i ad
       obtain⟨rfl,hle,ax⟩:=ad
       cases a2
       have aj:=ry.cells (V.c9 ax)
       obtain⟨b,cur,e,a5,a1,ae⟩:=s.hr.objs ob _ r0 ab aC
       subst e
       obtain⟨b',e',hu⟩:=aW
       cases e'
       simp only[Y0.z,Nat.zero_mul,ZO]at hu
       have a8:(a.eval y).cells.size=n:=by rw[<-hlen,aj.1];simp
       have bb:cs.length=cur.size:=by rw[ae.1];simp
       have a7:=pq (P:=P) hn a1 a8 (by omega) aj.cO (o:=j)
       obtain⟨cur',a6,af,ak⟩:=eC b (a.eval y).cells.toList j w cur a1 (by simp[a8];omega)
       obtain⟨g1,g2⟩:=s.hr.c0 (w':=w.setCells b j (a.eval y).cells.toList) (ob':= .box (putAt cs j (y'.ev Z).cells)) ab aC rfl trivial (dR b _ j w).symm
        (fun k hk=>dP b _ j w k (fun e=>hk (by rw[e])))
        (fun k c e hr=>by cases e;rw[hr.inj a1];exact⟨cur',a6,af⟩)
        (fun c=>⟨b,cur',rfl,a5,a6,by rw[wX _ _ _ (by omega)];simp only[N',af];exact bb,fun k l u hl an=>by
         rw[wW _ _ _ (by omega)]at hl
         rw[Array.getElem?_toList,ak]at an
         simp only[N',a8]at an
         rw[hlen]at hl
         split at hl
         ·rename_i ar
          rw[if_pos ar]at an
          exact(aj.2 _ l u hl an).ch c
         ·rename_i ar
          rw[if_neg ar]at an
          exact(ae.2 _ l u hl (by simpa using an)).ch c⟩)
       refine⟨.skip,undef,_,J,?_, .inr ⟨rfl,rfl⟩,cS b base a5 _ j w w (Below.refl _ _),g1,g2,VR.undef⟩
       simp only[execOp,aa,hu]
       simp[a7]
      ·cases a2
     ·rename_i z es ab
      rw[ab]at aE;cases aE
      split at a2
      ·rename_i e ps hei aM
       split at a2
       ·rename_i ad
        obtain⟨hle,bc⟩:=ad
        cases a2
        have bd:∀xs,y'.ev Z≠ .b9 xs:=by
         intro xs e'
         rw[e']at aM
         simp[V.cells,viewL,L.view]at aM
        have aj:=ry.cells bd
        obtain⟨k1,c1⟩:=s.hr.freezeLs (y'.ev Z).cells
        have ay:(freezeLs Z.h (y'.ev Z).cells)[ob]? =some (.arr z es):=Iw _ _ bc ab
        have aN:tg (Mu M0 J (freezeLs Z.h (y'.ev Z).cells)) w J (freezeLs Z.h (y'.ev Z).cells) (y'.ev Z).cells (a.eval y).cells.toList:=aj.ch c1
        obtain⟨ax,bf⟩:=uo k1 aN aM (fun l _=>iS _ l) (fun l hl=>iK _ l (.inr hl))
        obtain⟨hz,ai,kx⟩:=k1.objs ob _ r0 ay aC
        obtain⟨b',e',hu⟩:=aW
        subst e'
        simp only[Y0.z]at hu
        obtain⟨a5,cur,cap,a1,h1,h2,h3,h4⟩:=kx
        have a8:(a.eval y).cells.size=n:=by rw[<-hlen,aj.1];simp
        have bg:ps.length=n:=by rw[ax];simpa using a8
        have bh:e.length=z:=ai e (Zl hei)
        have aO:i<es.length:=(Zb.1 hei).1
        have az:i*z+j+n<=cur.size:=by
         rw[h1]
         calc i*z+j+n<=i*z+z:=by omega
          _=(i+1)*z:=by rw[Nat.add_mul,D']
          _<=cap*z:=ZH _ (by omega)
        have a7:=pq (P:=P) hn a1 a8 az aj.cO
        obtain⟨cur',a6,af,ak⟩:=eC b' (a.eval y).cells.toList (i*z+j) w cur a1 (by simp only[N',a8];exact az)
        obtain⟨g1,g2⟩:=k1.c0 (w':=w.setCells b' (i*z+j) (a.eval y).cells.toList) (ob':= .arr z (es.set i (putAt e j ps))) ay aC rfl ⟨rfl,by simp⟩ (dR b' _ _ w).symm
         (fun k hk=>dP b' _ _ w k (fun e=>hk (by rw[e])))
         (fun k c e hr=>by cases e;rw[hr.inj a1];exact⟨cur',a6,af⟩)
         (fun c=>by
          refine⟨hz,fun e1 he1=> ?_,a5,cur',cap,a6,by rw[af];exact h1,by simpa using h2,h3,fun i1 e1 j1 p1 hi1 au=> ?_⟩
          ·rcases Q' he1 with hm|rfl
           ·exact ai e1 hm
           ·rw[wX _ _ _ (by omega)];exact bh
          ·rw[ak]
           simp only[N',a8]
           by_cases aP:i=i1
           ·subst aP
            rw[Zd aO]at hi1
            cases hi1
            rw[wW _ _ _ (by omega),bg]at au
            split at au
            ·rename_i ar
             obtain⟨u,aA,aB⟩:=bf _ _ au
             exact⟨u,by rw[if_pos (by omega),show i*z+j1-(i*z+j)=j1-j by omega];exact aA,aq.go c.go p1 u aB⟩
            ·rename_i ar
             obtain⟨u,aA,aB⟩:=h4 i e j1 p1 hei au
             exact⟨u,by rw[if_neg (by omega)];exact aA,aq.go c.go p1 u aB⟩
           ·rw[Za aP]at hi1
            obtain⟨u,aA,aB⟩:=h4 i1 e1 j1 p1 hi1 au
            have aQ:j1<z:=by rw[<-ai e1 (Zl hi1)];exact(Zb.1 au).1
            refine⟨u,?_,aq.go c.go p1 u aB⟩
            rw[if_neg]
            ·exact aA
            ·intro ar
             have:∃q,q<z/\ i1*z+j1=i*z+q:=⟨i1*z+j1-i*z,by omega,by omega⟩
             obtain⟨q,hq,e2⟩:=this
             exact aP (vD aQ hq e2).1.symm)
        refine⟨.skip,undef,_,J,?_, .inr ⟨rfl,rfl⟩,cS b' base a5 _ _ w w (Below.refl _ _),g1,c1.trans g2,VR.undef⟩
        simp only[execOp,aa,hu]
        simp[a7]
       ·cases a2
      ·cases a2
     ·cases a2
    ·cases a2
   ·cases a2
  ·cases he
 ·cases hc
end
end Gi
