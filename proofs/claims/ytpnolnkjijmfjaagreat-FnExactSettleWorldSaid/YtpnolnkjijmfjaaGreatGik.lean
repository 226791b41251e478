/- Of this proof. -/
import Derived.Test.YtpnolnkjijmfjaaGreatGii
set_option linter.all false
namespace Gi
open Go Go.RowKit
variable {KI:KF}
section
variable {Γ:Ctx}{P:Program}{M0:Nat->Prop}{base:Nat}{Z:St}{a:Act}{w:World}{J:List (Option Nat)}
def tz {t:TypeId}{n b o:Nat}{u:Value}{cur:Array Value}(hn:vX P t=some n)(a5:jb w b cur)(a6:u.cells.size=n)(hle:o+n<=cur.size)(h1:∀v∈u.cells.toList,v.oneCell'=true):
 (Instr.storeAt t (.pointer (some ⟨b,o,none⟩)) u).run P w= .ok () (w.setCells b o u.cells.toList):=by
 have ad:=run_storeCells_cells (P:=P) b o u.cells.toList 0 w (fun j hj=>by
  rw[a5.cell]
  have:o+j<cur.size:=by simp at hj;omega
  simp[this]) (fun j _=>a5.free _) h1
 simp only[Yx]at ad;simp[Instr.storeAt,Instr.sureAddr,storeVar,qy t hn,a6,ad]
def xc.cV {M:Nat->Prop}{h:List Q0}{ls:List L}{us:List Value}(r:xc M w J h ls us):∀v∈us,v.oneCell'=true:=fun v hv=>by obtain⟨i,hi,rfl⟩:=Yi hv;exact(r.2 i (ls[i]'(by rw[r.1];exact hi)) us[i] (by simp[r.1,hi]) (by simp[hi])).one
def LM {ob z:Nat}{es:List (List PV)}:∀(ls:List L)(h:List Q0),ls.all (L.bB ob)=true->h[ob]? =some (.arr z es)->(freezeLs h ls)[ob]? =some (.arr z es):=by
 intro ls;induction ls with
 |nil=>intro h _ hh;exact hh
 |cons l ls ih=>
  intro h a7 hh;simp only[Zq,Zg]at a7;refine ih (freezeL h l) a7.2 ?_;cases l with
  |arr o'=>simp only[freezeL];split;rw[Za (by simpa[L.bB]using a7.1)];exact hh;rw[Za (by simpa[L.bB]using a7.1)];exact hh;exact hh
  |_=>exact hh
def zy {i i' j j' z:Nat}(hj:j<z)(bf:j'<z)(h:i*z+j=i'*z+j'):i=i'/\ j=j':=by
 have h1:(i*z+j)/z=i:=by rw[YH,Qy (by omega),Qt hj,Yx]
 have h2:(i'*z+j')/z=i':=by rw[YH,Qy (by omega),Qt bf,Yx]
 have:i=i':=by rw[<-h1,h,h2]
 subst this;exact⟨rfl,by omega⟩
def Sd (s:SR Γ M0 base Z a w J){o:Oper}{d:Md}{ao:AOp}{v:V}{h':List Q0}{call:Nat->List V->Option V}{t:TypeId}{x y:Operand}(aj:o.op= .store t x y)
 (hc:jm P kf d o.op=some ao) (he:fa call Z ao=some (v,h')):nU P M0 base Z w J v h' (execOp a.eval o):=by
 rw[aj]at hc;simp only[jm]at hc;split at hc;rename_i n x' y' hn hx hy;cases hc;simp only[fa]at he;split at he;rename_i br ad;cases he;have rx:=cR s hx;have ry:=cR s hy;simp only[dK]at ad;split at ad;rename_i hlen;split at ad;rename_i ob i j bg;rw[bg]at rx;obtain⟨r0,obj,aw,aP,bb⟩:=rx;split at ad;rename_i cs aF;rw[aF]at aP;cases aP;split at ad;rename_i a2;obtain⟨rfl,hle,aQ⟩:=a2;cases ad;have ay:=ry.cells (V.cF aQ);obtain⟨b,cur,e,ae,a5,al⟩:=s.hr.objs ob _ r0 aF aw;subst e;obtain⟨b',e',hu⟩:=bb;cases e';simp only[Q0.z,Nat.zero_mul,ZK]at hu;have a6:(a.eval y).cells.size=n:=by rw[<-hlen,ay.1];simp
 have aS:cs.length=cur.size:=by rw[al.1];simp
 have ab:=tz (P:=P) hn a5 a6 (by omega) ay.cV (o:=j);obtain⟨cur',af,an,az⟩:=gY b (a.eval y).cells.toList j w cur a5 (by simp[a6];omega);obtain⟨g1,g2⟩:=s.hr.c6 (w':=w.setCells b j (a.eval y).cells.toList) (ob':= .box (putAt cs j (y'.ev Z).cells)) aF aw rfl trivial (gF b _ j w).symm
  (fun k hk=>gE b _ j w k (fun e=>hk (by rw[e])))
  (fun k c e hr=>by cases e;rw[hr.inj a5];exact⟨cur',af,an⟩)
  (fun c=>⟨b,cur',rfl,ae,af,by rw[AL _ _ _ (by omega)];simp only[Yo,an];exact aS,fun k l u hl ag=>by
   rw[AK _ _ _ (by omega)]at hl
   rw[Array.getElem?_toList,az]at ag
   simp only[Yo,a6]at ag
   rw[hlen]at hl
   split at hl
   ·rename_i aG
    rw[if_pos aG]at ag
    exact(ay.2 _ l u hl ag).ch c
   ·rename_i aG
    rw[if_neg aG]at ag
    exact(al.2 _ l u hl (by simpa using ag)).ch c⟩)
 refine⟨.skip,undef,_,J,?_, .inr ⟨rfl,rfl⟩,fH b base ae _ j w w (Below.refl _ _),g1,g2,VR.undef⟩;simp only[execOp,aj,hu];simp[ab];cases ad;rename_i z es aF;rw[aF]at aP;cases aP;split at ad;rename_i e ps hei aq;split at ad;rename_i a2;obtain⟨hle,bh⟩:=a2;cases ad;have bj:∀xs,y'.ev Z≠ .b8 xs:=by intro xs e';rw[e']at aq;simp[V.cells,viewL,L.view]at aq
 have ay:=ry.cells bj;obtain⟨k1,c1⟩:=s.hr.freezeLs (y'.ev Z).cells;have aJ:(freezeLs Z.h (y'.ev Z).cells)[ob]? =some (.arr z es):=LM _ _ bh aF;have aT:xc (Mu M0 J (freezeLs Z.h (y'.ev Z).cells)) w J (freezeLs Z.h (y'.ev Z).cells) (y'.ev Z).cells (a.eval y).cells.toList:=ay.ch c1;obtain⟨aQ,aU⟩:=yd k1 aT aq (fun l _=>lw _ l) (fun l hl=>la _ l (.inr hl));obtain⟨hz,ak,kx⟩:=k1.objs ob _ r0 aJ aw;obtain⟨b',e',hu⟩:=bb;subst e';simp only[Q0.z]at hu;obtain⟨ae,cur,cap,a5,h1,h2,h3,h4⟩:=kx;have a6:(a.eval y).cells.size=n:=by rw[<-hlen,ay.1];simp
 have bk:ps.length=n:=by rw[aQ];simpa using a6
 have bl:e.length=z:=ak e (Zn hei);have aV:i<es.length:=(Zb.1 hei).1;have aK:i*z+j+n<=cur.size:=by
  rw[h1];calc i*z+j+n<=i*z+z:=by omega
   _=(i+1)*z:=by rw[Nat.add_mul,Yl]
   _<=cap*z:=ZE _ (by omega)
 have ab:=tz (P:=P) hn a5 a6 aK ay.cV;obtain⟨cur',af,an,az⟩:=gY b' (a.eval y).cells.toList (i*z+j) w cur a5 (by simp only[Yo,a6];exact aK);obtain⟨g1,g2⟩:=k1.c6 (w':=w.setCells b' (i*z+j) (a.eval y).cells.toList) (ob':= .arr z (es.set i (putAt e j ps))) aJ aw rfl ⟨rfl,by simp⟩ (gF b' _ _ w).symm
  (fun k hk=>gE b' _ _ w k (fun e=>hk (by rw[e])))
  (fun k c e hr=>by cases e;rw[hr.inj a5];exact⟨cur',af,an⟩)
  (fun c=>by
   refine⟨hz,fun e1 he1=> ?_,ae,cur',cap,af,by rw[an];exact h1,by simpa using h2,h3,fun i1 e1 j1 p1 hi1 aH=> ?_⟩
   ·rcases ZF he1 with hm|rfl
    ·exact ak e1 hm
    ·rw[AL _ _ _ (by omega)];exact bl
   ·rw[az]
    simp only[Yo,a6]
    by_cases aW:i=i1
    ·subst aW
     rw[Zd aV]at hi1
     cases hi1
     rw[AK _ _ _ (by omega),bk]at aH
     split at aH
     ·rename_i aG
      obtain⟨u,aA,aB⟩:=aU _ _ aH
      exact⟨u,by rw[if_pos (by omega),show i*z+j1-(i*z+j)=j1-j by omega];exact aA,cG.go c.go p1 u aB⟩
     ·rename_i aG
      obtain⟨u,aA,aB⟩:=h4 i e j1 p1 hei aH
      exact⟨u,by rw[if_neg (by omega)];exact aA,cG.go c.go p1 u aB⟩
    ·rw[Za aW]at hi1
     obtain⟨u,aA,aB⟩:=h4 i1 e1 j1 p1 hi1 aH
     have aX:j1<z:=by rw[<-ak e1 (Zn hi1)];exact(Zb.1 aH).1
     refine⟨u,?_,cG.go c.go p1 u aB⟩
     rw[if_neg]
     ·exact aA
     ·intro aG
      have:∃q,q<z/\ i1*z+j1=i*z+q:=⟨i1*z+j1-i*z,by omega,by omega⟩
      obtain⟨q,hq,e2⟩:=this
      exact aW (zy aX hq e2).1.symm)
 refine⟨.skip,undef,_,J,?_, .inr ⟨rfl,rfl⟩,fH b' base ae _ _ w w (Below.refl _ _),g1,c1.trans g2,VR.undef⟩;simp only[execOp,aj,hu];simp[ab];cases ad;cases ad;cases ad;cases ad;cases ad;cases he;cases hc
end
end Gi
namespace Gi
open Go Go.RowKit
variable {KI:KF}
section
variable {Γ:Ctx}{P:Program}{M0:Nat->Prop}{base:Nat}{Z:St}{a:Act}{w:World}{J:List (Option Nat)}
def mA {h:List Q0}:∀{vs:List V}{es:List (List PV)},cQ h vs=some es->es.length=vs.length/\ ∀(i:Nat)v,vs[i]? =some v->∃e,es[i]? =some e/\ viewL h v.cells=some e
 |[],es,e=>by simp[cQ]at e;subst e;exact⟨rfl,fun i l hl=>by simp at hl⟩
 |v::vs,es,e=>by
  unfold cQ at e;split at e;rename_i p aY h1 h2;cases e;obtain⟨h3,h4⟩:=mA h2;refine⟨by simp[h3],fun i l' hl=> ?_⟩;cases i with
  |zero=>simp at hl;subst hl;exact⟨p,rfl,h1⟩
  |succ i=>simpa using h4 i l' (by simpa using hl)
  cases e
def yb {z:Nat}:∀(us:List Value)(k:Nat)(cells:Array Value),(∀u∈us,u.cells.size=z)->(k+us.length)*z<=cells.size->
 ∃a1,Instr.fill (fun i=>some (i*z,z)) cells ((us.zipIdx k).map fun x=>(x.2,x.1))=some a1/\ a1.size=cells.size/\
  (∀i j u,us[i]? =some u->j<z->a1[(k+i)*z+j]? =u.cells[j]?)/\ (∀p,p<k*z->a1[p]? =cells[p]?)
 |[],k,cells,_,_=>⟨cells,rfl,rfl,fun i j u hu=>by simp at hu,fun p _=>rfl⟩
 |u::us,k,cells,hu,hl=>by
  simp only[Zo]at hl;have a6:u.cells.size=z:=hu u (by simp);have bs:k*z+z<=cells.size:=by
   refine Zc ?_ hl;calc k*z+z=(k+1)*z:=by rw[Nat.add_mul,Yl]
    _<=(k+(us.length+1))*z:=ZE _ (by omega)
  have a2:¬(u.cells.size≠z||decide (k*z+u.cells.size>cells.size))=true:=by simp[a6];omega
  have aL:u.cells.zipIdx.foldl (fun cs(x:Value×Nat)=>cs.setIfInBounds (k*z+x.2) x.1) cells=(u.cells.toList.zipIdx 0).foldl (fun cs(x:Value×Nat)=>cs.setIfInBounds (k*z+x.2) x.1) cells:=by rw[<-Array.foldl_toList];simp
  obtain⟨a1,h1,h2,h3,h4⟩:=yb us (k+1) ((u.cells.toList.zipIdx 0).foldl (fun cs(x:Value×Nat)=>cs.setIfInBounds (k*z+x.2) x.1) cells)
   (fun u' ag=>hu u' (by simp[ag])) (by rw[FX];rwa[show k+1+us.length=k+(us.length+1) by omega])
  refine⟨a1,?_,by rw[h2,FX],fun i j u' ag hj=> ?_,fun p hp=> ?_⟩;simp only[Xa,Zt,Instr.fill];rw[if_neg a2];rw[aL];exact h1;cases i with
  |zero=>simp at ag;subst ag;rw[Yx,h4 _ (by rw[Nat.add_mul,Yl];omega),Km _ _ 0 cells (by simp[a6];omega)];rw[if_pos (by simp[a6];omega)];simp
  |succ i=>have:=h3 i j u' (by simpa using ag) hj;rwa[show k+1+i=k+(i+1) by omega]at this
  rw[h4 p (by rw[Nat.add_mul,Yl];omega),Km _ _ 0 cells (by simp[a6];omega),if_neg (by omega)]
def Nk (s:SR Γ M0 base Z a w J){o:Oper}{d:Md}{ao:AOp}{v:V}{h':List Q0}{call:Nat->List V->Option V}{t:TypeId}{n:Nat}{parts:Array (Nat×Operand)}(aj:o.op= .buildSlice t n parts)
 (hc:jm P kf d o.op=some ao) (he:fa call Z ao=some (v,h')):nU P M0 base Z w J v h' (execOp a.eval o):=by
 rw[aj]at hc;simp only[jm]at hc;split at hc
 ·rename_i e ps ht aq;split at hc
  ·rename_i z v0 a6 hz;split at hc
   ·rename_i a2;simp only[Zg,beq_iff_eq]at a2;obtain⟨a8,bm⟩:=a2;cases hc;by_cases q:(d.st&&(ps.isEmpty|| !d.dp))=true;rw[if_pos q]at he;cases he;rw[if_neg q]at he;simp only[fa]at he;split at he
    ·rename_i av;simp only[Zg,decide_eq_true_eq,Zu,beq_iff_eq,ZV,forall_exists_index,and_imp,forall_apply_eq_imp_iff₂,Zr]at av;obtain⟨⟨a7,aZ⟩,aR⟩:=av;split at he
     ·rename_i es ak;cases he;obtain⟨i,hi,b0,bn⟩:∃i,P.info? e=some i/\ i.zero=some v0/\ i.size=z:=by
       unfold si at hz;unfold vX at a6;cases hi:P.info? e with
       |none=>simp[hi]at hz
       |some i=>simp[hi]at hz a6;exact⟨i,rfl,hz,a6⟩
      have hu:P.underlying t=some (.slice e):=by unfold lR at ht;split at ht<;>cases ht;assumption
      have aa:ps.length=n:=by rw[iH aq];have:=congrArg List.length a8;simpa using this
      have ah:(parts.map fun x=>(x.1,a.eval x.2)).toList=((parts.toList.map fun x=>a.eval x.2).zipIdx 0).map fun x=>(x.2,x.1):=by
       apply YL;intro k;simp only[ZZ,Zp,Qw,ZK];have hk:(parts.toList.map (·.1))[k]? =(List.range n)[k]? :=by rw[a8]
       simp only[Zp]at hk;cases hq:parts.toList[k]? with
       |none=>simp
       |some q=>simp only[hq,Qe]at hk⊢;obtain⟨h1,h2⟩:=Zb.1 hk.symm;simp at h2;simp[<-h2]
      have ar:∀(k:Nat)q,(parts.toList.map fun x=>a.eval x.2)[k]? =some q->∃y,ps[k]? =some y/\ VR (Mu M0 J Z.h) w J Z.h (y.ev Z) q/\ xc (Mu M0 J Z.h) w J Z.h (y.ev Z).cells q.cells.toList:=by intro k q hq;simp only[Zp,Zl]at hq;obtain⟨q0,b1,rfl⟩:=hq;obtain⟨y,hy,b2⟩:=lf aq k q0 b1;have r:=cR s b2;obtain⟨e1,_,he1⟩:=(mA ak).2 k (y.ev Z) (by simp[hy]);refine⟨y,hy,r,r.cells ?_⟩;intro xs b3;rw[b3]at he1;simp[V.cells,viewL,L.view]at he1
      have ai:∀u∈(parts.toList.map fun x=>a.eval x.2),u.cells.size=z:=by intro u ag;obtain⟨k,hk,rfl⟩:=Yi ag;obtain⟨y,hy,_,hl⟩:=ar k _ (Zj hk);have:=a7 y (Zn hy);rw[<-this,hl.1];simp
      have ax:(parts.toList.map fun x=>a.eval x.2).length=n:=by rw[Zr,<-iH aq,aa]
      obtain⟨a1,au,bd,b4,_⟩:=yb (z:=z) (parts.toList.map fun x=>a.eval x.2) 0 ((Array.range (n*z)).map (v0.cells[· %v0.cells.size]!)) ai (by rw[ax];simp);rw[<-ah,ZZ]at au;have aC:¬n*z>2^24:=by rw[aa]at aR;omega
      have ab:(Instr.buildSlice t n (parts.map fun x=>(x.1,a.eval x.2))).run P w= .ok (.slice (some ⟨w.heap.size,0,none⟩) n n) (w.alloc (.cells a1 e)):=by
       simp only[Instr.buildSlice,Sem.run_bind,run_underlying hu,Result.andThen_ok,qy e a6];rw[if_neg aC];by_cases aD:n*z=0;have aw:Array.range (n*z)= #[]:=by rw[aD];rfl
       rw[aw]at au;simp only[aD,if_true,Sem.run_bind,Sem.run_pure,Result.andThen_ok];have b5:Array.range 0= #[]:=rfl;simp only[b5,Array.map_empty]at au⊢;simp[au,newRow];simp only[aD,if_false];have b6:(zeroValue e).run P w= .ok v0 w:=by simp[zeroValue,typeInfo,hi,b0]
       simp[b6,au,newRow]
      obtain⟨k1,c1⟩:=s.hr.freezeVs (ps.map (Opd.ev Z));have aE:es.length=n:=by rw[(mA ak).1];simpa using aa
      have a5:∀(i:Nat)(e1:List PV),es[i]? =some e1->∃y q,ps[i]? =some y/\ (parts.toList.map fun x=>a.eval x.2)[i]? =some q/\ viewL Z.h (y.ev Z).cells=some e1/\ xc (Mu M0 J Z.h) w J Z.h (y.ev Z).cells q.cells.toList:=by
       intro i e1 he1;have aI:i<n:=by rw[<-aE];exact(Zb.1 he1).1
       have hq:(parts.toList.map fun x=>a.eval x.2)[i]? =some ((parts.toList.map fun x=>a.eval x.2)[i]'(by rw[ax];exact aI)):=by simp[aI,ax]
       obtain⟨y,hy,_,hl⟩:=ar i _ hq;obtain⟨e2,aM,aN⟩:=(mA ak).2 i (y.ev Z) (by simp[hy]);rw[he1]at aM;cases aM;exact⟨y,_,hy,hq,aN,hl⟩
      obtain⟨J',g1,g2,g3⟩:=abx (h:=freezeVs Z.h (ps.map (Opd.ev Z))) k1 (w':=w.alloc (.cells a1 e)) (by simp) (fun b hb=>iw w _ b hb) (z:=z) (cap:=n) (es:=es) aZ
       (fun e1 he1=>by
        obtain⟨k,hk,rfl⟩:=Yi he1
        obtain⟨y,q,hy,hq,hv,hl⟩:=a5 k _ (Zj hk)
        rw[(rn hv).1]
        exact a7 y (Zn hy)) (jb.new w a1 e) (by rw[bd];simp) (by omega)
       (by
        have:n<=n*z:=Ql n aZ
        simp only[maxLen];omega)
       (fun i e1 j p he1 hp=>by
        obtain⟨y,q,hy,hq,hv,hl⟩:=a5 i e1 he1
        obtain⟨aQ,aU⟩:=yd k1 (hl.ch c1) hv (fun l _=>m4 _ l) (fun l bo=>oI _ l (.inr ⟨_,ZV.2 ⟨y,Zn hy,rfl⟩,bo⟩))
        obtain⟨u,aA,aB⟩:=aU j p hp
        have hj:j<z:=by have h1:=(Zb.1 hp).1;rw[(rn hv).1,a7 y (Zn hy)]at h1;exact h1
        refine⟨u,?_,aB⟩
        have:=b4 i j q hq hj
        rw[ZK]at this
        rw[this]
        simpa using aA)
      refine⟨.value (.slice (some ⟨w.heap.size,0,none⟩) n n), .slice (some ⟨w.heap.size,0,none⟩) n n,_,J',?_, .inl rfl,(Below.refl _ _).alloc s.hr.le _,g1,c1.trans g2,?_⟩
      ·simp only[execOp,aj];have:(parts.map fun(x:Nat×Operand)=>match x with|(i,x)=>(i,a.eval x))=parts.map fun x=>(x.1,a.eval x.2):=rfl;simp only[Sem.run_bind];first|rw[ab]|(rw[this,ab])
       simp
      rw[aE]at g3;exact g3
     cases he
    cases he
   cases hc
  cases hc
 cases hc
def Iy :∀{ls:List L}{ps:List PV},ej ls=some ps->ls=ps.map .pv
 |[],ps,e=>by simp only[ej]at e;cases e;rfl
 |l::ls,ps,e=>by
  cases l with
  |pv p=>simp only[ej]at e;split at e;rename_i qs h1;cases e;rw[Iy h1];rfl;cases e
  |_=>cases e
def zR :∀{vs:List V}{es:List (List PV)},fE vs=some es->es.length=vs.length/\ ∀(i:Nat)v,vs[i]? =some v->∃e,es[i]? =some e/\ v.cells=e.map .pv
 |[],es,e=>by simp only[fE]at e;cases e;exact⟨rfl,fun i l hl=>by simp at hl⟩
 |v::vs,es,e=>by
  simp only[fE]at e;split at e;rename_i p aY h1 h2;cases e;obtain⟨h3,h4⟩:=zR h2;refine⟨by simp[h3],fun i l' hl=> ?_⟩;cases i with
  |zero=>simp at hl;subst hl;exact⟨p,rfl,Iy h1⟩
  |succ i=>simpa using h4 i l' (by simpa using hl)
  cases e
def Nj (s:SR Γ M0 base Z a w J){o:Oper}{d:Md}{z:Nat}{ps:List Opd}{v:V}{call:Nat->List V->Option V}
 (hc:jm P kf d o.op=some (.bc z ps)) (he:dY call Z (.bc z ps)=some v):∃u w',(execOp a.eval o).run P w= .ok (.value u) w'/\ Below w.heap.size w w'/\ VR (Mu M0 J Z.h) w' J Z.h v u:=by
 obtain⟨t,n,parts,aj⟩:∃t n parts,o.op= .buildSlice t n parts:=by
  cases aj:o.op;case buildSlice t n parts=>exact⟨t,n,parts,rfl⟩
  case makeFunc fn first caps=>rw[aj]at hc;cases fn<;>simp only[jm]at hc<;>first|(cases hc;done)|((repeat' (split at hc))<;>cases hc)
  all_goals
   rw[aj]at hc
   simp only[jm]at hc
   first
   |(cases hc;done)
   |(simp only[Zl]at hc;obtain⟨_,_,hc⟩:=hc;cases hc;done)
   |((repeat' (split at hc))<;>cases hc)
 rw[aj]at hc;simp only[jm]at hc;split at hc
 ·rename_i e aY ht aq;split at hc
  ·rename_i z' v0 a6 hz;split at hc
   ·rename_i a2;simp only[Zg,beq_iff_eq]at a2;obtain⟨a8,bm⟩:=a2;by_cases q:(d.st&&(aY.isEmpty|| !d.dp))=true;case neg=>rw[if_neg q]at hc;cases hc
    rw[if_pos q]at hc;cases hc;simp only[dY]at he;split at he
    ·rename_i es ak;split at he
     ·rename_i av;cases he;obtain⟨hlen,aZ,aR⟩:=av;have aO:es.length=ps.length:=by rw[(zR ak).1];simp
      rw[aO]at aR;have a7:∀y∈ps,(y.ev Z).cells.length=z:=by intro y hy;obtain⟨k,hk,rfl⟩:=Yi hy;obtain⟨e1,he1,aS⟩:=(zR ak).2 k (ps[k].ev Z) (by simp[hk]);rw[aS];have:=Zu.1 hlen e1 (Zn he1);simpa using this
      obtain⟨i,hi,b0,bn⟩:∃i,P.info? e=some i/\ i.zero=some v0/\ i.size=z:=by
       unfold si at hz;unfold vX at a6;cases hi:P.info? e with
       |none=>simp[hi]at hz
       |some i=>simp[hi]at hz a6;exact⟨i,rfl,hz,a6⟩
      have hu:P.underlying t=some (.slice e):=by unfold lR at ht;split at ht<;>cases ht;assumption
      have aa:ps.length=n:=by rw[iH aq];have:=congrArg List.length a8;simpa using this
      have ah:(parts.map fun x=>(x.1,a.eval x.2)).toList=((parts.toList.map fun x=>a.eval x.2).zipIdx 0).map fun x=>(x.2,x.1):=by
       apply YL;intro k;simp only[ZZ,Zp,Qw,ZK];have hk:(parts.toList.map (·.1))[k]? =(List.range n)[k]? :=by rw[a8]
       simp only[Zp]at hk;cases hq:parts.toList[k]? with
       |none=>simp
       |some q=>simp only[hq,Qe]at hk⊢;obtain⟨h1,h2⟩:=Zb.1 hk.symm;simp at h2;simp[<-h2]
      have ar:∀(k:Nat)q,(parts.toList.map fun x=>a.eval x.2)[k]? =some q->∃y,ps[k]? =some y/\ VR (Mu M0 J Z.h) w J Z.h (y.ev Z) q/\ xc (Mu M0 J Z.h) w J Z.h (y.ev Z).cells q.cells.toList:=by intro k q hq;simp only[Zp,Zl]at hq;obtain⟨q0,b1,rfl⟩:=hq;obtain⟨y,hy,b2⟩:=lf aq k q0 b1;have r:=cR s b2;obtain⟨e1,_,he1⟩:=(zR ak).2 k (y.ev Z) (by simp[hy]);refine⟨y,hy,r,r.cells ?_⟩;intro xs b3;rw[b3]at he1;cases e1<;>simp[V.cells]at he1
      have ai:∀u∈(parts.toList.map fun x=>a.eval x.2),u.cells.size=z:=by intro u ag;obtain⟨k,hk,rfl⟩:=Yi ag;obtain⟨y,hy,_,hl⟩:=ar k _ (Zj hk);have:=a7 y (Zn hy);rw[<-this,hl.1];simp
      have ax:(parts.toList.map fun x=>a.eval x.2).length=n:=by rw[Zr,<-iH aq,aa]
      obtain⟨a1,au,bd,b4,_⟩:=yb (z:=z) (parts.toList.map fun x=>a.eval x.2) 0 ((Array.range (n*z)).map (v0.cells[· %v0.cells.size]!)) ai (by rw[ax];simp);rw[<-ah,ZZ]at au;have aC:¬n*z>2^24:=by rw[aa]at aR;omega
      have ab:(Instr.buildSlice t n (parts.map fun x=>(x.1,a.eval x.2))).run P w= .ok (.slice (some ⟨w.heap.size,0,none⟩) n n) (w.alloc (.cells a1 e)):=by
       simp only[Instr.buildSlice,Sem.run_bind,run_underlying hu,Result.andThen_ok,qy e a6];rw[if_neg aC];by_cases aD:n*z=0;have aw:Array.range (n*z)= #[]:=by rw[aD];rfl
       rw[aw]at au;simp only[aD,if_true,Sem.run_bind,Sem.run_pure,Result.andThen_ok];have b5:Array.range 0= #[]:=rfl;simp only[b5,Array.map_empty]at au⊢;simp[au,newRow];simp only[aD,if_false];have b6:(zeroValue e).run P w= .ok v0 w:=by simp[zeroValue,typeInfo,hi,b0]
       simp[b6,au,newRow]
      have aE:es.length=n:=by rw[aO,aa]
      obtain⟨k1,c1⟩:=s.hr.world (w':=w.alloc (.cells a1 e)) (by simp) (fun b hb=>iw w _ b hb);refine⟨.slice (some ⟨w.heap.size,0,none⟩) n n,w.alloc (.cells a1 e),?_,(Below.refl _ _).alloc (Zi _) _,?_⟩
      ·simp only[execOp,aj];have:(parts.map fun(x:Nat×Operand)=>match x with|(i,x)=>(i,a.eval x))=parts.map fun x=>(x.1,a.eval x.2):=rfl;simp only[Sem.run_bind];first|rw[ab]|(rw[this,ab])
       simp
      cases es with
      |nil=>
       obtain rfl:n=0:=by simpa using aE.symm
       exact⟨_,rfl⟩
      |cons e0 bp=>
      show cG _ _ (.lst (e0::bp)) _;simp only[cG];refine .inr ⟨w.heap.size,0,n,z,by rw[aE],fun hm=> ?_,by simp,fX.of fun i e1 he1=> ?_,by rw[aE];exact Zi _⟩;rcases hm with hm|⟨oo,ob,ho,b7,hr⟩;have:=s.hr.old _ hm;have:=s.hr.le;omega;have:=(s.hr.objs oo ob _ ho hr).lt (Q0.bF b7);omega;have aI:i<n:=by rw[<-aE];exact(Zb.1 he1).1
      have hq:(parts.toList.map fun x=>a.eval x.2)[i]? =some ((parts.toList.map fun x=>a.eval x.2)[i]'(by rw[ax];exact aI)):=by simp[aI,ax]
      obtain⟨y,hy,_,hl⟩:=ar i _ hq;obtain⟨e2,aM,aN⟩:=(zR ak).2 i (y.ev Z) (by simp[hy]);rw[he1]at aM;cases aM;have b9:e1.length=z:=by have:=a7 y (Zn hy);rw[aN]at this;simpa using this
      refine⟨b9,gT.of fun j p hp=> ?_⟩;have hj:j<z:=by rw[<-b9];exact(Zb.1 hp).1
      have ba:j<((parts.toList.map fun x=>a.eval x.2)[i]'(by rw[ax];exact aI)).cells.toList.length:=by rw[<-hl.1,aN];simpa[b9]using hj
      have bq:=hl.2 j (.pv p) _ (by rw[aN];simp[hp]) (Zj ba);refine⟨_,?_,cG.go c1.go p _ bq⟩;rw[(jb.new w a1 e).cell];have:=b4 i j _ hq hj;rw[ZK]at this⊢;rw[this];simp at ba;simp[ba]
     cases he
    cases he
   cases hc
  cases hc
 cases hc
end
end Gi
