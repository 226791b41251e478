/- Of this proof. -/
import Derived.Test.YtpnolnkjijmfjaaGreatGil
import Derived.Laws.IdiomStrings
set_option linter.all false
namespace Gi
open Go Go.RowKit
variable {KI:KF}
section
variable {Γ:Ctx}{P:Program}{M0:Nat->Prop}{base:Nat}{Z:St}{a:Act}{w:World}{J:List (Option Nat)}
def fX.sub {M:Nat->Prop}{z:Nat}{es:List (List PV)}{b o l n:Nat}(r:fX M w z es b o):fX M w z ((es.drop l).take n) b (o+l*z):=
 fX.of fun i e he=>by rw[ZL]at he;split at he;rw[YO]at he;have:=fX.at r he;rwa[show o+l*z+i*z=o+(l+i)*z by rw[Nat.add_mul];omega];cases he
def Kp (s:SR Γ M0 base Z a w J){o:Oper}{d:Md}{ao:AOp}{v:V}{h':List Q0}{call:Nat->List V->Option V}{t:TypeId}{x:Operand}{lo hi mx:Option Operand}(a1:o.op= .slice t x lo hi mx)
 (hc:jm P kf d o.op=some ao) (he:fa call Z ao=some (v,h')):nU P M0 base Z w J v h' (execOp a.eval o):=by
 rw[a1]at hc;simp only[jm]at hc;split at hc;rename_i e y al an hu hx aO aP;split at hc;rename_i z hz;split at hc;cases hc;rename_i aG;cases hc;by_cases q:d.st=true;rw[if_pos q]at he;cases he;rw[if_neg q]at he;simp only[fa]at he;split at he;rename_i es aj;have aH:∀{o:Option Operand}{os:List Opd}{n:Int}(ag:Int),j5 kw o.toList=some os->
  eH Z ag os.head? =some n->(o=none/\ n=ag) \/∃oo k,o=some oo/\ a.eval oo= .int k n:=by
  intro o os n ag ho hn;cases o with
  |none=>simp[j5]at ho;subst ho;simp[eH]at hn;exact .inl ⟨rfl,hn.symm⟩
  |some oo=>simp only[Option.toList,j5]at ho;split at ho;rename_i y' b9 h1 h2;cases h2;cases ho;simp only[List.head?_cons,eH]at hn;split at hn;rename_i k n' heq;cases hn;exact .inr ⟨oo,k,rfl,(cR s h1).int heq⟩;cases hn;cases ho
 split at he;rename_i l r hl hr;split at he;rename_i hb;obtain⟨h0,h1,h2,aq⟩:=hb;cases he;have hL:=aH 0 aO hl;have hR:=aH (es.length:Int) aP hr;obtain⟨k1,c1⟩:=s.hr.freezeLs (y.ev Z).cells;have rx:=cR s hx;have a8:cG (Mu M0 J (freezeLs Z.h (y.ev Z).cells)) w (.lst es) (a.eval x):=by unfold asList at aj;split at aj;rename_i l' aI;split at aj;rename_i es' aQ;cases aj;rw[aI]at rx;have aR:LR (Mu M0 J Z.h) w J Z.h l' (a.eval x):=rx;refine ro k1 (aR.ch c1) (by rw[lw];exact aQ) (la _ _ (.inr ?_));rw[aI];simp[V.cells];cases aj;cases aj
 obtain⟨ad,cc,ex⟩:=a8.slice;have a7:es.length<=cc:=by rw[ex]at a8;simp only[cG]at a8;rcases a8 with⟨rfl,_⟩|⟨b,o',c',z',e',_,_,_,aw⟩;simp;cases e';exact aw
 have e1:(Instr.sliceBounds true es.length cc (lo.map a.eval) (hi.map a.eval) none).run P w= .ok (l.toNat,r.toNat,cc) w:=by simp only[Instr.sliceBounds,Sem.run_bind,Sem.run_pure,Result.andThen_ok,if_true,Option.isSome_none];rcases hR with⟨rfl,rfl⟩|⟨oo,k,rfl,ho⟩;rcases hL with⟨rfl,rfl⟩|⟨oo,k,rfl,ho⟩;simp;simp[ho,Ov k _ h0 (show l<=(es.length:Int) by omega)];rcases hL with⟨rfl,rfl⟩|⟨ba,k',rfl,ho'⟩;simp[ho,Ov k _ (show(0:Int)<=r by omega) (show r<=(cc:Int) by omega)];simp[ho,ho',Ov k _ (show(0:Int)<=r by omega) (show r<=(cc:Int) by omega),Ov k' _ h0 (show l<=(r.toNat:Int) by omega)]
 have a2:(Instr.sliceAt t (a.eval x) (lo.map a.eval) (hi.map a.eval) (Option.map a.eval none)).run P w= .ok (.slice (if cc=l.toNat then ad else ad.map (·.add (l.toNat*z))) (r.toNat-l.toNat) (cc-l.toNat)) w:=by rw[ex];simp only[Instr.sliceAt,Sem.run_bind,run_underlying hu,Result.andThen_ok,Instr.slice,Option.map_none,e1,qy e hz,Sem.run_pure]
 refine⟨.value (.slice (if cc=l.toNat then ad else ad.map (·.add (l.toNat*z))) (r.toNat-l.toNat) (cc-l.toNat)), .slice (if cc=l.toNat then ad else ad.map (·.add (l.toNat*z))) (r.toNat-l.toNat) (cc-l.toNat),w,J,?_, .inl rfl,Below.refl _ _,k1,c1,?_⟩;simp only[execOp,a1,Sem.run_bind,a2,Result.andThen_ok,Sem.run_pure];show cG _ w (.lst ((es.drop l.toNat).take (r.toNat-l.toNat))) _;have hlen:((es.drop l.toNat).take (r.toNat-l.toNat)).length=r.toNat-l.toNat:=by simp;omega
 by_cases aS:l=r;subst aS;simp only[YI,ZM,cG];exact .inl ⟨by trivial,_,_,rfl⟩;have aT:l.toNat<r.toNat:=by omega
 have aU:cc≠l.toNat:=by omega
 rw[ex]at a8;simp only[cG]at a8⊢;rcases a8 with⟨rfl,_⟩|⟨b,o',c',z',e',hm,hlt,aJ,aw⟩;simp at h2;omega;cases e';have aV:z'=z:=by obtain⟨e0,es',rfl⟩:=YP (show es≠[] by rintro rfl;simp at h2;omega);have q1:=(fX.at aJ (i:=0) (e:=e0) rfl).1;simp only[Zq,Zg,beq_iff_eq]at aq;rw[<-q1];exact aq.1
 subst aV;refine .inr ⟨b,o'+l.toNat*z',cc-l.toNat,z',?_,hm,hlt,aJ.sub,by rw[hlen];omega⟩;rw[hlen,if_neg aU];simp[Addr.add_mid];cases he;cases he;cases he;cases hc;cases hc
def TV (s:SR Γ M0 base Z a w J){o:Oper}{d:Md}{z:Nat}{x:Opd}{lo hi:Option Opd}{v:V}{call:Nat->List V->Option V}
 (hc:jm P kf d o.op=some (.c8 z x lo hi)) (he:dY call Z (.c8 z x lo hi)=some v):nU P M0 base Z w J v Z.h (execOp a.eval o):=by
 obtain⟨t,x',al,an,ax,a1,aw⟩:∃t x' al an ax,o.op= .slice t x' al an ax/\ jm P kf ⟨d.draw,d.dt,false,d.sb,d.dp,d.zn,d.zl,d.tr,d.nb⟩ o.op=some (.c2 z x lo hi):=by
  cases a1:o.op;case slice t x' al an ax=>
   refine⟨t,x',al,an,ax,rfl,?_⟩
   rw[a1]at hc
   simp only[jm]at hc⊢
   split at hc
   ·split at hc
    ·split at hc
     ·cases hc
     ·rename_i aG
      by_cases q:d.st=true
      ·rw[if_pos q]at hc
       cases hc
       simp only[if_neg aG,ZA,if_false]
      ·rw[if_neg q]at hc;cases hc
    ·cases hc
   ·cases hc
  case makeFunc fn first caps=>rw[a1]at hc;cases fn<;>simp only[jm]at hc<;>first|(cases hc;done)|((repeat' (split at hc))<;>cases hc)
  all_goals
   rw[a1]at hc
   simp only[jm]at hc
   first
   |(cases hc;done)
   |(simp only[Zl]at hc;obtain⟨_,_,hc⟩:=hc;cases hc;done)
   |((repeat' (split at hc))<;>cases hc)
 refine Kp (call:=call) s a1 aw ?_;simp only[dY]at he;split at he;rename_i es hx;split at he;rename_i l r hl hr;split at he;rename_i hb;cases he;simp only[fa,hx,asList,L.view,hl,hr,if_pos hb];rfl;cases he;cases he;cases he
def PL {h:List Q0}(k:HR M0 base w J h){v:V}{u:Value}{e:List PV}{h1:List Q0}(r:VR (Mu M0 J h) w J h v u)(hc:uj h v=some (e,h1)):
 HR M0 base w J h1/\ Ch (Mu M0 J h) (Mu M0 J h1) w w J J h h1/\ CM (Mu M0 J h1) w e u:=by
 unfold uj at hc;split at hc;rename_i o i j;split at hc;rename_i aW;obtain⟨rfl,rfl⟩:=aW;obtain⟨r0,ob,ay,aa,aK⟩:=r;have ab:∀{h2:List Q0}{ps:List PV}{b:Nat},HR M0 base w J h2->h2[o]? =some (.bM ps)->r0=some b->u= .pointer (some ⟨b,0,none⟩)->CM (Mu M0 J h2) w ps u:=by intro h2 ps b k2 aX ar hu;obtain⟨b',cur,e',hm,a5,hl,a8⟩:=k2.objs o _ r0 aX ay;rw[ar]at e';cases e';refine⟨b,0,hu,hm,a5.lt,gT.of fun j p hp=> ?_⟩;obtain⟨v,hv,hr⟩:=a8 j p hp;exact⟨v,by rw[a5.cell];simpa using hv,hr⟩
 split at hc;rename_i cs a6;rw[a6]at aa;cases aa;split at hc;rename_i ps aY;split at hc;rename_i ah;cases hc;have au:∀l∈cs,L.mut h l=false:=by simpa using ah
 obtain⟨k1,c1⟩:=k.bM a6 (fun us az=>by
  obtain⟨q1,q2⟩:=yd k az aY (fun l _=>rfl) au
  exact⟨q1,q2⟩)
 obtain⟨b,ar,hu⟩:=aK;refine⟨k1,c1,ab k1 (Zd (Zb.1 a6).1) ar ?_⟩;rw[hu];simp[Q0.z];cases hc;cases hc;rename_i ps a6;rw[a6]at aa;cases aa;cases hc;obtain⟨b,ar,hu⟩:=aK;exact⟨k,Ch.refl _ _ _ _,ab k a6 ar (by rw[hu];simp[Q0.z])⟩;cases hc;cases hc;rename_i e' j;split at hc;rename_i hj;subst hj;cases hc;obtain⟨b,o,hu,hm,hlt,hr⟩:=r;exact⟨k,Ch.refl _ _ _ _,b,o,hu,hm,hlt,hr⟩;cases hc;cases hc
def CV :∀{vs:List V}{us:List Value}{h h1:List Q0}{es:List (List PV)},HR M0 base w J h->vs.length=us.length->(∀(i:Nat)(v:V)(u:Value),vs[i]? =some v->us[i]? =some u->VR (Mu M0 J h) w J h v u)->nW h vs=some (es,h1)->
 HR M0 base w J h1/\ Ch (Mu M0 J h) (Mu M0 J h1) w w J J h h1/\ es.length=us.length/\ ∀(i:Nat)(e:List PV)(u:Value),es[i]? =some e->us[i]? =some u->CM (Mu M0 J h1) w e u
 |[],us,h,h1,es,k,hl,_,hc=>by simp[nW]at hc;obtain⟨rfl,rfl⟩:=hc;exact⟨k,Ch.refl _ _ _ _,by simpa using hl,fun i e u he=>by simp at he⟩
 |v::vs,[],h,h1,es,k,hl,_,hc=>by simp at hl
 |v::vs,u::us,h,h1,es,k,hl,hr,hc=>by
  unfold nW at hc;split at hc;rename_i e1 h2 aZ;split at hc;rename_i bb h3 b1;cases hc;obtain⟨k1,c1,r1⟩:=PL k (hr 0 v u rfl rfl) aZ;obtain⟨k2,c2,l2,r2⟩:=CV k1 (by simpa using hl) (fun i v' u' hv hu=>(hr (i+1) v' u' (by simpa using hv) (by simpa using hu)).ch c1) b1;refine⟨k2,c1.trans c2,by simp[l2],fun i e u' he hu=> ?_⟩;cases i with
  |zero=>simp at he hu;subst he;subst hu;exact r1.go c2.go
  |succ i=>exact r2 i e u' (by simpa using he) (by simpa using hu)
  cases hc;cases hc
def TG (s:SR Γ M0 base Z a w J){o:Oper}{d:Md}{ao:AOp}{v:V}{h':List Q0}{call:Nat->List V->Option V}{fn:Fn}{first caps:Array Operand}(a1:o.op= .makeFunc fn first caps)
 (hc:jm P kf d o.op=some ao) (he:fa call Z ao=some (v,h')):nU P M0 base Z w J v h' (execOp a.eval o):=by
 rw[a1]at hc;cases fn with
 |func f=>
  simp only[jm]at hc;split at hc
  ·rename_i k cs hk a6;split at hc
   ·rename_i ai;cases hc;simp only[fa]at he;split at he
    ·rename_i es h1 a7;cases he;have hl:(cs.map (Opd.ev Z)).length=(caps.map a.eval).toList.length:=by simp[iH a6]
     obtain⟨k1,c1,l1,r1⟩:=CV s.hr hl (fun i v u hv hu=>by
      simp only[Zp,Zl,ZZ]at hv hu
      obtain⟨y,hy,rfl⟩:=hv
      obtain⟨x,hx,rfl⟩:=hu
      obtain⟨y',aL,hc⟩:=lf a6 i x hx
      rw[hy]at aL;cases aL
      exact cR s hc) a7
     have b2:first= #[]:=by simpa using ai
     subst b2;refine⟨.value (.func (.func f) #[] (caps.map a.eval)), .func (.func f) #[] (caps.map a.eval),w,J,?_, .inl rfl,Below.refl _ _,k1,c1,f,caps.map a.eval,rfl,hk,by rw[l1];simp,fun i e u he hu=>r1 i e u he (by simpa using hu)⟩;simp[execOp,a1,Instr.makeFunc]
    cases he
   cases hc
  cases hc
 |_=>simp[jm]at hc
def WU (s:SR Γ M0 base Z a w J){o:Oper}{d:Md}{x:Opd}{v:V}{call:Nat->List V->Option V}
 (hc:jm P kf d o.op=some (.cM x)) (he:dY call Z (.cM x)=some v):∃u w',(execOp a.eval o).run P w= .ok (.value u) w'/\ Below w.heap.size w w'/\ VR (Mu M0 J Z.h) w' J Z.h v u:=by
 obtain⟨src,dst,y,e,a1,h1,h2,h3,h4⟩:∃src dst y e,o.op= .convert src dst y/\ P.underlying src=some .string/\ P.underlying dst=some (.slice e)/\ kw y=some x/\ P.underlying e=some (.int .u8):=by
  cases a1:o.op;case convert src dst y=>
   rw[a1]at hc;simp only[jm]at hc
   split at hc
   ·cases hc
   ·split at hc<;>cases hc
   ·rename_i e y' q1 q2 q3
    split at hc
    ·rename_i q4 q5
     cases hc
     exact⟨src,dst,y,e,rfl,q1,q2,q3,q4⟩
    ·cases hc
   ·cases hc
  case makeFunc fn first caps=>rw[a1]at hc;cases fn<;>simp only[jm]at hc<;>first|(cases hc;done)|((repeat' (split at hc))<;>cases hc)
  all_goals
   rw[a1]at hc
   simp only[jm]at hc
   first
   |(cases hc;done)
   |(simp only[Zl]at hc;obtain⟨_,_,hc⟩:=hc;cases hc;done)
   |((repeat' (split at hc))<;>cases hc)
 simp only[dY]at he;split at he;rename_i st b3;cases he;have ex:=(cR s h3).str b3;have a2:=run_bytes_of_string (P:=P) w src dst e ⟨st.toArray⟩ h1 h2 h4;have aA:(⟨st.toArray⟩:ByteArray).size=st.length:=by simp[ByteArray.size]
 rw[aA]at a2;have a7:=grownCap_ge w st.length 0 e;generalize grownCap w st.length 0 e=cap at a2 a7;generalize ak:w.drew.alloc (.cells (bytesRow ⟨st.toArray⟩ cap) e ((bytesRow ⟨st.toArray⟩ cap).size,(bytesRow ⟨st.toArray⟩ cap).size+1))=w' at a2;have hold:∀b,b<w.heap.size->w'.heap[b]? =w.heap[b]? :=fun b hb=>by rw[<-ak];exact iw w.drew _ b hb
 have aM:w'.heap.size=w.heap.size+1:=by rw[<-ak];simp
 have aB:w'.heap[w.heap.size]? =some (.cells (bytesRow ⟨st.toArray⟩ cap) e ((bytesRow ⟨st.toArray⟩ cap).size,(bytesRow ⟨st.toArray⟩ cap).size+1)):=by rw[<-ak];exact heap_alloc_new w.drew _
 refine⟨.slice (some ⟨w.heap.size,0,none⟩) st.length cap,w',?_,⟨by rw[<-ak];rfl,by rw[<-ak];rfl,by rw[<-ak];rfl,by omega,hold⟩,?_⟩;simp only[execOp,a1,ex,Sem.run_bind,a2,Result.andThen_ok,Sem.run_pure];show cG _ w' (.lst (cC st)) _;simp only[cG];have hl:(cC st).length=st.length:=by simp[cC]
 refine .inr ⟨w.heap.size,0,cap,1,by rw[hl],fun hm=> ?_,by omega,fX.of fun i e' aN=> ?_,by rw[hl];exact a7⟩;rcases hm with hm|⟨oo,ob,ho,ah,hr⟩;have:=s.hr.old _ hm;have:=s.hr.le;omega;have:=(s.hr.objs oo ob _ ho hr).lt (Q0.bF ah);omega;simp only[cC,Zp,Zl]at aN;obtain⟨b,hb,rfl⟩:=aN;refine⟨rfl,gT.of fun j p hp=> ?_⟩;cases j with
 |zero=>simp at hp;subst hp;refine⟨.int .u8 b.toNat,?_,by simp[cG]⟩;have hi:i<st.length:=(Zb.1 hb).1;have b4:st[i]=b:=(Zb.1 hb).2;simp only[World.cell?,aB];simp[bytesRow,Array.getElem?_append,hi,b4]
 |succ j=>simp at hp
 cases he
end
end Gi
namespace Gi
open Go Go.RowKit
variable {KI:KF}
section
variable {Γ:Ctx}{P:Program}{M0:Nat->Prop}{base:Nat}{Z:St}{a:Act}{w:World}{J:List (Option Nat)}
def M6 (s:SR Γ M0 base Z a w J){o:Oper}{d:Md}{cs:List L}{t:TypeId}(a1:o.op= .alloc t)
 (hc:jm P kf d o.op=some (.alloc cs)):nU P M0 base Z w J (.one (.tp cs.length)) (Z.h++[.bU cs.length]) (execOp a.eval o):=by
 rw[a1]at hc;simp only[jm]at hc;split at hc;rename_i v0 hz;split at hc;rename_i cs' a6;cases hc;obtain⟨i,hi,aC⟩:∃i,P.info? t=some i/\ i.zero=some v0:=by
  unfold si at hz;cases hi:P.info? t with
  |none=>simp[hi]at hz
  |some i=>simp[hi]at hz;exact⟨i,rfl,hz⟩
 have hl:cs.length=v0.cells.size:=by have:=(uJ (KI:=KI) (M:=Mu M0 J Z.h) (w:=w) (J:=J) (h:=Z.h) a6:xc (Mu M0 J Z.h) w J Z.h cs v0.cells.toList).1;simpa using this
 obtain⟨h1,h2⟩:=s.hr.push (w':=w.alloc (.cells v0.cells t)) (by simp) (fun b hb=>iw w _ b hb) (some w.heap.size) (.bU cs.length) (fun b e=>by cases e;exact Zi _)
  (fun c=>⟨w.heap.size,v0.cells,rfl,s.hr.le,jb.new w v0.cells t,hl.symm⟩)
 refine⟨_, .pointer (some ⟨w.heap.size,0,none⟩),_,_,?_, .inl rfl,(Below.refl _ _).alloc s.hr.le _,h1,h2,Z.h.length,w.heap.size,?_,?_,rfl⟩;simp only[execOp,a1];simp[Instr.alloc,zeroValue,typeInfo,hi,aC,newVar,newRow,run_newObj_alloc];rw[<-s.hr.len];simp;simp;cases hc;cases hc
def OC (s:SR Γ M0 base Z a w J){o:Oper}{d:Md}{t:TypeId}{x y:Operand}{n:Nat}{x' y':Opd}(a1:o.op= .store t x y)
 (hc:jm P kf d o.op=some (.store n x' y')) (b5:x'.ev Z= .one (.tp n)) (hlen:(y'.ev Z).cells.length=n) (aD:(y'.ev Z).cells.all plain=true):nU P M0 base Z w J (.b8 []) Z.h (execOp a.eval o):=by
 rw[a1]at hc;simp only[jm]at hc;split at hc;rename_i n1 x1 y1 hn hx hy;cases hc;have rx:=cR s hx;have ry:=cR s hy;rw[b5]at rx;obtain⟨ob,b,ay,aa,hu⟩:=rx;have az:=ry.cells (V.cF aD);obtain⟨b',cur,e,ae,a5,aE⟩:=s.hr.objs ob _ _ aa ay;cases e;have aA:(a.eval y).cells.size=n:=by rw[<-hlen,az.1];simp
 have a2:=tz (P:=P) hn a5 aA (by omega) az.cV (o:=0);obtain⟨cur',af,av,b6⟩:=gY b (a.eval y).cells.toList 0 w cur a5 (by simp[aA];omega);have hlt:ob<Z.h.length:=(Zb.1 aa).1;have aF:Z.h.set ob (.bU n)=Z.h:=by have:=(Zb.1 aa).2;rw[<-this];exact List.set_getElem_self hlt
 obtain⟨g1,g2⟩:=s.hr.c6 (w':=w.setCells b 0 (a.eval y).cells.toList) (ob':= .bU n) aa ay rfl rfl (gF b _ 0 w).symm
  (fun k hk=>gE b _ 0 w k (fun e=>hk (by rw[e])))
  (fun k c e hr=>by cases e;rw[hr.inj a5];exact⟨cur',af,av⟩)
  (fun c=>⟨b,cur',rfl,ae,af,by rw[av];exact aE⟩)
 rw[aF]at g1 g2;refine⟨.skip,undef,_,J,?_, .inr ⟨rfl,rfl⟩,fH b base ae _ 0 w w (Below.refl _ _),g1,g2,VR.undef⟩;simp only[execOp,a1,hu];simp[a2];cases hc
def M7 (s:SR Γ M0 base Z a w J){o:Oper}{d:Md}{cs:List L}{t:TypeId}(a1:o.op= .alloc t)
 (hc:jm P kf d o.op=some (.alloc cs)):nU P M0 base Z w J (.one (.ptr Z.h.length 0 0)) (Z.h++[.box cs, .res]) (execOp a.eval o):=by obtain⟨n,u,w',J',e1,e2,e3,e4,e5,e6⟩:=Gg (call:=fun _ _=>none) s a1 hc (show fa _ Z (.alloc cs)=some (.one (.ptr Z.h.length 0 0),Z.h++[.box cs])from rfl);obtain⟨g1,g2⟩:=e4.push (w':=w') (Zi _) (fun _ _=>rfl) none .res (fun b e=>by cases e) (fun _=>rfl);rw[List.append_assoc]at g1 g2;exact⟨n,u,w',_,e1,e2,e3,g1,e5.trans g2,e6.ch g2⟩
def HR.cW {w:World}:∀(n:Nat){J:List (Option Nat)}{h:List Q0},HR M0 base w J h->HR M0 base w (J++List.replicate n none) (h++FV n)/\ Ch (Mu M0 J h) (Mu M0 (J++List.replicate n none) (h++FV n)) w w J (J++List.replicate n none) h (h++FV n)
 |0,J,h,k=>by simp only[List.replicate_zero,FV,Zw];exact⟨k,Ch.refl _ _ _ _⟩
 |n+1,J,h,k=>by obtain⟨g1,g2⟩:=k.push (w':=w) (Zi _) (fun _ _=>rfl) none .res (fun b e=>by cases e) (fun _=>rfl);obtain⟨g3,g4⟩:=HR.cW n g1;rw[List.append_assoc,List.append_assoc]at g3 g4;exact⟨g3,g2.trans g4⟩
def S8 (s:SR Γ M0 base Z a w J){o:Oper}{d:Md}{v:V}{h':List Q0}{t:TypeId}{x:Operand}{y:Opd}{n:Nat}(a1:o.op= .box t x)
 (hc:jm P kf d o.op=some (.box y)) (he:fa (fun _ _=>none) Z (.c5 n y)=some (v,h')):nU P M0 base Z w J v h' (execOp a.eval o):=by simp only[fa]at he;split at he;rename_i aD;cases he;obtain⟨m,u,w',J',e1,e2,e3,e4,e5,e6⟩:=Mm (call:=fun _ _=>none) s a1 hc (show fa _ Z (.box y)=some (.one (.ptr Z.h.length 0 0),Z.h++[.box (y.ev Z).cells]) by simp only[fa,if_pos aD]);obtain⟨g1,g2⟩:=e4.cW n;rw[List.append_assoc]at g1 g2;exact⟨m,u,w',_,e1,e2,e3,g1,e5.trans g2,e6.ch g2⟩;cases he
def K7 (s:SR Γ M0 base Z a w J){o:Oper}{d:Md}{cs:List L}{t:TypeId}{i:Nat}(hi:Z.h[i]? =some .res)(a1:o.op= .alloc t)
 (hc:jm P kf d o.op=some (.alloc cs)):nU P M0 base Z w J (.one (.ptr i 0 0)) (Z.h.set i (.box cs)) (execOp a.eval o):=by
 rw[a1]at hc;simp only[jm]at hc;split at hc;rename_i v0 hz;split at hc;rename_i cs' a6;cases hc;obtain⟨ti,b7,aC⟩:∃i,P.info? t=some i/\ i.zero=some v0:=by
  unfold si at hz;cases hi:P.info? t with
  |none=>simp[hi]at hz
  |some i=>simp[hi]at hz;exact⟨i,rfl,hz⟩
 obtain⟨h1,h2⟩:=s.hr.fill (w':=w.alloc (.cells v0.cells t)) hi (by simp) (fun b hb=>iw w _ b hb) (b0:=w.heap.size) (Zi _) (cs:=cs)
  (fun c=>⟨w.heap.size,v0.cells,rfl,s.hr.le,jb.new w v0.cells t,uJ a6⟩)
 have hlt:i<Z.h.length:=(Zb.1 hi).1;refine⟨_, .pointer (some ⟨w.heap.size,0,none⟩),_,_,?_, .inl rfl,(Below.refl _ _).alloc s.hr.le _,h1,h2,some w.heap.size, .box cs,?_,?_,w.heap.size,rfl,by simp[Q0.z]⟩;simp only[execOp,a1];simp[Instr.alloc,zeroValue,typeInfo,b7,aC,newVar,newRow,run_newObj_alloc];rw[Zd (by rw[s.hr.len];exact hlt)];rw[Zd hlt];cases hc;cases hc
end
end Gi
