/- A part. -/
import Derived.Test.YtndiampmpmbfoaaGreatGil
import Derived.Laws.IdiomStrings
set_option linter.all false
namespace Gi
open Go Go.RowKit
variable {KI:KF}
section
variable {Γ:Ctx}{P:Program}{M0:Nat->Prop}{base:Nat}{Z:St}{a:Act}{w:World}{J:List (Option Nat)}
def di.sub {M:Nat->Prop}{z:Nat}{es:List (List PV)}{b o l n:Nat}(r:di M w z es b o):di M w z ((es.drop l).take n) b (o+l*z):=
 di.of fun i e he=>by
  rw[ZP]at he
  split at he
  ·rw[Zc4]at he
   have:=di.at r he
   rwa[show o+l*z+i*z=o+(l+i)*z by rw[Nat.add_mul];omega]
  ·cases he
def Hc (s:SR Γ M0 base Z a w J){o:Oper}{d:Md}{ao:AOp}{v:V}{h':List Y0}{call:Nat->List V->Option V}{t:TypeId}{x:Operand}{lo hi mx:Option Operand}(a1:o.op= .slice t x lo hi mx)
 (hc:fX P kf d o.op=some ao) (he:cz call Z ao=some (v,h')):kO P M0 base Z w J v h' (execOp a.eval o):=by
 rw[a1]at hc;simp only[fX]at hc
 split at hc
 ·rename_i e y an au hu hx aS aT
  split at hc
  ·rename_i z hz
   split at hc
   ·cases hc
   ·rename_i aK
    cases hc
    by_cases q:d.st=true
    ·rw[if_pos q]at he;cases he
    rw[if_neg q]at he
    simp only[cz]at he
    split at he
    ·rename_i es ak
     have aL:∀{o:Option Operand}{os:List Opd}{n:Int}(ah:Int),gP ie o.toList=some os->
      cf Z ah os.head? =some n->(o=none/\ n=ah) \/∃oo k,o=some oo/\ a.eval oo= .int k n:=by
      intro o os n ah ho hn
      cases o with
      |none=>
       simp[gP]at ho;subst ho
       simp[cf]at hn
       exact .inl ⟨rfl,hn.symm⟩
      |some oo=>
       simp only[Option.toList,gP]at ho
       split at ho
       ·rename_i y' bd h1 h2
        cases h2;cases ho
        simp only[List.head?_cons,cf]at hn
        split at hn
        ·rename_i k n' heq
         cases hn
         exact .inr ⟨oo,k,rfl,(aD s h1).int heq⟩
        ·cases hn
       ·cases ho
     split at he
     ·rename_i l r hl hr
      split at he
      ·rename_i hb
       obtain⟨h0,h1,h2,av⟩:=hb
       cases he
       have hL:=aL 0 aS hl
       have hR:=aL (es.length:Int) aT hr
       obtain⟨k1,c1⟩:=s.hr.freezeLs (y.ev Z).cells
       have rx:=aD s hx
       have a8:aq (Mu M0 J (freezeLs Z.h (y.ev Z).cells)) w (.lst es) (a.eval x):=by
        unfold asList at ak
        split at ak
        ·rename_i l' aM
         split at ak
         ·rename_i es' aU
          cases ak
          rw[aM]at rx
          have aV:LR (Mu M0 J Z.h) w J Z.h l' (a.eval x):=rx
          refine ol k1 (aV.ch c1) (by rw[iS];exact aU) (iK _ _ (.inr ?_))
          rw[aM];simp[V.cells]
         ·cases ak
        ·cases ak
       obtain⟨ad,cc,ex⟩:=a8.slice
       have a7:es.length<=cc:=by
        rw[ex]at a8
        simp only[aq]at a8
        rcases a8 with⟨rfl,_⟩|⟨b,o',c',z',e',_,_,_,az⟩
        ·simp
        ·cases e';exact az
       have e1:(Instr.sliceBounds true es.length cc (lo.map a.eval) (hi.map a.eval) none).run P w= .ok (l.toNat,r.toNat,cc) w:=by
        simp only[Instr.sliceBounds,Sem.run_bind,Sem.run_pure,Result.andThen_ok,if_true,Option.isSome_none]
        rcases hR with⟨rfl,rfl⟩|⟨oo,k,rfl,ho⟩
        ·rcases hL with⟨rfl,rfl⟩|⟨oo,k,rfl,ho⟩
         ·simp
         ·simp[ho,KR k _ h0 (show l<=(es.length:Int) by omega)]
        ·rcases hL with⟨rfl,rfl⟩|⟨bf,k',rfl,ho'⟩
         ·simp[ho,KR k _ (show(0:Int)<=r by omega) (show r<=(cc:Int) by omega)]
         ·simp[ho,ho',KR k _ (show(0:Int)<=r by omega) (show r<=(cc:Int) by omega),KR k' _ h0 (show l<=(r.toNat:Int) by omega)]
       have a2:(Instr.sliceAt t (a.eval x) (lo.map a.eval) (hi.map a.eval) (Option.map a.eval none)).run P w= .ok (.slice (if cc=l.toNat then ad else ad.map (·.add (l.toNat*z))) (r.toNat-l.toNat) (cc-l.toNat)) w:=by
        rw[ex]
        simp only[Instr.sliceAt,Sem.run_bind,run_underlying hu,Result.andThen_ok,Instr.slice,Option.map_none,e1,nA e hz,Sem.run_pure]
       refine⟨.value (.slice (if cc=l.toNat then ad else ad.map (·.add (l.toNat*z))) (r.toNat-l.toNat) (cc-l.toNat)), .slice (if cc=l.toNat then ad else ad.map (·.add (l.toNat*z))) (r.toNat-l.toNat) (cc-l.toNat),w,J,?_, .inl rfl,Below.refl _ _,k1,c1,?_⟩
       ·simp only[execOp,a1,Sem.run_bind,a2,Result.andThen_ok,Sem.run_pure]
       ·show aq _ w (.lst ((es.drop l.toNat).take (r.toNat-l.toNat))) _
        have hlen:((es.drop l.toNat).take (r.toNat-l.toNat)).length=r.toNat-l.toNat:=by simp;omega
        by_cases aW:l=r
        ·subst aW
         simp only[Zb6,ZQ,aq]
         exact .inl ⟨by trivial,_,_,rfl⟩
        ·have aX:l.toNat<r.toNat:=by omega
         have aY:cc≠l.toNat:=by omega
         rw[ex]at a8
         simp only[aq]at a8⊢
         rcases a8 with⟨rfl,_⟩|⟨b,o',c',z',e',hm,ab,aN,az⟩
         ·simp at h2;omega
         ·cases e'
          have aZ:z'=z:=by
           obtain⟨e0,es',rfl⟩:=Zc5 (show es≠[] by rintro rfl;simp at h2;omega)
           have q1:=(di.at aN (i:=0) (e:=e0) rfl).1
           simp only[Zq,Zh,beq_iff_eq]at av
           rw[<-q1];exact av.1
          subst aZ
          refine .inr ⟨b,o'+l.toNat*z',cc-l.toNat,z',?_,hm,ab,aN.sub,by rw[hlen];omega⟩
          rw[hlen,if_neg aY]
          simp[Addr.add_mid]
      ·cases he
     ·cases he
    ·cases he
  ·cases hc
 ·cases hc
def O6 (s:SR Γ M0 base Z a w J){o:Oper}{d:Md}{z:Nat}{x:Opd}{lo hi:Option Opd}{v:V}{call:Nat->List V->Option V}
 (hc:fX P kf d o.op=some (.c2 z x lo hi)) (he:bG call Z (.c2 z x lo hi)=some v):kO P M0 base Z w J v Z.h (execOp a.eval o):=by
 obtain⟨t,x',an,au,aA,a1,az⟩:∃t x' an au aA,o.op= .slice t x' an au aA/\ fX P kf ⟨d.draw,d.dt,false,d.sb,d.dp,d.zn,d.zl,d.tr,d.nb⟩ o.op=some (.bw z x lo hi):=by
  cases a1:o.op
  case slice t x' an au aA=>
   refine⟨t,x',an,au,aA,rfl,?_⟩
   rw[a1]at hc
   simp only[fX]at hc⊢
   split at hc
   ·split at hc
    ·split at hc
     ·cases hc
     ·rename_i aK
      by_cases q:d.st=true
      ·rw[if_pos q]at hc
       cases hc
       simp only[if_neg aK,Zy,if_false]
      ·rw[if_neg q]at hc;cases hc
    ·cases hc
   ·cases hc
  case makeFunc fn first caps=>rw[a1]at hc;cases fn<;>simp only[fX]at hc<;>first|(cases hc;done)|((repeat' (split at hc))<;>cases hc)
  all_goals
   rw[a1]at hc
   simp only[fX]at hc
   first
   |(cases hc;done)
   |(simp only[Zj]at hc;obtain⟨_,_,hc⟩:=hc;cases hc;done)
   |((repeat' (split at hc))<;>cases hc)
 refine Hc (call:=call) s a1 az ?_
 simp only[bG]at he
 split at he
 ·rename_i es hx
  split at he
  ·rename_i l r hl hr
   split at he
   ·rename_i hb
    cases he
    simp only[cz,hx,asList,L.view,hl,hr,if_pos hb]
    rfl
   ·cases he
  ·cases he
 ·cases he
def LZ {h:List Y0}(k:HR M0 base w J h){v:V}{u:Value}{e:List PV}{h1:List Y0}(r:VR (Mu M0 J h) w J h v u)(hc:pY h v=some (e,h1)):
 HR M0 base w J h1/\ Ch (Mu M0 J h) (Mu M0 J h1) w w J J h h1/\ ze (Mu M0 J h1) w e u:=by
 unfold pY at hc
 split at hc
 ·rename_i o i j
  split at hc
  ·rename_i b1
   obtain⟨rfl,rfl⟩:=b1
   obtain⟨r0,ob,aB,aa,aO⟩:=r
   have ae:∀{h2:List Y0}{ps:List PV}{b:Nat},HR M0 base w J h2->h2[o]? =some (.bL ps)->r0=some b->u= .pointer (some ⟨b,0,none⟩)->ze (Mu M0 J h2) w ps u:=by
    intro h2 ps b k2 b2 aw hu
    obtain⟨b',cur,e',hm,a5,hl,a8⟩:=k2.objs o _ r0 b2 aB
    rw[aw]at e';cases e'
    refine⟨b,0,hu,hm,a5.lt,ew.of fun j p hp=> ?_⟩
    obtain⟨v,hv,hr⟩:=a8 j p hp
    exact⟨v,by rw[a5.cell];simpa using hv,hr⟩
   split at hc
   ·rename_i cs a6
    rw[a6]at aa;cases aa
    split at hc
    ·rename_i ps b3
     split at hc
     ·rename_i ai
      cases hc
      have ax:∀l∈cs,L.mut h l=false:=by simpa using ai
      obtain⟨k1,c1⟩:=k.bL a6 (fun us aC=>by
       obtain⟨q1,q2⟩:=uo k aC b3 (fun l _=>rfl) ax
       exact⟨q1,q2⟩)
      obtain⟨b,aw,hu⟩:=aO
      refine⟨k1,c1,ae k1 (Zd (Zb.1 a6).1) aw ?_⟩
      rw[hu];simp[Y0.z]
     ·cases hc
    ·cases hc
   ·rename_i ps a6
    rw[a6]at aa;cases aa
    cases hc
    obtain⟨b,aw,hu⟩:=aO
    exact⟨k,Ch.refl _ _ _ _,ae k a6 aw (by rw[hu];simp[Y0.z])⟩
   ·cases hc
  ·cases hc
 ·rename_i e' j
  split at hc
  ·rename_i hj
   subst hj
   cases hc
   obtain⟨b,o,hu,hm,ab,hr⟩:=r
   exact⟨k,Ch.refl _ _ _ _,b,o,hu,hm,ab,hr⟩
  ·cases hc
 ·cases hc
def zq :∀{vs:List V}{us:List Value}{h h1:List Y0}{es:List (List PV)},HR M0 base w J h->vs.length=us.length->(∀(i:Nat)(v:V)(u:Value),vs[i]? =some v->us[i]? =some u->VR (Mu M0 J h) w J h v u)->kQ h vs=some (es,h1)->
 HR M0 base w J h1/\ Ch (Mu M0 J h) (Mu M0 J h1) w w J J h h1/\ es.length=us.length/\ ∀(i:Nat)(e:List PV)(u:Value),es[i]? =some e->us[i]? =some u->ze (Mu M0 J h1) w e u
 |[],us,h,h1,es,k,hl,_,hc=>by
  simp[kQ]at hc
  obtain⟨rfl,rfl⟩:=hc
  exact⟨k,Ch.refl _ _ _ _,by simpa using hl,fun i e u he=>by simp at he⟩
 |v::vs,[],h,h1,es,k,hl,_,hc=>by simp at hl
 |v::vs,u::us,h,h1,es,k,hl,hr,hc=>by
  unfold kQ at hc
  split at hc
  ·rename_i e1 h2 b4
   split at hc
   ·rename_i bg h3 b5
    cases hc
    obtain⟨k1,c1,r1⟩:=LZ k (hr 0 v u rfl rfl) b4
    obtain⟨k2,c2,l2,r2⟩:=zq k1 (by simpa using hl) (fun i v' u' hv hu=>(hr (i+1) v' u' (by simpa using hv) (by simpa using hu)).ch c1) b5
    refine⟨k2,c1.trans c2,by simp[l2],fun i e u' he hu=> ?_⟩
    cases i with
    |zero=>
     simp at he hu;subst he;subst hu
     exact r1.go c2.go
    |succ i=>exact r2 i e u' (by simpa using he) (by simpa using hu)
   ·cases hc
  ·cases hc
def OP (s:SR Γ M0 base Z a w J){o:Oper}{d:Md}{ao:AOp}{v:V}{h':List Y0}{call:Nat->List V->Option V}{fn:Fn}{first caps:Array Operand}(a1:o.op= .makeFunc fn first caps)
 (hc:fX P kf d o.op=some ao) (he:cz call Z ao=some (v,h')):kO P M0 base Z w J v h' (execOp a.eval o):=by
 rw[a1]at hc
 cases fn with
 |func f=>
  simp only[fX]at hc
  split at hc
  ·rename_i k cs hk a6
   split at hc
   ·rename_i aj
    cases hc
    simp only[cz]at he
    split at he
    ·rename_i es h1 a7
     cases he
     have hl:(cs.map (Opd.ev Z)).length=(caps.map a.eval).toList.length:=by simp[fk a6]
     obtain⟨k1,c1,l1,r1⟩:=zq s.hr hl (fun i v u hv hu=>by
      simp only[Zp,Zj,ZZ]at hv hu
      obtain⟨y,hy,rfl⟩:=hv
      obtain⟨x,hx,rfl⟩:=hu
      obtain⟨y',aP,hc⟩:=iN a6 i x hx
      rw[hy]at aP;cases aP
      exact aD s hc) a7
     have b6:first= #[]:=by simpa using aj
     subst b6
     refine⟨.value (.func (.func f) #[] (caps.map a.eval)), .func (.func f) #[] (caps.map a.eval),w,J,?_, .inl rfl,Below.refl _ _,k1,c1,f,caps.map a.eval,rfl,hk,by rw[l1];simp,fun i e u he hu=>r1 i e u he (by simpa using hu)⟩
     simp[execOp,a1,Instr.makeFunc]
    ·cases he
   ·cases hc
  ·cases hc
 |_=>simp[fX]at hc
def R8 (s:SR Γ M0 base Z a w J){o:Oper}{d:Md}{x:Opd}{v:V}{call:Nat->List V->Option V}
 (hc:fX P kf d o.op=some (.cG x)) (he:bG call Z (.cG x)=some v):∃u w',(execOp a.eval o).run P w= .ok (.value u) w'/\ Below w.heap.size w w'/\ VR (Mu M0 J Z.h) w' J Z.h v u:=by
 obtain⟨src,dst,y,e,a1,h1,h2,h3,h4⟩:∃src dst y e,o.op= .convert src dst y/\ P.underlying src=some .string/\ P.underlying dst=some (.slice e)/\ ie y=some x/\ P.underlying e=some (.int .u8):=by
  cases a1:o.op
  case convert src dst y=>
   rw[a1]at hc;simp only[fX]at hc
   split at hc
   ·cases hc
   ·split at hc<;>cases hc
   ·rename_i e y' q1 q2 q3
    split at hc
    ·rename_i q4 q5
     cases hc
     exact⟨src,dst,y,e,rfl,q1,q2,q3,q4⟩
    ·cases hc
   ·cases hc
  case makeFunc fn first caps=>rw[a1]at hc;cases fn<;>simp only[fX]at hc<;>first|(cases hc;done)|((repeat' (split at hc))<;>cases hc)
  all_goals
   rw[a1]at hc
   simp only[fX]at hc
   first
   |(cases hc;done)
   |(simp only[Zj]at hc;obtain⟨_,_,hc⟩:=hc;cases hc;done)
   |((repeat' (split at hc))<;>cases hc)
 simp only[bG]at he
 split at he
 ·rename_i st b7
  cases he
  have ex:=(aD s h3).str b7
  have a2:=run_bytes_of_string (P:=P) w src dst e ⟨st.toArray⟩ h1 h2 h4
  have aE:(⟨st.toArray⟩:ByteArray).size=st.length:=by simp[ByteArray.size]
  rw[aE]at a2
  have a7:=grownCap_ge w st.length 0 e
  generalize grownCap w st.length 0 e=cap at a2 a7
  generalize al:w.drew.alloc (.cells (bytesRow ⟨st.toArray⟩ cap) e ((bytesRow ⟨st.toArray⟩ cap).size,(bytesRow ⟨st.toArray⟩ cap).size+1))=w' at a2
  have hold:∀b,b<w.heap.size->w'.heap[b]? =w.heap[b]? :=fun b hb=>by rw[<-al];exact fb w.drew _ b hb
  have aQ:w'.heap.size=w.heap.size+1:=by rw[<-al];simp
  have aF:w'.heap[w.heap.size]? =some (.cells (bytesRow ⟨st.toArray⟩ cap) e ((bytesRow ⟨st.toArray⟩ cap).size,(bytesRow ⟨st.toArray⟩ cap).size+1)):=by
   rw[<-al];exact heap_alloc_new w.drew _
  refine⟨.slice (some ⟨w.heap.size,0,none⟩) st.length cap,w',?_,⟨by rw[<-al];rfl,by rw[<-al];rfl,by rw[<-al];rfl,by omega,hold⟩,?_⟩
  ·simp only[execOp,a1,ex,Sem.run_bind,a2,Result.andThen_ok,Sem.run_pure]
  ·show aq _ w' (.lst (ar st)) _
   simp only[aq]
   have hl:(ar st).length=st.length:=by simp[ar]
   refine .inr ⟨w.heap.size,0,cap,1,by rw[hl],fun hm=> ?_,by omega,di.of fun i e' aR=> ?_,by rw[hl];exact a7⟩
   ·rcases hm with hm|⟨oo,ob,ho,ai,hr⟩
    ·have:=s.hr.old _ hm;have:=s.hr.le;omega
    ·have:=(s.hr.objs oo ob _ ho hr).lt (Y0.bE ai)
     omega
   ·simp only[ar,Zp,Zj]at aR
    obtain⟨b,hb,rfl⟩:=aR
    refine⟨rfl,ew.of fun j p hp=> ?_⟩
    cases j with
    |zero=>
     simp at hp;subst hp
     refine⟨.int .u8 b.toNat,?_,by simp[aq]⟩
     have hi:i<st.length:=(Zb.1 hb).1
     have b8:st[i]=b:=(Zb.1 hb).2
     simp only[World.cell?,aF]
     simp[bytesRow,Array.getElem?_append,hi,b8]
    |succ j=>simp at hp
 ·cases he
end
end Gi
namespace Gi
open Go Go.RowKit
variable {KI:KF}
section
variable {Γ:Ctx}{P:Program}{M0:Nat->Prop}{base:Nat}{Z:St}{a:Act}{w:World}{J:List (Option Nat)}
def JE (s:SR Γ M0 base Z a w J){o:Oper}{d:Md}{cs:List L}{t:TypeId}(a1:o.op= .alloc t)
 (hc:fX P kf d o.op=some (.alloc cs)):kO P M0 base Z w J (.one (.tp cs.length)) (Z.h++[.bT cs.length]) (execOp a.eval o):=by
 rw[a1]at hc;simp only[fX]at hc
 split at hc
 ·rename_i v0 hz
  split at hc
  ·rename_i cs' a6
   cases hc
   obtain⟨i,hi,aG⟩:∃i,P.info? t=some i/\ i.zero=some v0:=by
    unfold oA at hz
    cases hi:P.info? t with
    |none=>simp[hi]at hz
    |some i=>simp[hi]at hz;exact⟨i,rfl,hz⟩
   have hl:cs.length=v0.cells.size:=by
    have:=(qn (KI:=KI) (M:=Mu M0 J Z.h) (w:=w) (J:=J) (h:=Z.h) a6:tg (Mu M0 J Z.h) w J Z.h cs v0.cells.toList).1
    simpa using this
   obtain⟨h1,h2⟩:=s.hr.push (w':=w.alloc (.cells v0.cells t)) (by simp) (fun b hb=>fb w _ b hb) (some w.heap.size) (.bT cs.length) (fun b e=>by cases e;exact Zn _)
    (fun c=>⟨w.heap.size,v0.cells,rfl,s.hr.le,fO.new w v0.cells t,hl.symm⟩)
   refine⟨_, .pointer (some ⟨w.heap.size,0,none⟩),_,_,?_, .inl rfl,(Below.refl _ _).alloc s.hr.le _,h1,h2,Z.h.length,w.heap.size,?_,?_,rfl⟩
   ·simp only[execOp,a1]
    simp[Instr.alloc,zeroValue,typeInfo,hi,aG,newVar,newRow,run_newObj_alloc]
   ·rw[<-s.hr.len];simp
   ·simp
  ·cases hc
 ·cases hc
def KZ (s:SR Γ M0 base Z a w J){o:Oper}{d:Md}{t:TypeId}{x y:Operand}{n:Nat}{x' y':Opd}(a1:o.op= .store t x y)
 (hc:fX P kf d o.op=some (.store n x' y')) (ba:x'.ev Z= .one (.tp n)) (hlen:(y'.ev Z).cells.length=n) (aH:(y'.ev Z).cells.all plain=true):kO P M0 base Z w J (.b9 []) Z.h (execOp a.eval o):=by
 rw[a1]at hc;simp only[fX]at hc
 split at hc
 ·rename_i n1 x1 y1 hn hx hy
  cases hc
  have rx:=aD s hx
  have ry:=aD s hy
  rw[ba]at rx
  obtain⟨ob,b,aB,aa,hu⟩:=rx
  have aC:=ry.cells (V.c9 aH)
  obtain⟨b',cur,e,af,a5,aI⟩:=s.hr.objs ob _ _ aa aB
  cases e
  have aE:(a.eval y).cells.size=n:=by rw[<-hlen,aC.1];simp
  have a2:=pq (P:=P) hn a5 aE (by omega) aC.cO (o:=0)
  obtain⟨cur',ag,ay,bb⟩:=eC b (a.eval y).cells.toList 0 w cur a5 (by simp[aE];omega)
  have ab:ob<Z.h.length:=(Zb.1 aa).1
  have aJ:Z.h.set ob (.bT n)=Z.h:=by
   have:=(Zb.1 aa).2
   rw[<-this]
   exact List.set_getElem_self ab
  obtain⟨g1,g2⟩:=s.hr.c0 (w':=w.setCells b 0 (a.eval y).cells.toList) (ob':= .bT n) aa aB rfl rfl (dR b _ 0 w).symm
   (fun k hk=>dP b _ 0 w k (fun e=>hk (by rw[e])))
   (fun k c e hr=>by cases e;rw[hr.inj a5];exact⟨cur',ag,ay⟩)
   (fun c=>⟨b,cur',rfl,af,ag,by rw[ay];exact aI⟩)
  rw[aJ]at g1 g2
  refine⟨.skip,undef,_,J,?_, .inr ⟨rfl,rfl⟩,cS b base af _ 0 w w (Below.refl _ _),g1,g2,VR.undef⟩
  simp only[execOp,a1,hu]
  simp[a2]
 ·cases hc
def JF (s:SR Γ M0 base Z a w J){o:Oper}{d:Md}{cs:List L}{t:TypeId}(a1:o.op= .alloc t)
 (hc:fX P kf d o.op=some (.alloc cs)):kO P M0 base Z w J (.one (.ptr Z.h.length 0 0)) (Z.h++[.box cs, .res]) (execOp a.eval o):=by
 obtain⟨n,u,w',J',e1,e2,e3,e4,e5,e6⟩:=CQ (call:=fun _ _=>none) s a1 hc (show cz _ Z (.alloc cs)=some (.one (.ptr Z.h.length 0 0),Z.h++[.box cs])from rfl)
 obtain⟨g1,g2⟩:=e4.push (w':=w') (Zn _) (fun _ _=>rfl) none .res (fun b e=>by cases e) (fun _=>rfl)
 rw[List.append_assoc]at g1 g2
 exact⟨n,u,w',_,e1,e2,e3,g1,e5.trans g2,e6.ch g2⟩
def HR.cP {w:World}:∀(n:Nat){J:List (Option Nat)}{h:List Y0},HR M0 base w J h->HR M0 base w (J++List.replicate n none) (h++G2 n)/\ Ch (Mu M0 J h) (Mu M0 (J++List.replicate n none) (h++G2 n)) w w J (J++List.replicate n none) h (h++G2 n)
 |0,J,h,k=>by
  simp only[List.replicate_zero,G2,Zw]
  exact⟨k,Ch.refl _ _ _ _⟩
 |n+1,J,h,k=>by
  obtain⟨g1,g2⟩:=k.push (w':=w) (Zn _) (fun _ _=>rfl) none .res (fun b e=>by cases e) (fun _=>rfl)
  obtain⟨g3,g4⟩:=HR.cP n g1
  rw[List.append_assoc,List.append_assoc]at g3 g4
  exact⟨g3,g2.trans g4⟩
def Og (s:SR Γ M0 base Z a w J){o:Oper}{d:Md}{v:V}{h':List Y0}{t:TypeId}{x:Operand}{y:Opd}{n:Nat}(a1:o.op= .box t x)
 (hc:fX P kf d o.op=some (.box y)) (he:cz (fun _ _=>none) Z (.bz n y)=some (v,h')):kO P M0 base Z w J v h' (execOp a.eval o):=by
 simp only[cz]at he
 split at he
 ·rename_i aH
  cases he
  obtain⟨m,u,w',J',e1,e2,e3,e4,e5,e6⟩:=I4 (call:=fun _ _=>none) s a1 hc (show cz _ Z (.box y)=some (.one (.ptr Z.h.length 0 0),Z.h++[.box (y.ev Z).cells]) by simp only[cz,if_pos aH])
  obtain⟨g1,g2⟩:=e4.cP n
  rw[List.append_assoc]at g1 g2
  exact⟨m,u,w',_,e1,e2,e3,g1,e5.trans g2,e6.ch g2⟩
 ·cases he
def HM (s:SR Γ M0 base Z a w J){o:Oper}{d:Md}{cs:List L}{t:TypeId}{i:Nat}(hi:Z.h[i]? =some .res)(a1:o.op= .alloc t)
 (hc:fX P kf d o.op=some (.alloc cs)):kO P M0 base Z w J (.one (.ptr i 0 0)) (Z.h.set i (.box cs)) (execOp a.eval o):=by
 rw[a1]at hc;simp only[fX]at hc
 split at hc
 ·rename_i v0 hz
  split at hc
  ·rename_i cs' a6
   cases hc
   obtain⟨ti,bc,aG⟩:∃i,P.info? t=some i/\ i.zero=some v0:=by
    unfold oA at hz
    cases hi:P.info? t with
    |none=>simp[hi]at hz
    |some i=>simp[hi]at hz;exact⟨i,rfl,hz⟩
   obtain⟨h1,h2⟩:=s.hr.fill (w':=w.alloc (.cells v0.cells t)) hi (by simp) (fun b hb=>fb w _ b hb) (b0:=w.heap.size) (Zn _) (cs:=cs)
    (fun c=>⟨w.heap.size,v0.cells,rfl,s.hr.le,fO.new w v0.cells t,qn a6⟩)
   have ab:i<Z.h.length:=(Zb.1 hi).1
   refine⟨_, .pointer (some ⟨w.heap.size,0,none⟩),_,_,?_, .inl rfl,(Below.refl _ _).alloc s.hr.le _,h1,h2,some w.heap.size, .box cs,?_,?_,w.heap.size,rfl,by simp[Y0.z]⟩
   ·simp only[execOp,a1]
    simp[Instr.alloc,zeroValue,typeInfo,bc,aG,newVar,newRow,run_newObj_alloc]
   ·rw[Zd (by rw[s.hr.len];exact ab)]
   ·rw[Zd ab]
  ·cases hc
 ·cases hc
end
end Gi
