/- Of this proof. -/
import Derived.Test.YtebnmoogdmpepaaGreatGil
import Derived.Laws.IdiomStrings
set_option linter.unusedSimpArgs false
set_option linter.unusedVariables false
namespace Gi
open Go Go.RowKit
variable {KI:KF}
section
variable {Γ:Ctx}{P:Program}{M0:Nat→Prop}{base:Nat}{σ:St}{a:Act}{w:World}{ρ:List (Option Nat)}
theorem cZ.sub {M:Nat→Prop}{z:Nat}{es:List (List PV)}{b o l n:Nat}(r:cZ M w z es b o):cZ M w z ((es.drop l).take n) b (o+l*z):=
 cZ.of fun i e he=>by
  rw[Z4]at he
  split at he
  ·rw[Y0]at he
   have:=cZ.at r he
   rwa[show o+l*z+i*z=o+(l+i)*z by rw[Z7];omega]
  ·cases he
theorem FK (s:SR Γ M0 base σ a w ρ){o:Oper}{d:Md}{ao:AOp}{v:V}{h':List AObj}{call:Nat→List V→Option V}{t:TypeId}{x:Operand}{lo hi mx:Option Operand}(hop:o.op= .slice t x lo hi mx)
 (hc:eV P kf d o.op=some ao) (he:cf call σ ao=some (v,h')):jC P M0 base σ w ρ v h' (execOp a.eval o):=by
 rw[hop]at hc;simp only[eV]at hc
 split at hc
 ·cases hc;cases he
 ·rename_i e y lo' hi' hu hx hlo hhi
  split at hc
  ·rename_i z hz
   split at hc
   ·cases hc
   ·rename_i hz0
    cases hc
    by_cases q:d.st=true
    ·rw[if_pos q]at he;cases he
    rw[if_neg q]at he
    simp only[cf]at he
    split at he
    ·rename_i es hes
     have bnd:∀{o:Option Operand}{os:List Opd}{n:Int}(def':Int),fy gl o.toList=some os→
      bh σ def' os.head? =some n→(o=none∧n=def')∨∃oo k,o=some oo∧a.eval oo= .int k n:=by
      intro o os n def' ho hn
      cases o with
      |none=>
       simp[fy]at ho;subst ho
       simp[bh]at hn
       exact .inl ⟨rfl,hn.symm⟩
      |some oo=>
       simp only[Option.toList,fy]at ho
       split at ho
       ·rename_i y' ys' h1 h2
        cases h2;cases ho
        simp only[List.head?_cons,bh]at hn
        split at hn
        ·rename_i k n' heq
         cases hn
         exact .inr ⟨oo,k,rfl,(aw s h1).int heq⟩
        ·cases hn
       ·cases ho
     split at he
     ·rename_i l r hl hr
      split at he
      ·rename_i hb
       obtain⟨h0,h1,h2,hall⟩:=hb
       cases he
       have hL:=bnd 0 hlo hl
       have hR:=bnd (es.length:Int) hhi hr
       obtain⟨k1,c1⟩:=s.hr.freezeLs (y.ev σ).cells
       have rx:=aw s hx
       have hrd:ap (Mu M0 ρ (freezeLs σ.h (y.ev σ).cells)) w (.lst es) (a.eval x):=by
        unfold asList at hes
        split at hes
        ·rename_i l' hyl
         split at hes
         ·rename_i es' hvw
          cases hes
          rw[hyl]at rx
          have rx':LR (Mu M0 ρ σ.h) w ρ σ.h l' (a.eval x):=rx
          refine mY k1 (rx'.ch c1) (by rw[ii];exact hvw) (hJ _ _ (.inr ?_))
          rw[hyl];simp[V.cells]
         ·cases hes
        ·cases hes
       obtain⟨ad,cc,ex⟩:=hrd.slice
       have hcap:es.length≤cc:=by
        rw[ex]at hrd
        simp only[ap]at hrd
        rcases hrd with⟨rfl,_⟩|⟨b,o',c',z',e',_,_,_,hc'⟩
        ·simp
        ·cases e';exact hc'
       have e1:(Instr.sliceBounds true es.length cc (lo.map a.eval) (hi.map a.eval) none).run P w= .ok (l.toNat,r.toNat,cc) w:=by
        simp only[Instr.sliceBounds,Sem.run_bind,Sem.run_pure,Result.andThen_ok,if_true,Option.isSome_none]
        rcases hR with⟨rfl,rfl⟩|⟨oo,k,rfl,ho⟩
        ·rcases hL with⟨rfl,rfl⟩|⟨oo,k,rfl,ho⟩
         ·simp
         ·simp[ho,oX k _ h0 (show l≤(es.length:Int) by omega)]
        ·rcases hL with⟨rfl,rfl⟩|⟨oo',k',rfl,ho'⟩
         ·simp[ho,oX k _ (show(0:Int)≤r by omega) (show r≤(cc:Int) by omega)]
         ·simp[ho,ho',oX k _ (show(0:Int)≤r by omega) (show r≤(cc:Int) by omega),oX k' _ h0 (show l≤(r.toNat:Int) by omega)]
       have hrun:(Instr.sliceAt t (a.eval x) (lo.map a.eval) (hi.map a.eval) (Option.map a.eval none)).run P w= .ok (.slice (if cc=l.toNat then ad else ad.map (·.add (l.toNat*z))) (r.toNat-l.toNat) (cc-l.toNat)) w:=by
        rw[ex]
        simp only[Instr.sliceAt,Sem.run_bind,run_underlying hu,Result.andThen_ok,Instr.slice,Option.map_none,e1,kO e hz,Sem.run_pure]
       refine⟨.value (.slice (if cc=l.toNat then ad else ad.map (·.add (l.toNat*z))) (r.toNat-l.toNat) (cc-l.toNat)), .slice (if cc=l.toNat then ad else ad.map (·.add (l.toNat*z))) (r.toNat-l.toNat) (cc-l.toNat),w,ρ,?_, .inl rfl,Below.refl _ _,k1,c1,?_⟩
       ·simp only[execOp,hop,Sem.run_bind,hrun,Result.andThen_ok,Sem.run_pure]
       ·show ap _ w (.lst ((es.drop l.toNat).take (r.toNat-l.toNat))) _
        have hlen:((es.drop l.toNat).take (r.toNat-l.toNat)).length=r.toNat-l.toNat:=by simp;omega
        by_cases hlr:l=r
        ·subst hlr
         simp only[Y4,Ya,ap]
         exact .inl ⟨by trivial,_,_,rfl⟩
        ·have hpos:l.toNat<r.toNat:=by omega
         have hne:cc≠l.toNat:=by omega
         rw[ex]at hrd
         simp only[ap]at hrd⊢
         rcases hrd with⟨rfl,_⟩|⟨b,o',c',z',e',hm,hlt,hrr,hc'⟩
         ·simp at h2;omega
         ·cases e'
          have hzz:z'=z:=by
           obtain⟨e0,es',rfl⟩:=Xk (show es≠[] by rintro rfl;simp at h2;omega)
           have q1:=(cZ.at hrr (i:=0) (e:=e0) rfl).1
           simp only[Zq,Zm,beq_iff_eq]at hall
           rw[←q1];exact hall.1
          subst hzz
          refine .inr ⟨b,o'+l.toNat*z',cc-l.toNat,z',?_,hm,hlt,hrr.sub,by rw[hlen];omega⟩
          rw[hlen,if_neg hne]
          simp[Addr.add_mid]
      ·cases he
     ·cases he
    ·cases he
  ·cases hc
 ·cases hc
theorem Nh (s:SR Γ M0 base σ a w ρ){o:Oper}{d:Md}{z:Nat}{x:Opd}{lo hi:Option Opd}{v:V}{call:Nat→List V→Option V}
 (hc:eV P kf d o.op=some (.slcF z x lo hi)) (he:bj call σ (.slcF z x lo hi)=some v):jC P M0 base σ w ρ v σ.h (execOp a.eval o):=by
 obtain⟨t,x',lo',hi',mx',hop,hc'⟩:∃t x' lo' hi' mx',o.op= .slice t x' lo' hi' mx'∧eV P kf ⟨d.draw,d.dt,false,d.sb,d.dp,d.zn,d.zl,d.tr,d.nb⟩ o.op=some (.slcL z x lo hi):=by
  cases hop:o.op
  case slice t x' lo' hi' mx'=>
   refine⟨t,x',lo',hi',mx',rfl,?_⟩
   rw[hop]at hc
   simp only[eV]at hc⊢
   split at hc
   ·cases hc
   ·split at hc
    ·split at hc
     ·cases hc
     ·rename_i hz0
      by_cases q:d.st=true
      ·rw[if_pos q]at hc
       cases hc
       simp only[if_neg hz0,Z0,if_false]
      ·rw[if_neg q]at hc;cases hc
    ·cases hc
   ·cases hc
  case makeFunc fn first caps=>rw[hop]at hc;cases fn<;>simp only[eV]at hc<;>first|(cases hc;done)|((repeat' (split at hc))<;>cases hc)
  all_goals
   rw[hop]at hc
   simp only[eV]at hc
   first
   |(cases hc;done)
   |(simp only[Zj]at hc;obtain⟨_,_,hc⟩:=hc;cases hc;done)
   |((repeat' (split at hc))<;>cases hc)
 refine FK (call:=call) s hop hc' ?_
 simp only[bj]at he
 split at he
 ·rename_i es hx
  split at he
  ·rename_i l r hl hr
   split at he
   ·rename_i hb
    cases he
    simp only[cf,hx,asList,L.view,hl,hr,if_pos hb]
    rfl
   ·cases he
  ·cases he
 ·cases he
theorem Kf {h:List AObj}(k:HR M0 base w ρ h){v:V}{u:Value}{e:List PV}{h1:List AObj}(r:VR (Mu M0 ρ h) w ρ h v u)(hc:rH h v=some (e,h1)):
 HR M0 base w ρ h1∧Ch (Mu M0 ρ h) (Mu M0 ρ h1) w w ρ ρ h h1∧xO (Mu M0 ρ h1) w e u:=by
 unfold rH at hc
 split at hc
 ·rename_i o i j
  split at hc
  ·rename_i hij
   obtain⟨rfl,rfl⟩:=hij
   obtain⟨r0,ob,hr0,hob,hpt⟩:=r
   have fboxc:∀{h2:List AObj}{ps:List PV}{b:Nat},HR M0 base w ρ h2→h2[o]? =some (.fbox ps)→r0=some b→u= .pointer (some ⟨b,0,none⟩)→xO (Mu M0 ρ h2) w ps u:=by
    intro h2 ps b k2 ho2 hrb hu
    obtain⟨b',cur,e',hm,hrow,hl,hrd⟩:=k2.objs o _ r0 ho2 hr0
    rw[hrb]at e';cases e'
    refine⟨b,0,hu,hm,hrow.lt,dV.of fun j p hp=> ?_⟩
    obtain⟨v,hv,hr⟩:=hrd j p hp
    exact⟨v,by rw[hrow.cell];simpa using hv,hr⟩
   split at hc
   ·rename_i cs hcs
    rw[hcs]at hob;cases hob
    split at hc
    ·rename_i ps hps
     split at hc
     ·rename_i hmut
      cases hc
      have hmut':∀l∈cs,L.mut h l=false:=by simpa using hmut
      obtain⟨k1,c1⟩:=k.fbox hcs (fun us hls=>by
       obtain⟨q1,q2⟩:=sS k hls hps (fun l _=>rfl) hmut'
       exact⟨q1,q2⟩)
      obtain⟨b,hrb,hu⟩:=hpt
      refine⟨k1,c1,fboxc k1 (Zd (Zb.1 hcs).1) hrb ?_⟩
      rw[hu];simp[AObj.z]
     ·cases hc
    ·cases hc
   ·rename_i ps hcs
    rw[hcs]at hob;cases hob
    cases hc
    obtain⟨b,hrb,hu⟩:=hpt
    exact⟨k,Ch.refl _ _ _ _,fboxc k hcs hrb (by rw[hu];simp[AObj.z])⟩
   ·cases hc
  ·cases hc
 ·rename_i e' j
  split at hc
  ·rename_i hj
   subst hj
   cases hc
   obtain⟨b,o,hu,hm,hlt,hr⟩:=r
   exact⟨k,Ch.refl _ _ _ _,b,o,hu,hm,hlt,hr⟩
  ·cases hc
 ·cases hc
theorem xU :∀{vs:List V}{us:List Value}{h h1:List AObj}{es:List (List PV)},HR M0 base w ρ h→vs.length=us.length→(∀(i:Nat)(v:V)(u:Value),vs[i]? =some v→us[i]? =some u→VR (Mu M0 ρ h) w ρ h v u)→mc h vs=some (es,h1)→
 HR M0 base w ρ h1∧Ch (Mu M0 ρ h) (Mu M0 ρ h1) w w ρ ρ h h1∧es.length=us.length∧∀(i:Nat)(e:List PV)(u:Value),es[i]? =some e→us[i]? =some u→xO (Mu M0 ρ h1) w e u
 |[],us,h,h1,es,k,hl,_,hc=>by
  simp[mc]at hc
  obtain⟨rfl,rfl⟩:=hc
  exact⟨k,Ch.refl _ _ _ _,by simpa using hl,fun i e u he=>by simp at he⟩
 |v::vs,[],h,h1,es,k,hl,_,hc=>by simp at hl
 |v::vs,u::us,h,h1,es,k,hl,hr,hc=>by
  unfold mc at hc
  split at hc
  ·rename_i e1 h2 hc1
   split at hc
   ·rename_i es2 h3 hc2
    cases hc
    obtain⟨k1,c1,r1⟩:=Kf k (hr 0 v u rfl rfl) hc1
    obtain⟨k2,c2,l2,r2⟩:=xU k1 (by simpa using hl) (fun i v' u' hv hu=>(hr (i+1) v' u' (by simpa using hv) (by simpa using hu)).ch c1) hc2
    refine⟨k2,c1.trans c2,by simp[l2],fun i e u' he hu=> ?_⟩
    cases i with
    |zero=>
     simp at he hu;subst he;subst hu
     exact r1.go c2.go
    |succ i=>exact r2 i e u' (by simpa using he) (by simpa using hu)
   ·cases hc
  ·cases hc
theorem M3 (s:SR Γ M0 base σ a w ρ){o:Oper}{d:Md}{ao:AOp}{v:V}{h':List AObj}{call:Nat→List V→Option V}{fn:Fn}{first caps:Array Operand}(hop:o.op= .makeFunc fn first caps)
 (hc:eV P kf d o.op=some ao) (he:cf call σ ao=some (v,h')):jC P M0 base σ w ρ v h' (execOp a.eval o):=by
 rw[hop]at hc
 cases fn with
 |func f=>
  simp only[eV]at hc
  split at hc
  ·rename_i k cs hk hcs
   split at hc
   ·rename_i hfirst
    cases hc
    simp only[cf]at he
    split at he
    ·rename_i es h1 hcap
     cases he
     have hl:(cs.map (Opd.ev σ)).length=(caps.map a.eval).toList.length:=by simp[eT hcs]
     obtain⟨k1,c1,l1,r1⟩:=xU s.hr hl (fun i v u hv hu=>by
      simp only[Zp,Zj,Yj]at hv hu
      obtain⟨y,hy,rfl⟩:=hv
      obtain⟨x,hx,rfl⟩:=hu
      obtain⟨y',hy',hc⟩:=ib hcs i x hx
      rw[hy]at hy';cases hy'
      exact aw s hc) hcap
     have hf0:first= #[]:=by simpa using hfirst
     subst hf0
     refine⟨.value (.func (.func f) #[] (caps.map a.eval)), .func (.func f) #[] (caps.map a.eval),w,ρ,?_, .inl rfl,Below.refl _ _,k1,c1,f,caps.map a.eval,rfl,hk,by rw[l1];simp,fun i e u he hu=>r1 i e u he (by simpa using hu)⟩
     simp[execOp,hop,Instr.makeFunc]
    ·cases he
   ·cases hc
  ·cases hc
 |_=>simp[eV]at hc
theorem Qc (s:SR Γ M0 base σ a w ρ){o:Oper}{d:Md}{x:Opd}{v:V}{call:Nat→List V→Option V}
 (hc:eV P kf d o.op=some (.s2b x)) (he:bj call σ (.s2b x)=some v):∃u w',(execOp a.eval o).run P w= .ok (.value u) w'∧Below w.heap.size w w'∧VR (Mu M0 ρ σ.h) w' ρ σ.h v u:=by
 obtain⟨src,dst,y,e,hop,h1,h2,h3,h4⟩:∃src dst y e,o.op= .convert src dst y∧P.underlying src=some .string∧P.underlying dst=some (.slice e)∧gl y=some x∧P.underlying e=some (.int .u8):=by
  cases hop:o.op
  case convert src dst y=>
   rw[hop]at hc;simp only[eV]at hc
   split at hc
   ·cases hc
   ·split at hc<;>cases hc
   ·rename_i e y' q1 q2 q3
    split at hc
    ·rename_i q4 q5
     cases hc
     exact⟨src,dst,y,e,rfl,q1,q2,q3,q4⟩
    ·cases hc
   ·cases hc
  case makeFunc fn first caps=>rw[hop]at hc;cases fn<;>simp only[eV]at hc<;>first|(cases hc;done)|((repeat' (split at hc))<;>cases hc)
  all_goals
   rw[hop]at hc
   simp only[eV]at hc
   first
   |(cases hc;done)
   |(simp only[Zj]at hc;obtain⟨_,_,hc⟩:=hc;cases hc;done)
   |((repeat' (split at hc))<;>cases hc)
 simp only[bj]at he
 split at he
 ·rename_i st hst
  cases he
  have ex:=(aw s h3).str hst
  have hrun:=run_bytes_of_string (P:=P) w src dst e ⟨st.toArray⟩ h1 h2 h4
  have hsz:(⟨st.toArray⟩:ByteArray).size=st.length:=by simp[ByteArray.size]
  rw[hsz]at hrun
  have hcap:=grownCap_ge w st.length 0 e
  generalize grownCap w st.length 0 e=cap at hrun hcap
  generalize hw':w.drew.alloc (.cells (bytesRow ⟨st.toArray⟩ cap) e ((bytesRow ⟨st.toArray⟩ cap).size,(bytesRow ⟨st.toArray⟩ cap).size+1))=w' at hrun
  have hold:∀b,b<w.heap.size→w'.heap[b]? =w.heap[b]? :=fun b hb=>by rw[←hw'];exact fg w.drew _ b hb
  have hsize:w'.heap.size=w.heap.size+1:=by rw[←hw'];simp
  have hnew:w'.heap[w.heap.size]? =some (.cells (bytesRow ⟨st.toArray⟩ cap) e ((bytesRow ⟨st.toArray⟩ cap).size,(bytesRow ⟨st.toArray⟩ cap).size+1)):=by
   rw[←hw'];exact heap_alloc_new w.drew _
  refine⟨.slice (some ⟨w.heap.size,0,none⟩) st.length cap,w',?_,⟨by rw[←hw'];rfl,by rw[←hw'];rfl,by rw[←hw'];rfl,by omega,hold⟩,?_⟩
  ·simp only[execOp,hop,ex,Sem.run_bind,hrun,Result.andThen_ok,Sem.run_pure]
  ·show ap _ w' (.lst (ag st)) _
   simp only[ap]
   have hl:(ag st).length=st.length:=by simp[ag]
   refine .inr ⟨w.heap.size,0,cap,1,by rw[hl],fun hm=> ?_,by omega,cZ.of fun i e' he'=> ?_,by rw[hl];exact hcap⟩
   ·rcases hm with hm|⟨oo,ob,ho,hmut,hr⟩
    ·have:=s.hr.old _ hm;have:=s.hr.le;omega
    ·have:=(s.hr.objs oo ob _ ho hr).lt (AObj.mut_live hmut)
     omega
   ·simp only[ag,Zp,Zj]at he'
    obtain⟨b,hb,rfl⟩:=he'
    refine⟨rfl,dV.of fun j p hp=> ?_⟩
    cases j with
    |zero=>
     simp at hp;subst hp
     refine⟨.int .u8 b.toNat,?_,by simp[ap]⟩
     have hi:i<st.length:=(Zb.1 hb).1
     have hb':st[i]=b:=(Zb.1 hb).2
     simp only[World.cell?,hnew]
     simp[bytesRow,Array.getElem?_append,hi,hb']
    |succ j=>simp at hp
 ·cases he
end
end Gi
namespace Gi
open Go Go.RowKit
variable {KI:KF}
section
variable {Γ:Ctx}{P:Program}{M0:Nat→Prop}{base:Nat}{σ:St}{a:Act}{w:World}{ρ:List (Option Nat)}
theorem Il (s:SR Γ M0 base σ a w ρ){o:Oper}{d:Md}{cs:List L}{t:TypeId}(hop:o.op= .alloc t)
 (hc:eV P kf d o.op=some (.alloc cs)):jC P M0 base σ w ρ (.one (.tp cs.length)) (σ.h++[.tbox cs.length]) (execOp a.eval o):=by
 rw[hop]at hc;simp only[eV]at hc
 split at hc
 ·rename_i v0 hz
  split at hc
  ·rename_i cs' hcs
   cases hc
   obtain⟨i,hi,hz'⟩:∃i,P.info? t=some i∧i.zero=some v0:=by
    unfold m4 at hz
    cases hi:P.info? t with
    |none=>simp[hi]at hz
    |some i=>simp[hi]at hz;exact⟨i,rfl,hz⟩
   have hl:cs.length=v0.cells.size:=by
    have:=(pD (KI:=KI) (M:=Mu M0 ρ σ.h) (w:=w) (ρ:=ρ) (h:=σ.h) hcs:ru (Mu M0 ρ σ.h) w ρ σ.h cs v0.cells.toList).1
    simpa using this
   obtain⟨h1,h2⟩:=s.hr.push (w':=w.alloc (.cells v0.cells t)) (by simp) (fun b hb=>fg w _ b hb) (some w.heap.size) (.tbox cs.length) (fun b e=>by cases e;exact Zl _)
    (fun c=>⟨w.heap.size,v0.cells,rfl,s.hr.le,gg.new w v0.cells t,hl.symm⟩)
   refine⟨_, .pointer (some ⟨w.heap.size,0,none⟩),_,_,?_, .inl rfl,(Below.refl _ _).alloc s.hr.le _,h1,h2,σ.h.length,w.heap.size,?_,?_,rfl⟩
   ·simp only[execOp,hop]
    simp[Instr.alloc,zeroValue,typeInfo,hi,hz',newVar,newRow,run_newObj_alloc]
   ·rw[←s.hr.len];simp
   ·simp
  ·cases hc
 ·cases hc
theorem Jo (s:SR Γ M0 base σ a w ρ){o:Oper}{d:Md}{t:TypeId}{x y:Operand}{n:Nat}{x' y':Opd}(hop:o.op= .store t x y)
 (hc:eV P kf d o.op=some (.store n x' y')) (hev:x'.ev σ= .one (.tp n)) (hlen:(y'.ev σ).cells.length=n) (hpl:(y'.ev σ).cells.all plain=true):jC P M0 base σ w ρ (.tup []) σ.h (execOp a.eval o):=by
 rw[hop]at hc;simp only[eV]at hc
 split at hc
 ·rename_i n1 x1 y1 hn hx hy
  cases hc
  have rx:=aw s hx
  have ry:=aw s hy
  rw[hev]at rx
  obtain⟨ob,b,hr0,hob,hu⟩:=rx
  have hls:=ry.cells (V.not_tup hpl)
  obtain⟨b',cur,e,hbase,hrow,hcur⟩:=s.hr.objs ob _ _ hob hr0
  cases e
  have hsz:(a.eval y).cells.size=n:=by rw[←hlen,hls.1];simp
  have hrun:=oh (P:=P) hn hrow hsz (by omega) hls.ones (o:=0)
  obtain⟨cur',hrow',hsz',hget⟩:=de b (a.eval y).cells.toList 0 w cur hrow (by simp[hsz];omega)
  have hlt:ob<σ.h.length:=(Zb.1 hob).1
  have hset:σ.h.set ob (.tbox n)=σ.h:=by
   have:=(Zb.1 hob).2
   rw[←this]
   exact List.set_getElem_self hlt
  obtain⟨g1,g2⟩:=s.hr.upd (w':=w.setCells b 0 (a.eval y).cells.toList) (ob':= .tbox n) hob hr0 rfl rfl (cr b _ 0 w).symm
   (fun k hk=>co b _ 0 w k (fun e=>hk (by rw[e])))
   (fun k c e hr=>by cases e;rw[hr.inj hrow];exact⟨cur',hrow',hsz'⟩)
   (fun c=>⟨b,cur',rfl,hbase,hrow',by rw[hsz'];exact hcur⟩)
  rw[hset]at g1 g2
  refine⟨.skip,undef,_,ρ,?_, .inr ⟨rfl,rfl⟩,bN b base hbase _ 0 w w (Below.refl _ _),g1,g2,VR.undef⟩
  simp only[execOp,hop,hu]
  simp[hrun]
 ·cases hc
theorem Im (s:SR Γ M0 base σ a w ρ){o:Oper}{d:Md}{cs:List L}{t:TypeId}(hop:o.op= .alloc t)
 (hc:eV P kf d o.op=some (.alloc cs)):jC P M0 base σ w ρ (.one (.ptr σ.h.length 0 0)) (σ.h++[.box cs, .res]) (execOp a.eval o):=by
 obtain⟨n,u,w',ρ',e1,e2,e3,e4,e5,e6⟩:=BF (call:=fun _ _=>none) s hop hc (show cf _ σ (.alloc cs)=some (.one (.ptr σ.h.length 0 0),σ.h++[.box cs])from rfl)
 obtain⟨g1,g2⟩:=e4.push (w':=w') (Zl _) (fun _ _=>rfl) none .res (fun b e=>by cases e) (fun _=>rfl)
 rw[Zo]at g1 g2
 exact⟨n,u,w',_,e1,e2,e3,g1,e5.trans g2,e6.ch g2⟩
theorem HR.pushRes {w:World}:∀(n:Nat){ρ:List (Option Nat)}{h:List AObj},HR M0 base w ρ h→HR M0 base w (ρ++List.replicate n none) (h++P7 n)∧Ch (Mu M0 ρ h) (Mu M0 (ρ++List.replicate n none) (h++P7 n)) w w ρ (ρ++List.replicate n none) h (h++P7 n)
 |0,ρ,h,k=>by
  simp only[List.replicate_zero,P7,Zz]
  exact⟨k,Ch.refl _ _ _ _⟩
 |n+1,ρ,h,k=>by
  obtain⟨g1,g2⟩:=k.push (w':=w) (Zl _) (fun _ _=>rfl) none .res (fun b e=>by cases e) (fun _=>rfl)
  obtain⟨g3,g4⟩:=HR.pushRes n g1
  rw[Zo,Zo]at g3 g4
  exact⟨g3,g2.trans g4⟩
theorem Mp (s:SR Γ M0 base σ a w ρ){o:Oper}{d:Md}{v:V}{h':List AObj}{t:TypeId}{x:Operand}{y:Opd}{n:Nat}(hop:o.op= .box t x)
 (hc:eV P kf d o.op=some (.box y)) (he:cf (fun _ _=>none) σ (.boxW n y)=some (v,h')):jC P M0 base σ w ρ v h' (execOp a.eval o):=by
 simp only[cf]at he
 split at he
 ·rename_i hpl
  cases he
  obtain⟨m,u,w',ρ',e1,e2,e3,e4,e5,e6⟩:=HB (call:=fun _ _=>none) s hop hc (show cf _ σ (.box y)=some (.one (.ptr σ.h.length 0 0),σ.h++[.box (y.ev σ).cells]) by simp only[cf,if_pos hpl])
  obtain⟨g1,g2⟩:=e4.pushRes n
  rw[Zo]at g1 g2
  exact⟨m,u,w',_,e1,e2,e3,g1,e5.trans g2,e6.ch g2⟩
 ·cases he
theorem Gr (s:SR Γ M0 base σ a w ρ){o:Oper}{d:Md}{cs:List L}{t:TypeId}{i:Nat}(hi:σ.h[i]? =some .res)(hop:o.op= .alloc t)
 (hc:eV P kf d o.op=some (.alloc cs)):jC P M0 base σ w ρ (.one (.ptr i 0 0)) (σ.h.set i (.box cs)) (execOp a.eval o):=by
 rw[hop]at hc;simp only[eV]at hc
 split at hc
 ·rename_i v0 hz
  split at hc
  ·rename_i cs' hcs
   cases hc
   obtain⟨ti,hti,hz'⟩:∃i,P.info? t=some i∧i.zero=some v0:=by
    unfold m4 at hz
    cases hi:P.info? t with
    |none=>simp[hi]at hz
    |some i=>simp[hi]at hz;exact⟨i,rfl,hz⟩
   obtain⟨h1,h2⟩:=s.hr.fill (w':=w.alloc (.cells v0.cells t)) hi (by simp) (fun b hb=>fg w _ b hb) (b0:=w.heap.size) (Zl _) (cs:=cs)
    (fun c=>⟨w.heap.size,v0.cells,rfl,s.hr.le,gg.new w v0.cells t,pD hcs⟩)
   have hlt:i<σ.h.length:=(Zb.1 hi).1
   refine⟨_, .pointer (some ⟨w.heap.size,0,none⟩),_,_,?_, .inl rfl,(Below.refl _ _).alloc s.hr.le _,h1,h2,some w.heap.size, .box cs,?_,?_,w.heap.size,rfl,by simp[AObj.z]⟩
   ·simp only[execOp,hop]
    simp[Instr.alloc,zeroValue,typeInfo,hti,hz',newVar,newRow,run_newObj_alloc]
   ·rw[Zd (by rw[s.hr.len];exact hlt)]
   ·rw[Zd hlt]
  ·cases hc
 ·cases hc
end
end Gi
