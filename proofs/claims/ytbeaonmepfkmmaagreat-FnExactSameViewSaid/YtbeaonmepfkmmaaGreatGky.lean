/- Of this proof. -/
import Derived.Test.YtbeaonmepfkmmaaGreatGoH
import Derived.Test.YtbeaonmepfkmmaaGreatGoD
import Derived.Test.YtbeaonmepfkmmaaGreatGlH
import Derived.Test.YtbeaonmepfkmmaaGreatGkd
import Derived.Test.YtbeaonmepfkmmaaGreatGkg
set_option linter.unusedSimpArgs false
set_option linter.unusedVariables false
namespace Gi
open Go Go.RowKit
set_option maxHeartbeats 8000000
set_option maxRecDepth 4000
attribute [local simp] start nx bZ cJ cB dB cA dA dG dF og oA oh oB ol oC om oD oq oE ot oF ou oG ov oH oz oI V.cells plain bt gD isInt isStr isBool bin bM fF bN fG dC un asList L.view au V.view viewL aT az bQ bd b6 comp aN bU cy bI aY aW aX ar aj aE ah aq aO am aR bw aA aZ a9 V.flat L.flat cZ cV br putAt thaw thawL thawT V.ow dE cD cE bO dD bP cC freezeVs freezeLs freezeL V.mut L.mut aH cd eW bg bF aP dN cu bK cH L.ren aJ cS bX cY bW bE wp_seq wp_block aM cG bR bf bS wp_skip wp_exit wp_ret b9 b8 cj ca cr ct cq bH aF L.notArr bq bo bp cF b7 storeD aS eB ba bY aQ kX L.mov L.closed V.closed PV.bare PV.flat
theorem QR {m:Nat×Nat×Nat×Nat}{b:List UInt8}{r:Raw}{k:Nat}(hm:m.1≤1048576∧m.2.2.2≤1048576)(h:um m b=some (r,k)):(kR r).Ok maxLen:=by
 obtain⟨_,_,h1,h2,h3⟩:=CG h
 exact⟨by simp only[kR,jt];omega,by unfold maxLen;simp only[kR];omega,MV _,MW _,by unfold maxLen;simp only[kR];omega⟩
theorem Oi (l:List XOp):(kV l).length≤5000:=by
 have key:∀l:List XOp,(∀o∈l,jU o=true)→(l.flatMap tq).length≤l.length*830:=by
  intro l
  induction l with
  |nil=>intro _;simp
  |cons o l ih=>
   intro h
   have h1:=De (h o (by simp))
   have h2:=ih fun x m=>h x (by simp[m])
   simp only[List.flatMap_cons,List.length_append,List.length_cons,Nat.add_mul]
   omega
 unfold kV
 split
 ·rename_i h
  unfold xU at h
  simp only[Bool.and_eq_true,List.all_eq_true,decide_eq_true_eq]at h
  have h1:=key l h.1
  have h2:=jY l.length
  rw[List.length_append]
  omega
 ·simp
theorem Kf {s:List UInt8}{a:Nat}(ha:a≤s.length)(L:Nat):∃(n y0 y1 y2 y3 y4:Nat)(z0 z1 z2 z3 z4:Bool)(x1 x2 x3 x4:List UInt8),
 sL (s.drop a) a=v3 n y0 z0∧y0≤s.length∧td (s.drop y0) y0 L=bV x1 y1 z1∧y1≤s.length∧x1.length≤s.length∧td (s.drop y1) y1 L=bV x2 y2 z2∧y2≤s.length∧x2.length≤s.length∧
 td (s.drop y2) y2 L=bV x3 y3 z3∧y3≤s.length∧x3.length≤s.length∧td (s.drop y3) y3 L=bV x4 y4 z4∧y4≤s.length∧x4.length≤s.length∧
 ((z0&&(z1&&(z2&&(z3&&z4))))=true→um (L,L,L,L) (s.drop a)=some (⟨n,x1,x2,x3,x4⟩,y4-a)∧a≤y4)∧((z0&&(z1&&(z2&&(z3&&z4))))=false→um (L,L,L,L) (s.drop a)=none):=by
 obtain⟨n,y0,z0,q0,h0,t0,f0⟩:=Q2 ha
 obtain⟨x1,y1,z1,q1,h1,l1,t1,f1⟩:=uT h0 L
 obtain⟨x2,y2,z2,q2,h2,l2,t2,f2⟩:=uT h1 L
 obtain⟨x3,y3,z3,q3,h3,l3,t3,f3⟩:=uT h2 L
 obtain⟨x4,y4,z4,q4,h4,l4,t4,f4⟩:=uT h3 L
 refine⟨n,y0,y1,y2,y3,y4,z0,z1,z2,z3,z4,x1,x2,x3,x4,q0,h0,q1,h1,l1,q2,h2,l2,q3,h3,l3,q4,h4,l4,fun hz=> ?_,fun hz=> ?_⟩
 ·simp only[Bool.and_eq_true]at hz
  obtain⟨c0,c1,c2,c3,c4⟩:=hz
  obtain⟨g0,g0'⟩:=t0 c0
  obtain⟨g1,g1'⟩:=t1 c1
  obtain⟨g2,g2'⟩:=t2 c2
  obtain⟨g3,g3'⟩:=t3 c3
  obtain⟨g4,g4'⟩:=t4 c4
  refine⟨?_,by omega⟩
  unfold um;rw[g0];simp only[List.drop_drop,show a+(y0-a)=y0 by omega,g1,show a+(y0-a+(y1-y0))=y1 by omega,g2,show a+(y0-a+(y1-y0)+(y2-y1))=y2 by omega,g3,show a+(y0-a+(y1-y0)+(y2-y1)+(y3-y2))=y3 by omega,g4];congr 2;omega
 ·cases c0:z0 with
  |false=>unfold um;rw[f0 c0]
  |true=>
   obtain⟨g0,g0'⟩:=t0 c0
   cases c1:z1 with
   |false=>unfold um;rw[g0];simp only[List.drop_drop,show a+(y0-a)=y0 by omega,f1 c1]
   |true=>
    obtain⟨g1,g1'⟩:=t1 c1
    cases c2:z2 with
    |false=>unfold um;rw[g0];simp only[List.drop_drop,show a+(y0-a)=y0 by omega,g1,show a+(y0-a+(y1-y0))=y1 by omega,f2 c2]
    |true=>
     obtain⟨g2,g2'⟩:=t2 c2
     cases c3:z3 with
     |false=>unfold um;rw[g0];simp only[List.drop_drop,show a+(y0-a)=y0 by omega,g1,show a+(y0-a+(y1-y0))=y1 by omega,g2,show a+(y0-a+(y1-y0)+(y2-y1))=y2 by omega,f3 c3]
     |true=>
      obtain⟨g3,g3'⟩:=t3 c3
      cases c4:z4 with
      |false=>unfold um;rw[g0];simp only[List.drop_drop,show a+(y0-a)=y0 by omega,g1,show a+(y0-a+(y1-y0))=y1 by omega,g2,show a+(y0-a+(y1-y0)+(y2-y1))=y2 by omega,g3,show a+(y0-a+(y1-y0)+(y2-y1)+(y3-y2))=y3 by omega,f4 c4]
      |true=>rw[c0,c1,c2,c3,c4]at hz;cases hz
theorem rh {b:List UInt8}(hl:b.length≤1048576):ag Ph aC 563 [bi (ae b)]=some (nC (lM mO b)):=by
 rw[←RP (m:=(b.length,b.length,b.length,b.length)) (Nat.le_refl _) (Nat.le_refl _) (Nat.le_refl _) (Nat.le_refl _)]
 have e1:ag Ph aC 579 [bi (ae b),ai .i64 0]=some (sL b 0):=dd hl (a:=0) (by omega)
 cases e:te b with
 |none=>
  rw[zO (by unfold kw;rw[e])]
  simp only[sL,e]at e1
  refine aa (fn:=fM) rfl ?_
  simp(maxSteps:=600000) [fM,e1,nC]
 |some p=>
  obtain⟨n,k⟩:=p
  simp only[sL,e,Nat.zero_add]at e1
  obtain⟨k1,k2,k3⟩:=lG e
  have b1:cw 6 (n:Int)=decide (6<n):=decide_eq_decide.2 (by omega)
  by_cases hn:n≤6
  rotate_left
  ·have d1:6<n:=by omega
   rw[zO (Nr e hn)]
   refine aa (fn:=fM) rfl ?_
   simp(maxSteps:=600000) [fM,e1,b1,d1,nC]
  have d1:¬6<n:=by omega
  refine aa (fn:=fM) rfl ?_
  simp(maxSteps:=600000) [fM,e1,b1,d1]
  refine pk bG Cl.fin [.t,.f,.f,.f,.t,.t,.f,.t,.t,.f,.f,.f,.f,.f,.f,.f,.f,.f,.f,.f,.f,.f,.f,.f,.f,.f,.f,.f,.f,.f,.f,.f,.f,.f,.f,.f,.f,.f,.f,.f,.f,.f,.f,.f,.f,.f,.f,.f,.f,.f,.f,.f,.f,.f,.f,.f,.f,.f,.f,.f,.f,.f,.f,.f,.f,.f,.f,.f,.f,.f,.f,.f,.f,.f,.f,.f,.f,.f,.f,.f,.f,.f,.f,.f,.f,.f,.f,.f,.f,.f,.f,.f,.f] (fun a=>[(5,ai .i64 (a.1:Nat)),(7, .one (.arr 0)),(8,ai .i64 (a.2.length:Nat))]) (fun a=>[.arr 7 (a.2.map XOp.e)]) (AM (b.length,b.length,b.length,b.length) b n) (fun a=>b.length-a.1) (fun a=>TJ (b.length,b.length,b.length,b.length) b n k a∧∀o∈a.2,o.Ok maxLen) (k,[]) ⟨SP k2,fun o h=>by simp at h⟩ rfl (by simp) (fun a a' ia ha=> ?_) (fun a ia ha=> ?_)
  ·obtain⟨a,l⟩:=a
   obtain⟨ia,iok⟩:=ia
   obtain⟨r,kk,q0,q1,rfl,q6,q7⟩:=Ka ia ha
   refine⟨q6,⟨q7,fun o m=> ?_⟩,?_⟩
   ·rcases List.mem_append.1 m with m|m
    ·exact iok o m
    ·rw[List.mem_singleton.1 m];exact QR ⟨hl,hl⟩ q1
   have h1:=ia.1
   simp only at h1 q0 q1⊢
   have r0:=dd hl (a:=a) (by omega)
   obtain⟨n0,y0,y1,y2,y3,y4,z0,z1,z2,z3,z4,x1,x2,x3,x4,p0,l0,p1,l1,w1,p2,l2,w2,p3,l3,w3,p4,l4,w4,hT,hF⟩:=Kf h1 b.length
   cases hz:(z0&&(z1&&(z2&&(z3&&z4))))
   ·rw[hF hz]at q1;cases q1
   obtain⟨g1,g2⟩:=hT hz
   rw[g1]at q1
   cases q1
   simp only[Bool.and_eq_true]at hz
   obtain⟨rfl,rfl,rfl,rfl,rfl⟩:=hz
   have r1:=cU hl l0 hl
   have r2:=cU hl l1 hl
   have r3:=cU hl l2 hl
   have r4:=cU hl l3 hl
   rw[p0]at r0
   rw[p1]at r1
   rw[p2]at r2
   rw[p3]at r3
   rw[p4]at r4
   have k1:=yC (b:=x2) (by omega)
   have k2:=uG (b:=x3) (by omega)
   have c1:cw (l.length:Int) (n:Int)=true:=eJ (by omega)
   have w1:IntKind.i64.wrap ((l.length:Int)+1)=(l.length:Int)+1:=by rw[IntKind.wrap_i64];omega
   have m1:=gV (m:=l.length+1) (z:=96) (by omega) (by omega)
   have hl2:(l++[kR ⟨n0,x1,x2,x3,x4⟩]).length=l.length+1:=by simp
   have hm:(l++[kR ⟨n0,x1,x2,x3,x4⟩]).map XOp.e=l.map XOp.e++[(kR ⟨n0,x1,x2,x3,x4⟩).e]:=by simp
   have hy:((a+(y4-a):Nat):Int)=(y4:Int):=by omega
   rw[hl2,hm,hy,xQ (kR ⟨n0,x1,x2,x3,x4⟩)]
   have hW:(l.map XOp.e).length=l.length:=by simp
   generalize l.map XOp.e=W at*
   simp only[kR]
   generalize uA x2=dk at*
   generalize v5 x3=dr at*
   simp only[t7]at k1
   simp only[sp]at k2
   have lt:cw 0 4=true∧cw 1 4=true∧cw 2 4=true∧cw 3 4=true∧cw 4 4=false:=⟨rfl,rfl,rfl,rfl,rfl⟩
   clear hT hF p0 p1 p2 p3 p4 g1 ia q0 q6 q7 ha iok e
   simp(maxSteps:=600000) [dJ,dI,jA,lt,nu,rz,r0,r1,r2,r3,r4,k1,k2,c1,w1,m1,hW,al,fL, ↓aA, ↓aj, ↓aq, ↓ar, ↓ah, ↓aE, ↓am,-cd]
   exact Kn.of [4] (by decide) (by simp) (by simp)
  ·obtain⟨a,l⟩:=a
   obtain⟨ia,iok⟩:=ia
   have h1:=ia.1
   simp only at h1 iok⊢
   have c1:cw (l.length:Int) (n:Int)=decide (l.length<n):=decide_eq_decide.2 (by omega)
   rcases No ia ha with⟨g1,g2⟩|⟨g1,g2,g3⟩
   ·simp only at g1 g2
    have c2:¬l.length<n:=by omega
    rw[P7 (Nt e hn g2)]
    have e4:=yD (l:=l) (by unfold maxLen;omega) iok
    have e5:=fQ (a:=kV l) (b:=b) (by have:=Oi l;unfold maxLen;omega)
    have e6:=Ey l
    generalize Ba l=ev at*
    generalize (kV l==b)=q at*
    generalize kV l=en at*
    cases q<;>simp(maxSteps:=600000) [dJ,c1,c2,g1,e4,e5, ↓e6,nC]
   ·simp only at g1 g2 g3
    rw[zO (Ns e g2)]
    have r0:=dd hl (a:=a) (by omega)
    obtain⟨n0,y0,y1,y2,y3,y4,z0,z1,z2,z3,z4,x1,x2,x3,x4,p0,l0,p1,l1,w1,p2,l2,w2,p3,l3,w3,p4,l4,w4,hT,hF⟩:=Kf h1 b.length
    have hz:(z0&&(z1&&(z2&&(z3&&z4))))=false:=by
     cases hz:(z0&&(z1&&(z2&&(z3&&z4))))
     ·rfl
     ·rw[(hT hz).1]at g3;cases g3
    have r1:=cU hl l0 hl
    have r2:=cU hl l1 hl
    have r3:=cU hl l2 hl
    have r4:=cU hl l3 hl
    rw[p0]at r0
    rw[p1]at r1
    rw[p2]at r2
    rw[p3]at r3
    rw[p4]at r4
    have lt:cw 0 4=true∧cw 1 4=true∧cw 2 4=true∧cw 3 4=true∧cw 4 4=false:=⟨rfl,rfl,rfl,rfl,rfl⟩
    clear hT hF p0 p1 p2 p3 p4 g2 g3 ia ha iok e
    cases z0
    ·simp(maxSteps:=600000) [dJ,dI,jA,lt,nu,rz,r0,c1,g1,al,nC]
    cases z1
    ·simp(maxSteps:=600000) [dJ,dI,jA,lt,nu,rz,r0,r1,c1,g1,al,nC]
    cases z2
    ·simp(maxSteps:=600000) [dJ,dI,jA,lt,nu,rz,r0,r1,r2,c1,g1,al,nC]
    cases z3
    ·simp(maxSteps:=600000) [dJ,dI,jA,lt,nu,rz,r0,r1,r2,r3,c1,g1,al,nC]
    cases z4
    ·simp(maxSteps:=600000) [dJ,dI,jA,lt,nu,rz,r0,r1,r2,r3,r4,c1,g1,al,nC]
    ·cases hz
theorem P6 (b:List UInt8):(uA b).1.Ok 1048576:=by
 have z:(⟨0,0,[]⟩:XKey).Ok 1048576:=⟨by simp[jt],by simp[jt],by simp⟩
 unfold uA
 split
 ·exact z
 ·split
  ·rename_i k _ h
   obtain⟨h1,h2,h3,h4,_,h6⟩:=sE h
   exact⟨by simp only[jt];omega,by simp only[jt];omega,by simp only;omega⟩
  ·exact z
theorem P8 (b:List UInt8):(v5 b).1.Ok 1048576:=by
 have z:(⟨[]⟩:XRecord).Ok 1048576:=⟨by simp,fun f h=>by simp at h⟩
 unfold v5
 split
 ·exact z
 ·split
  ·rename_i r k _ h
   obtain⟨h1,h2⟩:=pU h.2
   refine⟨by simp only;omega,fun f m=> ?_⟩
   obtain⟨q1,q2,q3⟩:=h2 f m
   exact⟨by omega,by unfold jt;omega⟩
  ·exact z
theorem GG {m:Nat×Nat×Nat×Nat}:∀(n:Nat)(b:List UInt8)(l:List Raw),nf m n b=some l→∀r∈l,r.kind≤1000000000000
 |0,b,l,h=>by
  simp only[nf,Option.some.injEq]at h
  subst h
  simp
 |n+1,b,l,h=>by
  unfold nf at h
  split at h
  ·cases h
  ·rename_i r k e
   split at h
   ·cases h
   ·rename_i l' e2
    simp only[Option.some.injEq]at h
    subst h
    intro x q
    rcases List.mem_cons.1 q with rfl|q
    ·exact(CG e).2.2.1
    ·exact GG n _ _ e2 x q
theorem C5 (b:List UInt8):(∀o∈(lM mO b).1,o.Ok 1048576)∧(lM mO b).1.length≤maxLen:=by
 unfold lM kw
 cases e:te b with
 |none=>exact⟨by simp,by simp⟩
 |some p=>
  obtain⟨n,k⟩:=p
  simp only
  by_cases hn:n≤6
  ·rw[if_pos hn]
   cases e2:nf mO n (b.drop k)with
   |none=>exact⟨by simp,by simp⟩
   |some l=>
    simp only
    by_cases c:kV (l.map kR)=b
    ·rw[if_pos c]
     obtain⟨g1,g2,_⟩:=yU _ _ _ e2
     have g3:=GG _ _ _ e2
     refine⟨fun o ho=> ?_,by simp only[List.length_map];unfold maxLen;omega⟩
     obtain⟨r,hr,rfl⟩:=List.mem_map.1 ho
     obtain⟨f1,f2,f3,f4⟩:=g2 r hr
     have:=g3 r hr
     simp only at f1 f4
     exact⟨by simp only[kR,jt];omega,by simp only[kR];omega,P6 _,P8 _,by simp only[kR];omega⟩
    ·rw[if_neg c];exact⟨by simp,by simp⟩
  ·rw[if_neg hn];exact⟨by simp,by simp⟩
def yN :List (List UInt8)→XDatabase→XDatabase
 |[],d=>d
 |b::L,d=>bif (lM mO b).2 then yN L (Mf d (lM mO b).1).1 else d
def H7 :List (List UInt8)→Nat→Nat
 |[],n=>n
 |b::L,n=>bif (lM mO b).2 then H7 L (n+1)else n
def xu (L:List (List UInt8))(a:Nat×XDatabase):Option (Nat×XDatabase):=match L[a.1]? with
 |some b=>bif (lM mO b).2 then some (a.1+1,(Mf a.2 (lM mO b).1).1)else none
 |none=>none
def TI (L:List (List UInt8))(d:XDatabase)(a:Nat×XDatabase):Prop:=a.1≤L.length∧yN L d=yN (L.drop a.1) a.2∧H7 L 0=H7 (L.drop a.1) a.1
theorem SO (L:List (List UInt8))(d:XDatabase):TI L d (0,d):=⟨Nat.zero_le _,rfl,rfl⟩
theorem J9 {L:List (List UInt8)}{d:XDatabase}{k:Nat}{dk:XDatabase}{b:Nat×XDatabase}(ia:TI L d (k,dk))(h:xu L (k,dk)=some b):
 ∃hk:k<L.length,(lM mO L[k]).2=true∧b=(k+1,(Mf dk (lM mO L[k]).1).1)∧L.length-b.1<L.length-k∧TI L d b:=by
 obtain⟨h1,h2,h3⟩:=ia
 simp only at h1 h2 h3
 by_cases hk:k<L.length
 ·unfold xu at h
  simp only[List.getElem?_eq_getElem hk]at h
  cases q:(lM mO L[k]).2<;>rw[q]at h<;>simp only[cond_true,cond_false]at h
  ·cases h
  ·cases h
   rw[List.drop_eq_getElem_cons hk]at h2 h3
   simp only[yN,H7,q,cond_true]at h2 h3
   exact⟨hk,q,rfl,by simp only;omega,by simp only;omega,h2,h3⟩
 ·unfold xu at h
  simp only[List.getElem?_eq_none (Nat.not_lt.1 hk)]at h
  cases h
theorem Nn {L:List (List UInt8)}{d:XDatabase}{k:Nat}{dk:XDatabase}(ia:TI L d (k,dk))(h:xu L (k,dk)=none):
 (k=L.length∧yN L d=dk∧H7 L 0=L.length)∨∃hk:k<L.length,(lM mO L[k]).2=false∧yN L d=dk∧H7 L 0=k:=by
 obtain⟨h1,h2,h3⟩:=ia
 simp only at h1 h2 h3
 by_cases hk:k<L.length
 ·unfold xu at h
  simp only[List.getElem?_eq_getElem hk]at h
  cases q:(lM mO L[k]).2<;>rw[q]at h<;>simp only[cond_true,cond_false]at h
  ·rw[List.drop_eq_getElem_cons hk]at h2 h3
   simp only[yN,H7,q,cond_false]at h2 h3
   exact .inr ⟨hk,q,h2,h3⟩
  ·cases h
 ·obtain rfl:k=L.length:=by omega
  rw[List.drop_length]at h2 h3
  exact .inl ⟨rfl,h2,h3⟩
theorem H6 :∀(L:List (List UInt8)){d:XDatabase},d.Ok 1048576→(yN L d).Ok 1048576
 |[],_,h=>h
 |b::L,d,h=>by
  simp only[yN]
  cases(lM mO b).2<;>simp only[cond_true,cond_false]
  ·exact h
  ·exact H6 L (Mg (by omega) h (C5 b).1)
theorem AB {k:XDisk}(h:k.Ok 1048576):ag Ph aC 548 [k.v]=some (.tup [(true,BD (yN (sa k.log).2 k.base)),(false,[.pv (.int .i64 (H7 (sa k.log).2 0:Nat))])]):=by
 obtain⟨hb,hlog,hcnt⟩:=h
 have e1:=ko (Nat.le_refl 1048576) hb
 have e2:=za k.base
 have e3:=Cg hlog
 obtain⟨v1,v2,v3⟩:=Nl k.log
 unfold O0 at e3
 simp only[BD]at e2⊢
 generalize hL:(sa k.log).2=L at*
 generalize (sa k.log).1=lend at*
 generalize V.agg [.pv (.str k.base.name), .pv (.int .i64 k.base.version),nd 3 (k.base.stores.map XStore.e), .down 2 (k.base.unique.map XIndexDef.e)]=nv at*
 have hLm:L.length≤maxLen:=by unfold maxLen;omega
 refine aa (fn:=oZ) rfl ?_
 simp(maxSteps:=600000) [oZ,e1, ↓e2,e3, ↓aq, ↓aj, ↓ar, ↓ah, ↓aE, ↓am]
 refine pk bG Cl.fin [.f,.f,.t,.f,.t,.t,.f,.f,.f,.f,.f,.f,.f,.f,.f,.f,.f,.f,.f,.f,.t,.t,.t,.f,.f,.f,.f,.f,.f,.f,.f,.f,.f,.f,.f,.f,.f,.f,.f,.f,.f,.f,.f,.f,.f,.f,.f] (fun a=>[(22,ai .i64 (a.1:Nat))]) (fun a=>[.box [.pv (.str k.base.name), .pv (.int .i64 k.base.version), .pv (.lst (k.base.stores.map XStore.e)), .pv (.lst (k.base.unique.map XIndexDef.e)), .pv (.lst (ae k.log)), .pv (.int .i64 k.count)], .box [.pv (.str []), .pv (.int .i64 0), .nil, .nil], .box [.pv (.str a.2.name), .pv (.int .i64 a.2.version),lL (a.2.stores.map XStore.e), .pv (.lst (a.2.unique.map XIndexDef.e))]]) (xu L) (fun a=>L.length-a.1) (fun a=>TI L k.base a∧a.2.Ok 1048576) (0,k.base) ⟨SO L k.base,hb⟩ rfl ?_ (fun a a' ia ha=> ?_) (fun a ia ha=> ?_)
 ·exact Kn.of [0,1,2] (by decide) (by simp[↓aO]) (by simp)
 ·obtain⟨j,dk⟩:=a
  obtain⟨ia,iok⟩:=ia
  obtain⟨hk,q1,rfl,q2,q3⟩:=J9 ia ha
  simp only at iok q1 hk⊢
  have hd:=C5 L[j]
  refine⟨q2,⟨q3,Mg (by omega) iok hd.1⟩,?_⟩
  have e5:=rh (b:=L[j]) (by have:=v3 _ (List.getElem_mem hk);omega)
  have e6:=Eb (by omega) (Nat.le_refl 1048576) iok hd.1 hd.2
  unfold nC at e5
  rw[q1]at e5
  simp only[cond_true]at e5
  simp only[PI,BD]at e6
  generalize (Mf dk (lM mO L[j]).1).1=d1 at*
  generalize (Mf dk (lM mO L[j]).1).2.1=n1 at*
  generalize (Mf dk (lM mO L[j]).1).2.2=b1 at*
  generalize (lM mO L[j]).1=ops at*
  have hx:Ha L[j]=[.lst (ae L[j])]:=rfl
  have wk:=aU hLm hk
  have lk:=a8 hk
  clear ia ha q1 q2 q3 hd v3
  simp(maxSteps:=600000) [io,hk,hx,e5,e6,wk,lk, ↓aA, ↓aq, ↓aj, ↓ar, ↓ah, ↓aE, ↓am,-cd]
  exact Kn.of [0,1,2] (by decide) (by simp[↓aO]) (by simp)
 ·obtain⟨j,dk⟩:=a
  obtain⟨ia,iok⟩:=ia
  simp only at iok⊢
  rcases Nn ia ha with⟨hk,q1,q2⟩|⟨hk,q0,q1,q2⟩
  ·rw[q1,q2]
   subst hk
   have lk:cw (L.length:Int) (L.length:Int)=false:=fB (by omega)
   simp(maxSteps:=600000) [io,lk, ↓aA, ↓aq, ↓aj, ↓ar, ↓ah, ↓aE, ↓am]
  ·rw[q1,q2]
   have e5:=rh (b:=L[j]) (by have:=v3 _ (List.getElem_mem hk);omega)
   unfold nC at e5
   rw[q0]at e5
   simp only[cond_false]at e5
   have hx:Ha L[j]=[.lst (ae L[j])]:=rfl
   have lk:=a8 hk
   clear ia ha q0 q1 q2 v3
   simp(maxSteps:=600000) [io,hk,hx,e5,lk, ↓aA, ↓aq, ↓aj, ↓ar, ↓ah, ↓aE, ↓am]
theorem AV {k:XDisk}(h:k.Ok 1048576):ag Ph aC 547 [k.v]=some (.tup [(true,BD (yN (sa k.log).2 k.base)),(false,[.pv (.int .i64 (H7 (sa k.log).2 0:Nat))])]):=by
 obtain⟨hb,hlog,hcnt⟩:=h
 have e1:=qE (Nat.le_refl 1048576) hb
 have e2:=za k.base
 have e3:=Cs hlog
 obtain⟨v1,v2,v3⟩:=Nl k.log
 unfold O0 at e3
 simp only[BD]at e2⊢
 generalize hL:(sa k.log).2=L at*
 generalize (sa k.log).1=lend at*
 generalize V.agg [.pv (.str k.base.name), .pv (.int .i64 k.base.version),nd 3 (k.base.stores.map XStore.e), .down 2 (k.base.unique.map XIndexDef.e)]=nv at*
 have hLm:L.length≤maxLen:=by unfold maxLen;omega
 refine aa (fn:=pd) rfl ?_
 simp(maxSteps:=600000) [pd,e1, ↓e2,e3, ↓aq, ↓aj, ↓ar, ↓ah, ↓aE, ↓am]
 refine pk bG Cl.fin [.f,.f,.t,.f,.t,.t,.f,.t,.f,.f,.f,.f,.f,.f,.f,.f,.f,.f,.f,.f,.f,.f,.f,.f,.f,.f,.f,.f,.f,.f,.f,.f,.f,.f,.f,.f,.f,.f,.f,.f,.f,.f,.f,.f,.f,.f,.f,.f,.f,.f,.f] (fun a=>[(7,ai .i64 (a.1:Nat))]) (fun a=>[.box [.pv (.str k.base.name), .pv (.int .i64 k.base.version), .pv (.lst (k.base.stores.map XStore.e)), .pv (.lst (k.base.unique.map XIndexDef.e)), .pv (.lst (ae k.log)), .pv (.int .i64 k.count)], .box [.pv (.str []), .pv (.int .i64 0), .nil, .nil], .box [.pv (.str a.2.name), .pv (.int .i64 a.2.version),lL (a.2.stores.map XStore.e), .pv (.lst (a.2.unique.map XIndexDef.e))]]) (xu L) (fun a=>L.length-a.1) (fun a=>TI L k.base a∧a.2.Ok 1048576) (0,k.base) ⟨SO L k.base,hb⟩ rfl ?_ (fun a a' ia ha=> ?_) (fun a ia ha=> ?_)
 ·exact Kn.of [0,1,2] (by decide) (by simp[↓aO]) (by simp)
 ·obtain⟨j,dk⟩:=a
  obtain⟨ia,iok⟩:=ia
  obtain⟨hk,q1,rfl,q2,q3⟩:=J9 ia ha
  simp only at iok q1 hk⊢
  have hd:=C5 L[j]
  refine⟨q2,⟨q3,Mg (by omega) iok hd.1⟩,?_⟩
  have e5:=ro (b:=L[j]) (by have:=v3 _ (List.getElem_mem hk);omega)
  have e6:=EC (by omega) (Nat.le_refl 1048576) iok hd.1 hd.2
  unfold nC at e5
  rw[q1]at e5
  simp only[cond_true]at e5
  simp only[PI,BD]at e6
  generalize (Mf dk (lM mO L[j]).1).1=d1 at*
  generalize (Mf dk (lM mO L[j]).1).2.1=n1 at*
  generalize (Mf dk (lM mO L[j]).1).2.2=b1 at*
  generalize (lM mO L[j]).1=ops at*
  have hx:Ha L[j]=[.lst (ae L[j])]:=rfl
  have wk:=aU hLm hk
  have lk:=a8 hk
  clear ia ha q1 q2 q3 hd v3
  simp(maxSteps:=600000) [it,hk,hx,e5,e6,wk,lk, ↓aA, ↓aq, ↓aj, ↓ar, ↓ah, ↓aE, ↓am,-cd]
  exact Kn.of [0,1,2] (by decide) (by simp[↓aO]) (by simp)
 ·obtain⟨j,dk⟩:=a
  obtain⟨ia,iok⟩:=ia
  simp only at iok⊢
  rcases Nn ia ha with⟨hk,q1,q2⟩|⟨hk,q0,q1,q2⟩
  ·rw[q1,q2]
   subst hk
   have lk:cw (L.length:Int) (L.length:Int)=false:=fB (by omega)
   simp(maxSteps:=600000) [it,lk, ↓aA, ↓aq, ↓aj, ↓ar, ↓ah, ↓aE, ↓am]
  ·rw[q1,q2]
   have e5:=ro (b:=L[j]) (by have:=v3 _ (List.getElem_mem hk);omega)
   unfold nC at e5
   rw[q0]at e5
   simp only[cond_false]at e5
   have hx:Ha L[j]=[.lst (ae L[j])]:=rfl
   have lk:=a8 hk
   clear ia ha q0 q1 q2 v3
   simp(maxSteps:=600000) [it,hk,hx,e5,lk, ↓aA, ↓aq, ↓aj, ↓ar, ↓ah, ↓aE, ↓am]
def tk :List L:=[.pv (.str []), .pv (.str []), .pv (.str []), .pv (.int .i64 0), .pv (.int .i64 0), .pv (.int .i64 0), .nil, .pv (.str []), .pv (.int .i64 0), .nil, .nil, .nil, .pv (.int .i64 0), .pv (.str []), .nil, .pv (.int .i64 0), .pv (.int .i64 0), .pv (.int .i64 0), .pv (.int .i64 0), .nil, .pv (.int .i64 0), .pv (.int .i64 0), .pv (.int .i64 0), .pv (.bool false)]
theorem kP {c0 c1 c2 c4 c5 c6 c7 c8 c9:PV}{bs:List XBucket}(h:bs.length≤maxLen)(s t:List UInt8):ag Ph aC 146 [.agg [.pv c0, .pv c1, .pv c2, .pv (.lst (bs.map XBucket.e)), .pv c4, .pv c5, .pv c6, .pv c7, .pv c8, .pv c9],di s,di t]=some (match bs.find? (Ck s t)with
 |some x=> .tup [(true,x.e.map .pv),(false,[.pv (.bool true)])]
 |none=> .tup [(true,tk),(false,[.pv (.bool false)])]):=by
 have e1:=xf h s t
 have hff:(dM (Ck s t) bs= -1∧bs.find? (Ck s t)=none)∨∃j,∃hj:j<bs.length,dM (Ck s t) bs=(j:Int)∧bs.find? (Ck s t)=some bs[j]:=by
  unfold dM
  cases h:bs.findIdx? (Ck s t)with
  |none=>exact .inl ⟨rfl,by rw[List.findIdx?_eq_none_iff]at h;rw[List.find?_eq_none];exact fun x hx=>by simp[h x hx]⟩
  |some i=>
   rw[List.findIdx?_eq_some_iff_getElem]at h
   obtain⟨h1,h2,h3⟩:=h
   exact .inr ⟨i,h1,rfl,by rw[List.find?_eq_some_iff_getElem];exact⟨h2,i,h1,rfl,fun j hj=>by simpa using h3 j hj⟩⟩
 refine aa (fn:=lD) rfl ?_
 rcases hff with⟨h1,h2⟩|⟨j,hj,h1,h2⟩<;>rw[h1]at e1<;>rw[h2]
 ·simp(maxSteps:=9999999) [lD,e1,tk,show cw (-1) 0=true from rfl]
 ·have hx:=XBucket.e.eq_1 bs[j]
  simp(maxSteps:=9999999) [lD,e1,hj,hx,show cw (j:Int) 0=false from fB (by omega)]
def TM :XStore:=⟨[],[],0⟩
def Qc (b:XBucket):XStore:=match(yN (sa b.disk.log).2 b.disk.base).stores.find? (HW [110,111,116,101,115])with
 |some st=>st
 |none=>TM
def Hk (w:XWorld)(s t:List UInt8):XStore:=match w.storage.buckets.find? (Ck s t)with
 |some b=>Qc b
 |none=>TM
abbrev TN (x:XStore):V:= .agg [.pv (.str x.name),nd 4 (x.items.map XItem.e), .pv (.int .i64 x.auto)]
theorem Gs {rows:List (List PV)}(h:rows≠[]):lL rows= .pv (.lst rows):=by
 cases rows with
 |nil=>exact absurd rfl h
 |cons r rs=>rfl
theorem uH {w:XWorld}(h:w.Ok 1048576)(s t:List UInt8):ag Ph aC 538 [w.v,di s,di t]=some (TN (Hk w s t)):=by
 have hbl:w.storage.buckets.length≤maxLen:=Nat.le_trans h.2.2.1.1 (by unfold maxLen;omega)
 have e1:ag Ph aC 146 [w.v,di s,di t]=some _:=kP (bs:=w.storage.buckets) hbl s t
 unfold Hk
 cases hb:w.storage.buckets.find? (Ck s t)with
 |none=>
  rw[hb]at e1
  simp only[tk]at e1
  refine aa (fn:=dv) rfl ?_
  simp(maxSteps:=9999999) [dv,e1,TM,nd]
 |some b=>
  rw[hb]at e1
  have hbo:=h.2.2.1.2 _ (List.mem_of_find?_eq_some hb)
  have hx:=XBucket.e.eq_1 b
  simp only[hx,List.map_cons,List.map_nil]at e1
  have e2:=AB hbo.2.2.2.2.1
  have hd:=H6 (sa b.disk.log).2 hbo.2.2.2.2.1.1
  show ag Ph aC 538 [w.v,di s,di t]=some (TN (Qc b))
  unfold Qc
  simp only[BD]at e2
  generalize yN (sa b.disk.log).2 b.disk.base=d at*
  have e3:=m9 (d:=d) (Nat.le_trans hd.2.2.1.1 (by unfold maxLen;omega)) [110,111,116,101,115]
  rcases mw (HW [110,111,116,101,115]) d.stores with⟨q1,q2⟩|⟨j,hj,q1,q2⟩<;>rw[q1]at e3<;>rw[q2]
  ·have l0:cw (-1) 0=true:=rfl
   refine aa (fn:=dv) rfl ?_
   simp(maxSteps:=9999999) [dv,e1,e2,e3,l0,TM,nd, ↓aA, ↓aq, ↓aj, ↓ar, ↓ah, ↓aE, ↓am]
  ·show ag Ph aC 538 [w.v,di s,di t]=some (.agg [.pv (.str d.stores[j].name),nd 4 (d.stores[j].items.map XItem.e), .pv (.int .i64 d.stores[j].auto)])
   have e4:=ff (Nat.le_refl 1048576) (hd.2.2.1.2 _ (List.getElem_mem hj))
   have hs:=XStore.e.eq_1 d.stores[j]
   rw[Gs (rows:=d.stores.map XStore.e) (fun e=>by have:=congrArg List.length e;simp at this;simp[this]at hj)]at e2
   have N:=Bi 4 (d.stores[j].items.map XItem.e)
   generalize nd 4 (d.stores[j].items.map XItem.e)=nn at*
   have l0:cw (j:Int) 0=false:=fB (by omega)
   rcases N with⟨_,rfl⟩|⟨_,rfl⟩
   ·refine aa (fn:=dv) rfl ?_
    simp(maxSteps:=9999999) [dv,e1,e2,e3,e4,hj,hs,l0]
   ·refine aa (fn:=dv) rfl ?_
    simp(maxSteps:=9999999) [dv,e1,e2,e3,e4,hj,hs,l0]
theorem vd {w:XWorld}(h:w.Ok 1048576)(s t:List UInt8):ag Ph aC 537 [w.v,di s,di t]=some (TN (Hk w s t)):=by
 have hbl:w.storage.buckets.length≤maxLen:=Nat.le_trans h.2.2.1.1 (by unfold maxLen;omega)
 have e1:=js (bs:=w.storage.buckets) hbl s t
 unfold Hk
 rcases mw (Ck s t) w.storage.buckets with⟨p1,p2⟩|⟨i,hi,p1,p2⟩<;>rw[p1]at e1<;>rw[p2]
 ·have l0:cw (-1) 0=true:=rfl
  refine aa (fn:=dy) rfl ?_
  simp(maxSteps:=9999999) [dy,e1,l0,TM,nd]
 ·have hbo:=h.2.2.1.2 _ (List.getElem_mem hi)
  have hx:=XBucket.e.eq_1 w.storage.buckets[i]
  have e2:=AV hbo.2.2.2.2.1
  have hd:=H6 (sa w.storage.buckets[i].disk.log).2 hbo.2.2.2.2.1.1
  have li:cw (i:Int) 0=false:=fB (by omega)
  show ag Ph aC 537 [w.v,di s,di t]=some (TN (Qc w.storage.buckets[i]))
  unfold Qc
  simp only[BD]at e2
  generalize yN (sa w.storage.buckets[i].disk.log).2 w.storage.buckets[i].disk.base=d at*
  have e3:=nj (d:=d) (Nat.le_trans hd.2.2.1.1 (by unfold maxLen;omega)) [110,111,116,101,115]
  rcases mw (HW [110,111,116,101,115]) d.stores with⟨q1,q2⟩|⟨j,hj,q1,q2⟩<;>rw[q1]at e3<;>rw[q2]
  ·have l0:cw (-1) 0=true:=rfl
   refine aa (fn:=dy) rfl ?_
   simp(maxSteps:=9999999) [dy,e1,e2,e3,hi,hx,li,l0,TM,nd, ↓aA, ↓aq, ↓aj, ↓ar, ↓ah, ↓aE, ↓am]
  ·show ag Ph aC 537 [w.v,di s,di t]=some (.agg [.pv (.str d.stores[j].name),nd 4 (d.stores[j].items.map XItem.e), .pv (.int .i64 d.stores[j].auto)])
   have e4:=gh (Nat.le_refl 1048576) (hd.2.2.1.2 _ (List.getElem_mem hj))
   have hs:=XStore.e.eq_1 d.stores[j]
   rw[Gs (rows:=d.stores.map XStore.e) (fun e=>by have:=congrArg List.length e;simp at this;simp[this]at hj)]at e2
   have N:=Bi 4 (d.stores[j].items.map XItem.e)
   generalize nd 4 (d.stores[j].items.map XItem.e)=nn at*
   have l0:cw (j:Int) 0=false:=fB (by omega)
   rcases N with⟨_,rfl⟩|⟨_,rfl⟩
   ·refine aa (fn:=dy) rfl ?_
    simp(maxSteps:=9999999) [dy,e1,e2,e3,e4,hi,hx,li,hj,hs,l0]
   ·refine aa (fn:=dy) rfl ?_
    simp(maxSteps:=9999999) [dy,e1,e2,e3,e4,hi,hx,li,hj,hs,l0]
theorem GL {z:Nat}{r:List (List PV)}:cZ (.one (.own z r))=bi r:=rfl
def ja {α:Type}(f:α→Nat)(xs:List α):Nat:=(xs.map f).sum
theorem oP {α:Type}{f:α→Nat}{xs:List α}{k:Nat}(hk:k<xs.length):ja f (xs.take (k+1))=ja f (xs.take k)+f xs[k]:=by
 unfold ja;rw[List.take_succ_eq_append_getElem hk,List.map_append,List.sum_append];simp
theorem sd {α:Type}{f:α→Nat}{c:Nat}(h:∀x,f x≤c):∀(xs:List α),ja f xs≤c*xs.length
 |[]=>by simp[ja]
 |x::xs=>by
  have:=sd h xs
  have:=h x
  simp only[ja,List.map_cons,List.sum_cons,List.length_cons,Nat.mul_add]at*
  omega
def uY (x:XItem):Nat:=(iH x.key).length+(kY x.rcd).length
theorem nh (x:XItem):uY x≤110:=by have:=sv x.key;have:=uB x.rcd;unfold uY;omega
def mA (s:XStore):Nat:=ja uY s.items
theorem rj {s:XStore}(h:s.Ok 1048576):ag Ph aC 197 [s.v]=some (ai .i64 (mA s:Nat)):=by
 refine aa (fn:=nK) rfl ?_
 simp +contextual (maxSteps:=9999999) [nK]
 refine aL bG Cl.fin [.f,.f,.f,.t,.f,.f,.f,.t,.t,.t,.f,.f,.f,.f,.f,.f,.f,.f,.f,.f,.f,.f,.f,.f,.f,.f] (fun k=>[(3,ai .i64 (ja uY (s.items.take k):Nat)),(9,ai .i64 k)]) s.items.length (fun _=>false) rfl (by simp[ja]) (fun k hk _=> ?_) (fun _ _=> ?_)
 ·have hx:=XItem.e.eq_1 s.items[k]
  have hi:=XItem.Ok.mono (B:=maxLen) (by unfold maxLen;omega) (h.2.1.2 _ (List.getElem_mem hk))
  have e1:=jT hi.1
  have e2:=km hi.2
  have l1:=sv s.items[k].key
  have l2:=uB s.items[k].rcd
  have l3:=sd nh (s.items.take k)
  have l4:(s.items.take k).length≤1048576:=by rw[List.length_take];have:=h.2.1.1;omega
  have ht:ja uY (s.items.take (k+1))=ja uY (s.items.take k)+((iH s.items[k].key).length+(kY s.items[k].rcd).length):=oP hk
  rw[ht]
  generalize ja uY (s.items.take k)=A at l3⊢
  have g:=qB s.items[k].rcd
  generalize t8 s.items[k].rcd=W at e2 g
  have q1:(ae (iH s.items[k].key)).length=(iH s.items[k].key).length:=al
  have q2:(ae (kY s.items[k].rcd)).length=(kY s.items[k].rcd).length:=al
  generalize (iH s.items[k].key).length=a at l1 q1⊢
  generalize (kY s.items[k].rcd).length=b at l2 q2⊢
  have w1:IntKind.i64.wrap ((a:Int)+(b:Int))=(a:Int)+(b:Int):=by rw[IntKind.wrap_i64];omega
  have w2:IntKind.i64.wrap ((A:Int)+((a:Int)+(b:Int)))=(A:Int)+((a:Int)+(b:Int)):=by rw[IntKind.wrap_i64];omega
  have w3:IntKind.i64.wrap ((A:Int)+(a:Int))=(A:Int)+(a:Int):=by rw[IntKind.wrap_i64];omega
  have w4:IntKind.i64.wrap ((A:Int)+(a:Int)+(b:Int))=(A:Int)+((a:Int)+(b:Int)):=by rw[IntKind.wrap_i64];omega
  simp(maxSteps:=9999999) [ji,hk,hx,e1,e2,GL, ↓g,q1,q2,w1,w2,w3,w4,aU (n:=s.items.length) (by have:=h.2.1.1;unfold maxLen;omega) hk,a8 hk,-cZ]
 ·rw[List.take_length]
  simp(maxSteps:=9999999) [ji,mA]
theorem rq {s:XStore}(h:s.Ok 1048576):ag Ph aC 194 [s.v]=some (ai .i64 (mA s:Nat)):=by
 refine aa (fn:=nS) rfl ?_
 simp +contextual (maxSteps:=9999999) [nS]
 refine aL bG Cl.fin [.f,.t,.f,.t,.t,.f,.f,.f,.f,.f,.f,.f,.f,.f,.f,.f,.f,.f,.f,.f,.f,.f,.f,.f,.f,.f,.f,.f,.f,.f,.f,.f] (fun k=>[(3,ai .i64 (ja uY (s.items.take k):Nat)),(4,ai .i64 k)]) s.items.length (fun _=>false) rfl (by simp[ja]) (fun k hk _=> ?_) (fun _ _=> ?_)
 ·have hx:=XItem.e.eq_1 s.items[k]
  have hi:=XItem.Ok.mono (B:=maxLen) (by unfold maxLen;omega) (h.2.1.2 _ (List.getElem_mem hk))
  have e1:=rp hi.1
  have e2:=oN hi.2
  have l1:=sv s.items[k].key
  have l2:=uB s.items[k].rcd
  have l3:=sd nh (s.items.take k)
  have l4:(s.items.take k).length≤1048576:=by rw[List.length_take];have:=h.2.1.1;omega
  have ht:ja uY (s.items.take (k+1))=ja uY (s.items.take k)+((iH s.items[k].key).length+(kY s.items[k].rcd).length):=oP hk
  rw[ht]
  generalize ja uY (s.items.take k)=A at l3⊢
  have g:=qB s.items[k].rcd
  generalize t8 s.items[k].rcd=W at e2 g
  have q1:(ae (iH s.items[k].key)).length=(iH s.items[k].key).length:=al
  have q2:(ae (kY s.items[k].rcd)).length=(kY s.items[k].rcd).length:=al
  generalize (iH s.items[k].key).length=a at l1 q1⊢
  generalize (kY s.items[k].rcd).length=b at l2 q2⊢
  have w1:IntKind.i64.wrap ((a:Int)+(b:Int))=(a:Int)+(b:Int):=by rw[IntKind.wrap_i64];omega
  have w2:IntKind.i64.wrap ((A:Int)+((a:Int)+(b:Int)))=(A:Int)+((a:Int)+(b:Int)):=by rw[IntKind.wrap_i64];omega
  have w3:IntKind.i64.wrap ((A:Int)+(a:Int))=(A:Int)+(a:Int):=by rw[IntKind.wrap_i64];omega
  have w4:IntKind.i64.wrap ((A:Int)+(a:Int)+(b:Int))=(A:Int)+((a:Int)+(b:Int)):=by rw[IntKind.wrap_i64];omega
  simp(maxSteps:=9999999) [jo,hk,hx,e1,e2,GL, ↓g,q1,q2,w1,w2,w3,w4,aU (n:=s.items.length) (by have:=h.2.1.1;unfold maxLen;omega) hk,a8 hk,-cZ]
 ·rw[List.take_length]
  simp(maxSteps:=9999999) [jo,mA]
end Gi
