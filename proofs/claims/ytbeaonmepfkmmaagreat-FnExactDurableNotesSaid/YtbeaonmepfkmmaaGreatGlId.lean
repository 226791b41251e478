/- Of this proof. -/
import Derived.Test.YtbeaonmepfkmmaaGreatGoGd
import Derived.Test.YtbeaonmepfkmmaaGreatGoDd
import Derived.Test.YtbeaonmepfkmmaaGreatGkdd
set_option linter.unusedSimpArgs false
set_option linter.unusedVariables false
namespace Gi
open Go Go.RowKit
set_option maxHeartbeats 8000000
set_option maxRecDepth 4000
attribute [local simp] start pa a9 b6 cP dS cO dR d5 dZ pR p5 pS p6 pT p7 pU p8 pV p9 pW qa pX qb pY qc pZ qd V.cells plain bf fO isInt isStr isBool bin bN gA bO gB dV un asList L.view av V.view viewL aR aw bS bq bE comp aK bv cL bK bj bh bi aB aq aH am az aW ap aY bH aI bm bo V.flat L.flat cX cN br putAt thaw thawL thawT V.ow dY cR cS bQ dX bR cQ freezeVs freezeLs freezeL V.mut L.mut aJ cy fQ aX bu aP dN co bG cJ L.ren aM dd bP dq bF bB wp_seq wp_block aV cV bT bt bU wp_skip wp_exit wp_ret ce b9 ct cf cF cG cE bJ aL L.notArr bA bw bz cT b8 storeD aT eS bc bZ aU mf L.mov L.closed V.closed PV.bare PV.flat
theorem LY (b:List UInt8):(sx b).1.Ok maxLen:=by
 have z:(⟨0,0,[]⟩:XKey).Ok maxLen:=⟨by simp[iy],by simp[iy],by simp⟩
 unfold sx
 split
 ·exact z
 ·split
  ·rename_i k _ h
   obtain⟨h1,h2,h3,h4,_,h6⟩:=oh h
   exact⟨by simp only[iy];omega,by simp only[iy];omega,by unfold maxLen;simp only;omega⟩
  ·exact z
theorem LZ (b:List UInt8):(tP b).1.Ok maxLen:=by
 have z:(⟨[]⟩:XRecord).Ok maxLen:=⟨by simp,fun f h=>by simp at h⟩
 unfold tP
 split
 ·exact z
 ·split
  ·rename_i r k _ h
   obtain⟨h1,h2⟩:=mP h.2
   refine⟨by unfold maxLen;simp only;omega,fun f m=> ?_⟩
   obtain⟨q1,q2,q3⟩:=h2 f m
   exact⟨by unfold maxLen;omega,by unfold iy;omega⟩
  ·exact z
theorem A0 {m:Nat×Nat×Nat×Nat}{b:List UInt8}{r:Raw}{k:Nat}(h:sh m b=some (r,k)):0<k∧k≤b.length∧r.kind≤1000000000000∧r.a.length≤m.1∧r.d.length≤m.2.2.2:=by
 unfold sh at h
 split at h
 ·cases h
 ·rename_i n k0 e0
  split at h
  ·cases h
  ·rename_i p k1 e1
   split at h
   ·cases h
   ·rename_i q k2 e2
    split at h
    ·cases h
    ·rename_i u k3 e3
     split at h
     ·cases h
     ·rename_i s k4 e4
      simp only[Option.some.injEq,Prod.mk.injEq]at h
      obtain⟨rfl,rfl⟩:=h
      have g0:=kC e0
      have g1:=jk (eH e1).1
      have g2:=jk (eH e2).1
      have g3:=jk (eH e3).1
      have g4:=jk (eH e4).1
      simp only[List.length_drop]at g1 g2 g3 g4
      exact⟨by omega,by omega,g0.2.2,(eH e1).2,(eH e4).2⟩
theorem RZ {b:List UInt8}{r:Raw}{k:Nat}(h:sh mO b=some (r,k)):(jP r).Ok maxLen:=by
 obtain⟨_,_,h1,h2,h3⟩:=A0 h
 simp only at h2 h3
 exact⟨by simp only[jP,iy];omega,by unfold maxLen;simp only[jP];omega,LY _,LZ _,by unfold maxLen;simp only[jP];omega⟩
def yL (m:Nat×Nat×Nat×Nat)(s:List UInt8)(n:Nat)(a:Nat×List XOp):Option (Nat×List XOp):=if a.2.length<n then(match sh m (s.drop a.1)with
 |none=>none
 |some (r,k)=>some (a.1+k,a.2++[jP r]))else none
def Tw (m:Nat×Nat×Nat×Nat)(s:List UInt8)(n a0:Nat)(a:Nat×List XOp):Prop:=a.1≤s.length∧a0≤a.1∧a.2.length≤n∧(lQ m n (s.drop a0)).map (·.map jP)=(lQ m (n-a.2.length) (s.drop a.1)).map fun l=>a.2++l.map jP
theorem Sx {m:Nat×Nat×Nat×Nat}{s:List UInt8}{n a0:Nat}(h:a0≤s.length):Tw m s n a0 (a0,[]):=⟨h,Nat.le_refl _,Nat.zero_le _,by
 show _=Option.map _ (lQ m n (s.drop a0))
 cases lQ m n (s.drop a0)<;>simp⟩
theorem I6 {m:Nat×Nat×Nat×Nat}{s:List UInt8}{n a0:Nat}{a b:Nat×List XOp}(ia:Tw m s n a0 a)(h:yL m s n a=some b):∃r k,a.2.length<n∧sh m (s.drop a.1)=some (r,k)∧b=(a.1+k,a.2++[jP r])∧s.length-b.1<s.length-a.1∧Tw m s n a0 b:=by
 obtain⟨h1,h2,h3,h4⟩:=ia
 unfold yL at h
 split at h
 ·rename_i hn
  split at h
  ·cases h
  ·rename_i r k e1
   cases h
   have q1:=A0 e1
   simp only[List.length_drop]at q1
   refine⟨r,k,hn,e1,rfl,by simp only;omega,by simp only;omega,by simp only;omega,by simp only[List.length_append,List.length_singleton];omega,?_⟩
   obtain⟨j,hj⟩:∃j,n-a.2.length=j+1:=⟨n-a.2.length-1,by omega⟩
   have hj2:n-(a.2++[jP r]).length=j:=by simp only[List.length_append,List.length_singleton];omega
   rw[h4,hj,hj2]
   simp only[lQ,e1,List.drop_drop]
   cases lQ m j (s.drop (a.1+k))with
   |none=>rfl
   |some p=>simp
 ·cases h
theorem MF {m:Nat×Nat×Nat×Nat}{s:List UInt8}{n a0:Nat}{a:Nat×List XOp}(ia:Tw m s n a0 a)(h:yL m s n a=none):
 (a.2.length=n∧(lQ m n (s.drop a0)).map (·.map jP)=some a.2)∨(a.2.length<n∧lQ m n (s.drop a0)=none∧sh m (s.drop a.1)=none):=by
 obtain⟨h1,h2,h3,h4⟩:=ia
 unfold yL at h
 split at h
 ·rename_i hn
  obtain⟨j,hj⟩:∃j,n-a.2.length=j+1:=⟨n-a.2.length-1,by omega⟩
  rw[hj]at h4
  split at h
  ·rename_i e1
   refine .inr ⟨hn,?_,e1⟩
   simp only[lQ,e1,Option.map_none,Option.map_eq_none_iff]at h4
   exact h4
  ·cases h
 ·have hn:a.2.length=n:=by omega
  refine .inl ⟨hn,?_⟩
  rw[h4,show n-a.2.length=0 by omega]
  simp[lQ]
theorem MK {m:Nat×Nat×Nat×Nat}{b:List UInt8}{n k:Nat}{l:List XOp}(h:qS b=some (n,k))(hn:n≤6)(hf:(lQ m n (b.drop k)).map (·.map jP)=some l):jA m b=some l:=by
 unfold jA;rw[h];simp only[if_pos hn]
 cases e:lQ m n (b.drop k)with
 |none=>rw[e]at hf;cases hf
 |some p=>rw[e]at hf;exact hf
theorem MJ {m:Nat×Nat×Nat×Nat}{b:List UInt8}{n k:Nat}(h:qS b=some (n,k))(hf:lQ m n (b.drop k)=none):jA m b=none:=by unfold jA;rw[h];simp only[hf];split<;>rfl
theorem MI {m:Nat×Nat×Nat×Nat}{b:List UInt8}{n k:Nat}(h:qS b=some (n,k))(hn:¬n≤6):jA m b=none:=by unfold jA;rw[h];simp only[if_neg hn]
def mi (p:List XOp×Bool):V:= .tup [(false,[bif p.2 then .pv (.lst (p.1.map XOp.e))else .own 7 []]),(false,[.pv (.bool p.2)])]
theorem xy {m:Nat×Nat×Nat×Nat}{b:List UInt8}(h:jA m b=none):jK m b=([],false):=by unfold jK;rw[h]
theorem PC {m:Nat×Nat×Nat×Nat}{b:List UInt8}{l:List XOp}(h:jA m b=some l):jK m b=if jX l==b then(l,true)else([],false):=by
 unfold jK;rw[h]
 by_cases c:jX l=b<;>simp[c]
theorem py {b:List UInt8}(hl:b.length≤1048576):ah Ph aN 560 [aQ (ag b)]=some (mi (jK mO b)):=by
 have e1:ah Ph aN 573 [aQ (ag b),aa .i64 0]=some (qE b 0):=dx hl (a:=0) (by omega)
 cases e:qS b with
 |none=>
  rw[xy (by unfold jA;rw[e])]
  simp only[qE,e]at e1
  refine ae (fn:=fi) rfl ?_
  simp(maxSteps:=9999999) [fi,e1,mi]
 |some p=>
  obtain⟨n,k⟩:=p
  simp only[qE,e,Nat.zero_add]at e1
  obtain⟨k1,k2,k3⟩:=kC e
  have b1:bX 6 (n:Int)=decide (6<n):=decide_eq_decide.2 (by omega)
  by_cases hn:n≤6
  rotate_left
  ·have d1:6<n:=by omega
   rw[xy (MI e hn)]
   refine ae (fn:=fi) rfl ?_
   simp(maxSteps:=9999999) [fi,e1,b1,d1,mi]
  have d1:¬6<n:=by omega
  refine ae (fn:=fi) rfl ?_
  simp(maxSteps:=9999999) [fi,e1,b1,d1]
  refine nK cC Cl.fin [.t,.f,.f,.f,.t,.t,.f,.t,.t,.f,.f,.f,.f,.f,.f,.f,.f,.f,.f,.f,.f,.f,.f,.f,.f,.f,.f,.f,.f,.f,.f,.f,.f,.f,.f,.f,.f,.f,.f,.f,.f,.f,.f,.f,.f,.f,.f,.f,.f,.f,.f,.f,.f] (fun a=>[(5,aa .i64 (a.1:Nat)),(7, .one (.arr 0)),(8,aa .i64 (a.2.length:Nat))]) (fun a=>[.arr 7 (a.2.map XOp.e)]) (yL mO b n) (fun a=>b.length-a.1) (fun a=>Tw mO b n k a∧∀o∈a.2,o.Ok maxLen) (k,[]) ⟨Sx k2,fun o h=>by simp at h⟩ rfl (by simp) (fun a a' ia ha=> ?_) (fun a ia ha=> ?_)
  ·obtain⟨a,l⟩:=a
   obtain⟨ia,iok⟩:=ia
   obtain⟨r,kk,q0,q1,rfl,q6,q7⟩:=I6 ia ha
   refine⟨q6,⟨q7,fun o m=> ?_⟩,?_⟩
   ·rcases List.mem_append.1 m with m|m
    ·exact iok o m
    ·rw[List.mem_singleton.1 m];exact RZ q1
   have h1:=ia.1
   simp only at h1 q0 q1⊢
   have r1:=s7 hl h1
   unfold Oh at r1
   rw[q1]at r1
   simp only[Ug]at r1
   have c1:bX (l.length:Int) (n:Int)=true:=dW (by omega)
   have w1:IntKind.i64.wrap ((l.length:Int)+1)=(l.length:Int)+1:=by rw[IntKind.wrap_i64];omega
   have m1:=iz (m:=l.length+1) (z:=96) (by omega) (by omega)
   have hl2:(l++[jP r]).length=l.length+1:=by simp
   have hm:(l++[jP r]).map XOp.e=l.map XOp.e++[(jP r).e]:=by simp
   rw[hl2,hm,vx (jP r)]
   have hW:(l.map XOp.e).length=l.length:=by simp
   generalize l.map XOp.e=W at*
   generalize jP r=o at*
   simp(maxSteps:=9999999) [gl,r1,c1,w1,m1,hW, ↓aI, ↓aq, ↓az, ↓aB, ↓am, ↓aH, ↓ap,-cy]
   exact Kn.of [3] (by decide) (by simp) (by simp)
  ·obtain⟨a,l⟩:=a
   obtain⟨ia,iok⟩:=ia
   have h1:=ia.1
   simp only at h1 iok⊢
   have c1:bX (l.length:Int) (n:Int)=decide (l.length<n):=decide_eq_decide.2 (by omega)
   rcases MF ia ha with⟨g1,g2⟩|⟨g1,g2,g3⟩
   ·simp only at g1 g2
    have c2:¬l.length<n:=by omega
    rw[PC (MK e hn g2)]
    have e4:=wV (by omega) iok
    have e5:=vn (a:=jX l) (b:=b)
    have e6:=C5 l
    generalize zg l=ev at*
    generalize (jX l==b)=q at*
    generalize jX l=en at*
    cases q<;>simp(maxSteps:=9999999) [gl,c1,c2,g1,e4,e5, ↓e6,mi]
   ·simp only at g1 g2 g3
    rw[xy (MJ e g2)]
    have r1:=s7 hl h1
    rw[yz g3]at r1
    simp(maxSteps:=9999999) [gl,c1,g1,r1,mi]
theorem Qn {m:Nat×Nat×Nat×Nat}{b:List UInt8}{r:Raw}{k:Nat}(hm:m.1≤1048576∧m.2.2.2≤1048576)(h:sh m b=some (r,k)):(jP r).Ok maxLen:=by
 obtain⟨_,_,h1,h2,h3⟩:=A0 h
 exact⟨by simp only[jP,iy];omega,by unfold maxLen;simp only[jP];omega,LY _,LZ _,by unfold maxLen;simp only[jP];omega⟩
theorem NK (l:List XOp):(jX l).length≤5000:=by
 have key:∀l:List XOp,(∀o∈l,ji o=true)→(l.flatMap qY).length≤l.length*830:=by
  intro l
  induction l with
  |nil=>intro _;simp
  |cons o l ih=>
   intro h
   have h1:=Bu (h o (by simp))
   have h2:=ih fun x m=>h x (by simp[m])
   simp only[List.flatMap_cons,List.length_append,List.length_cons,Nat.add_mul]
   omega
 unfold jX
 split
 ·rename_i h
  unfold vB at h
  simp only[Bool.and_eq_true,List.all_eq_true,decide_eq_true_eq]at h
  have h1:=key l h.1
  have h2:=jn l.length
  rw[List.length_append]
  omega
 ·simp
theorem Jc {s:List UInt8}{a:Nat}(ha:a≤s.length)(L:Nat):∃(n y0 y1 y2 y3 y4:Nat)(z0 z1 z2 z3 z4:Bool)(x1 x2 x3 x4:List UInt8),
 qE (s.drop a) a=v3 n y0 z0∧y0≤s.length∧qR (s.drop y0) y0 L=bV x1 y1 z1∧y1≤s.length∧x1.length≤s.length∧qR (s.drop y1) y1 L=bV x2 y2 z2∧y2≤s.length∧x2.length≤s.length∧
 qR (s.drop y2) y2 L=bV x3 y3 z3∧y3≤s.length∧x3.length≤s.length∧qR (s.drop y3) y3 L=bV x4 y4 z4∧y4≤s.length∧x4.length≤s.length∧
 ((z0&&(z1&&(z2&&(z3&&z4))))=true→sh (L,L,L,L) (s.drop a)=some (⟨n,x1,x2,x3,x4⟩,y4-a)∧a≤y4)∧((z0&&(z1&&(z2&&(z3&&z4))))=false→sh (L,L,L,L) (s.drop a)=none):=by
 obtain⟨n,y0,z0,q0,h0,t0,f0⟩:=QA ha
 obtain⟨x1,y1,z1,q1,h1,l1,t1,f1⟩:=sR h0 L
 obtain⟨x2,y2,z2,q2,h2,l2,t2,f2⟩:=sR h1 L
 obtain⟨x3,y3,z3,q3,h3,l3,t3,f3⟩:=sR h2 L
 obtain⟨x4,y4,z4,q4,h4,l4,t4,f4⟩:=sR h3 L
 refine⟨n,y0,y1,y2,y3,y4,z0,z1,z2,z3,z4,x1,x2,x3,x4,q0,h0,q1,h1,l1,q2,h2,l2,q3,h3,l3,q4,h4,l4,fun hz=> ?_,fun hz=> ?_⟩
 ·simp only[Bool.and_eq_true]at hz
  obtain⟨c0,c1,c2,c3,c4⟩:=hz
  obtain⟨g0,g0'⟩:=t0 c0
  obtain⟨g1,g1'⟩:=t1 c1
  obtain⟨g2,g2'⟩:=t2 c2
  obtain⟨g3,g3'⟩:=t3 c3
  obtain⟨g4,g4'⟩:=t4 c4
  refine⟨?_,by omega⟩
  unfold sh;rw[g0];simp only[List.drop_drop,show a+(y0-a)=y0 by omega,g1,show a+(y0-a+(y1-y0))=y1 by omega,g2,show a+(y0-a+(y1-y0)+(y2-y1))=y2 by omega,g3,show a+(y0-a+(y1-y0)+(y2-y1)+(y3-y2))=y3 by omega,g4];congr 2;omega
 ·cases c0:z0 with
  |false=>unfold sh;rw[f0 c0]
  |true=>
   obtain⟨g0,g0'⟩:=t0 c0
   cases c1:z1 with
   |false=>unfold sh;rw[g0];simp only[List.drop_drop,show a+(y0-a)=y0 by omega,f1 c1]
   |true=>
    obtain⟨g1,g1'⟩:=t1 c1
    cases c2:z2 with
    |false=>unfold sh;rw[g0];simp only[List.drop_drop,show a+(y0-a)=y0 by omega,g1,show a+(y0-a+(y1-y0))=y1 by omega,f2 c2]
    |true=>
     obtain⟨g2,g2'⟩:=t2 c2
     cases c3:z3 with
     |false=>unfold sh;rw[g0];simp only[List.drop_drop,show a+(y0-a)=y0 by omega,g1,show a+(y0-a+(y1-y0))=y1 by omega,g2,show a+(y0-a+(y1-y0)+(y2-y1))=y2 by omega,f3 c3]
     |true=>
      obtain⟨g3,g3'⟩:=t3 c3
      cases c4:z4 with
      |false=>unfold sh;rw[g0];simp only[List.drop_drop,show a+(y0-a)=y0 by omega,g1,show a+(y0-a+(y1-y0))=y1 by omega,g2,show a+(y0-a+(y1-y0)+(y2-y1))=y2 by omega,g3,show a+(y0-a+(y1-y0)+(y2-y1)+(y3-y2))=y3 by omega,f4 c4]
      |true=>rw[c0,c1,c2,c3,c4]at hz;cases hz
theorem pw {b:List UInt8}(hl:b.length≤1048576):ah Ph aN 563 [aQ (ag b)]=some (mi (jK mO b)):=by
 rw[←Rl (m:=(b.length,b.length,b.length,b.length)) (Nat.le_refl _) (Nat.le_refl _) (Nat.le_refl _) (Nat.le_refl _)]
 have e1:ah Ph aN 579 [aQ (ag b),aa .i64 0]=some (qE b 0):=cH hl (a:=0) (by omega)
 cases e:qS b with
 |none=>
  rw[xy (by unfold jA;rw[e])]
  simp only[qE,e]at e1
  refine ae (fn:=fh) rfl ?_
  simp(maxSteps:=600000) [fh,e1,mi]
 |some p=>
  obtain⟨n,k⟩:=p
  simp only[qE,e,Nat.zero_add]at e1
  obtain⟨k1,k2,k3⟩:=kC e
  have b1:bX 6 (n:Int)=decide (6<n):=decide_eq_decide.2 (by omega)
  by_cases hn:n≤6
  rotate_left
  ·have d1:6<n:=by omega
   rw[xy (MI e hn)]
   refine ae (fn:=fh) rfl ?_
   simp(maxSteps:=600000) [fh,e1,b1,d1,mi]
  have d1:¬6<n:=by omega
  refine ae (fn:=fh) rfl ?_
  simp(maxSteps:=600000) [fh,e1,b1,d1]
  refine nK cC Cl.fin [.t,.f,.f,.f,.t,.t,.f,.t,.t,.f,.f,.f,.f,.f,.f,.f,.f,.f,.f,.f,.f,.f,.f,.f,.f,.f,.f,.f,.f,.f,.f,.f,.f,.f,.f,.f,.f,.f,.f,.f,.f,.f,.f,.f,.f,.f,.f,.f,.f,.f,.f,.f,.f,.f,.f,.f,.f,.f,.f,.f,.f,.f,.f,.f,.f,.f,.f,.f,.f,.f,.f,.f,.f,.f,.f,.f,.f,.f,.f,.f,.f,.f,.f,.f,.f,.f,.f,.f,.f,.f,.f,.f,.f] (fun a=>[(5,aa .i64 (a.1:Nat)),(7, .one (.arr 0)),(8,aa .i64 (a.2.length:Nat))]) (fun a=>[.arr 7 (a.2.map XOp.e)]) (yL (b.length,b.length,b.length,b.length) b n) (fun a=>b.length-a.1) (fun a=>Tw (b.length,b.length,b.length,b.length) b n k a∧∀o∈a.2,o.Ok maxLen) (k,[]) ⟨Sx k2,fun o h=>by simp at h⟩ rfl (by simp) (fun a a' ia ha=> ?_) (fun a ia ha=> ?_)
  ·obtain⟨a,l⟩:=a
   obtain⟨ia,iok⟩:=ia
   obtain⟨r,kk,q0,q1,rfl,q6,q7⟩:=I6 ia ha
   refine⟨q6,⟨q7,fun o m=> ?_⟩,?_⟩
   ·rcases List.mem_append.1 m with m|m
    ·exact iok o m
    ·rw[List.mem_singleton.1 m];exact Qn ⟨hl,hl⟩ q1
   have h1:=ia.1
   simp only at h1 q0 q1⊢
   have r0:=cH hl (a:=a) (by omega)
   obtain⟨n0,y0,y1,y2,y3,y4,z0,z1,z2,z3,z4,x1,x2,x3,x4,p0,l0,p1,l1,w1,p2,l2,w2,p3,l3,w3,p4,l4,w4,hT,hF⟩:=Jc h1 b.length
   cases hz:(z0&&(z1&&(z2&&(z3&&z4))))
   ·rw[hF hz]at q1;cases q1
   obtain⟨g1,g2⟩:=hT hz
   rw[g1]at q1
   cases q1
   simp only[Bool.and_eq_true]at hz
   obtain⟨rfl,rfl,rfl,rfl,rfl⟩:=hz
   have r1:=cu hl l0 hl
   have r2:=cu hl l1 hl
   have r3:=cu hl l2 hl
   have r4:=cu hl l3 hl
   rw[p0]at r0
   rw[p1]at r1
   rw[p2]at r2
   rw[p3]at r3
   rw[p4]at r4
   have k1:=wq (b:=x2) (by omega)
   have k2:=sH (b:=x3) (by omega)
   have c1:bX (l.length:Int) (n:Int)=true:=dW (by omega)
   have w1:IntKind.i64.wrap ((l.length:Int)+1)=(l.length:Int)+1:=by rw[IntKind.wrap_i64];omega
   have m1:=iz (m:=l.length+1) (z:=96) (by omega) (by omega)
   have hl2:(l++[jP ⟨n0,x1,x2,x3,x4⟩]).length=l.length+1:=by simp
   have hm:(l++[jP ⟨n0,x1,x2,x3,x4⟩]).map XOp.e=l.map XOp.e++[(jP ⟨n0,x1,x2,x3,x4⟩).e]:=by simp
   have hy:((a+(y4-a):Nat):Int)=(y4:Int):=by omega
   rw[hl2,hm,hy,vx (jP ⟨n0,x1,x2,x3,x4⟩)]
   have hW:(l.map XOp.e).length=l.length:=by simp
   generalize l.map XOp.e=W at*
   simp only[jP]
   generalize sx x2=dk at*
   generalize tP x3=dr at*
   simp only[rZ]at k1
   simp only[qq]at k2
   have lt:bX 0 4=true∧bX 1 4=true∧bX 2 4=true∧bX 3 4=true∧bX 4 4=false:=⟨rfl,rfl,rfl,rfl,rfl⟩
   clear hT hF p0 p1 p2 p3 p4 g1 ia q0 q6 q7 ha iok e
   simp(maxSteps:=600000) [dg,df,iU,lt,ma,pB,r0,r1,r2,r3,r4,k1,k2,c1,w1,m1,hW,aj,fg, ↓aI, ↓aq, ↓az, ↓aB, ↓am, ↓aH, ↓ap,-cy]
   exact Kn.of [4] (by decide) (by simp) (by simp)
  ·obtain⟨a,l⟩:=a
   obtain⟨ia,iok⟩:=ia
   have h1:=ia.1
   simp only at h1 iok⊢
   have c1:bX (l.length:Int) (n:Int)=decide (l.length<n):=decide_eq_decide.2 (by omega)
   rcases MF ia ha with⟨g1,g2⟩|⟨g1,g2,g3⟩
   ·simp only at g1 g2
    have c2:¬l.length<n:=by omega
    rw[PC (MK e hn g2)]
    have e4:=wu (l:=l) (by unfold maxLen;omega) iok
    have e5:=iN (a:=jX l) (b:=b) (by have:=NK l;unfold maxLen;omega)
    have e6:=C5 l
    generalize zg l=ev at*
    generalize (jX l==b)=q at*
    generalize jX l=en at*
    cases q<;>simp(maxSteps:=600000) [dg,c1,c2,g1,e4,e5, ↓e6,mi]
   ·simp only at g1 g2 g3
    rw[xy (MJ e g2)]
    have r0:=cH hl (a:=a) (by omega)
    obtain⟨n0,y0,y1,y2,y3,y4,z0,z1,z2,z3,z4,x1,x2,x3,x4,p0,l0,p1,l1,w1,p2,l2,w2,p3,l3,w3,p4,l4,w4,hT,hF⟩:=Jc h1 b.length
    have hz:(z0&&(z1&&(z2&&(z3&&z4))))=false:=by
     cases hz:(z0&&(z1&&(z2&&(z3&&z4))))
     ·rfl
     ·rw[(hT hz).1]at g3;cases g3
    have r1:=cu hl l0 hl
    have r2:=cu hl l1 hl
    have r3:=cu hl l2 hl
    have r4:=cu hl l3 hl
    rw[p0]at r0
    rw[p1]at r1
    rw[p2]at r2
    rw[p3]at r3
    rw[p4]at r4
    have lt:bX 0 4=true∧bX 1 4=true∧bX 2 4=true∧bX 3 4=true∧bX 4 4=false:=⟨rfl,rfl,rfl,rfl,rfl⟩
    clear hT hF p0 p1 p2 p3 p4 g2 g3 ia ha iok e
    cases z0
    ·simp(maxSteps:=600000) [dg,df,iU,lt,ma,pB,r0,c1,g1,aj,mi]
    cases z1
    ·simp(maxSteps:=600000) [dg,df,iU,lt,ma,pB,r0,r1,c1,g1,aj,mi]
    cases z2
    ·simp(maxSteps:=600000) [dg,df,iU,lt,ma,pB,r0,r1,r2,c1,g1,aj,mi]
    cases z3
    ·simp(maxSteps:=600000) [dg,df,iU,lt,ma,pB,r0,r1,r2,r3,c1,g1,aj,mi]
    cases z4
    ·simp(maxSteps:=600000) [dg,df,iU,lt,ma,pB,r0,r1,r2,r3,r4,c1,g1,aj,mi]
    ·cases hz
theorem Pz (b:List UInt8):(sx b).1.Ok 1048576:=by
 have z:(⟨0,0,[]⟩:XKey).Ok 1048576:=⟨by simp[iy],by simp[iy],by simp⟩
 unfold sx
 split
 ·exact z
 ·split
  ·rename_i k _ h
   obtain⟨h1,h2,h3,h4,_,h6⟩:=oh h
   exact⟨by simp only[iy];omega,by simp only[iy];omega,by simp only;omega⟩
  ·exact z
theorem PD (b:List UInt8):(tP b).1.Ok 1048576:=by
 have z:(⟨[]⟩:XRecord).Ok 1048576:=⟨by simp,fun f h=>by simp at h⟩
 unfold tP
 split
 ·exact z
 ·split
  ·rename_i r k _ h
   obtain⟨h1,h2⟩:=mP h.2
   refine⟨by simp only;omega,fun f m=> ?_⟩
   obtain⟨q1,q2,q3⟩:=h2 f m
   exact⟨by omega,by unfold iy;omega⟩
  ·exact z
theorem E5 {m:Nat×Nat×Nat×Nat}:∀(n:Nat)(b:List UInt8)(l:List Raw),lQ m n b=some l→∀r∈l,r.kind≤1000000000000
 |0,b,l,h=>by
  simp only[lQ,Option.some.injEq]at h
  subst h
  simp
 |n+1,b,l,h=>by
  unfold lQ at h
  split at h
  ·cases h
  ·rename_i r k e
   split at h
   ·cases h
   ·rename_i l' e2
    simp only[Option.some.injEq]at h
    subst h
    intro x q
    rcases List.mem_cons.1 q with rfl|q
    ·exact(A0 e).2.2.1
    ·exact E5 n _ _ e2 x q
theorem Bk (b:List UInt8):(∀o∈(jK mO b).1,o.Ok 1048576)∧(jK mO b).1.length≤maxLen:=by
 unfold jK jA
 cases e:qS b with
 |none=>exact⟨by simp,by simp⟩
 |some p=>
  obtain⟨n,k⟩:=p
  simp only
  by_cases hn:n≤6
  ·rw[if_pos hn]
   cases e2:lQ mO n (b.drop k)with
   |none=>exact⟨by simp,by simp⟩
   |some l=>
    simp only
    by_cases c:jX (l.map jP)=b
    ·rw[if_pos c]
     obtain⟨g1,g2,_⟩:=wL _ _ _ e2
     have g3:=E5 _ _ _ e2
     refine⟨fun o ho=> ?_,by simp only[List.length_map];unfold maxLen;omega⟩
     obtain⟨r,hr,rfl⟩:=List.mem_map.1 ho
     obtain⟨f1,f2,f3,f4⟩:=g2 r hr
     have:=g3 r hr
     simp only at f1 f4
     exact⟨by simp only[jP,iy];omega,by simp only[jP];omega,Pz _,PD _,by simp only[jP];omega⟩
    ·rw[if_neg c];exact⟨by simp,by simp⟩
  ·rw[if_neg hn];exact⟨by simp,by simp⟩
def sO :List (List UInt8)→XDatabase→XDatabase
 |[],d=>d
 |b::L,d=>bif (jK mO b).2 then sO L (GP d (jK mO b).1).1 else d
def GG :List (List UInt8)→Nat→Nat
 |[],n=>n
 |b::L,n=>bif (jK mO b).2 then GG L (n+1)else n
def vd (L:List (List UInt8))(a:Nat×XDatabase):Option (Nat×XDatabase):=match L[a.1]? with
 |some b=>bif (jK mO b).2 then some (a.1+1,(GP a.2 (jK mO b).1).1)else none
 |none=>none
def Tv (L:List (List UInt8))(d:XDatabase)(a:Nat×XDatabase):Prop:=a.1≤L.length∧sO L d=sO (L.drop a.1) a.2∧GG L 0=GG (L.drop a.1) a.1
theorem Sw (L:List (List UInt8))(d:XDatabase):Tv L d (0,d):=⟨Nat.zero_le _,rfl,rfl⟩
theorem I5 {L:List (List UInt8)}{d:XDatabase}{k:Nat}{dk:XDatabase}{b:Nat×XDatabase}(ia:Tv L d (k,dk))(h:vd L (k,dk)=some b):
 ∃hk:k<L.length,(jK mO L[k]).2=true∧b=(k+1,(GP dk (jK mO L[k]).1).1)∧L.length-b.1<L.length-k∧Tv L d b:=by
 obtain⟨h1,h2,h3⟩:=ia
 simp only at h1 h2 h3
 by_cases hk:k<L.length
 ·unfold vd at h
  simp only[List.getElem?_eq_getElem hk]at h
  cases q:(jK mO L[k]).2<;>rw[q]at h<;>simp only[cond_true,cond_false]at h
  ·cases h
  ·cases h
   rw[List.drop_eq_getElem_cons hk]at h2 h3
   simp only[sO,GG,q,cond_true]at h2 h3
   exact⟨hk,q,rfl,by simp only;omega,by simp only;omega,h2,h3⟩
 ·unfold vd at h
  simp only[List.getElem?_eq_none (Nat.not_lt.1 hk)]at h
  cases h
theorem ME {L:List (List UInt8)}{d:XDatabase}{k:Nat}{dk:XDatabase}(ia:Tv L d (k,dk))(h:vd L (k,dk)=none):
 (k=L.length∧sO L d=dk∧GG L 0=L.length)∨∃hk:k<L.length,(jK mO L[k]).2=false∧sO L d=dk∧GG L 0=k:=by
 obtain⟨h1,h2,h3⟩:=ia
 simp only at h1 h2 h3
 by_cases hk:k<L.length
 ·unfold vd at h
  simp only[List.getElem?_eq_getElem hk]at h
  cases q:(jK mO L[k]).2<;>rw[q]at h<;>simp only[cond_true,cond_false]at h
  ·rw[List.drop_eq_getElem_cons hk]at h2 h3
   simp only[sO,GG,q,cond_false]at h2 h3
   exact .inr ⟨hk,q,h2,h3⟩
  ·cases h
 ·obtain rfl:k=L.length:=by omega
  rw[List.drop_length]at h2 h3
  exact .inl ⟨rfl,h2,h3⟩
theorem AY :∀(L:List (List UInt8)){d:XDatabase},d.Ok 1048576→(sO L d).Ok 1048576
 |[],_,h=>h
 |b::L,d,h=>by
  simp only[sO]
  cases(jK mO b).2<;>simp only[cond_true,cond_false]
  ·exact h
  ·exact AY L (Le (by omega) h (Bk b).1)
theorem yv {k:XDisk}(h:k.Ok 1048576):ah Ph aN 548 [k.v]=some (.tup [(true,zR (sO (oO k.log).2 k.base)),(false,[.pv (.int .i64 (GG (oO k.log).2 0:Nat))])]):=by
 obtain⟨hb,hlog,hcnt⟩:=h
 have e1:=jy (Nat.le_refl 1048576) hb
 have e2:=wR k.base
 have e3:=AE hlog
 obtain⟨v1,v2,v3⟩:=Ms k.log
 unfold Oq at e3
 simp only[zR]at e2⊢
 generalize hL:(oO k.log).2=L at*
 generalize (oO k.log).1=lend at*
 generalize V.agg [.pv (.str k.base.name), .pv (.int .i64 k.base.version),nd 3 (k.base.stores.map XStore.e), .down 2 (k.base.unique.map XIndexDef.e)]=nv at*
 have hLm:L.length≤maxLen:=by unfold maxLen;omega
 refine ae (fn:=nx) rfl ?_
 simp(maxSteps:=600000) [nx,e1, ↓e2,e3, ↓az, ↓aq, ↓aB, ↓am, ↓aH, ↓ap]
 refine nK cC Cl.fin [.f,.f,.t,.f,.t,.t,.f,.f,.f,.f,.f,.f,.f,.f,.f,.f,.f,.f,.f,.f,.t,.t,.t,.f,.f,.f,.f,.f,.f,.f,.f,.f,.f,.f,.f,.f,.f,.f,.f,.f,.f,.f,.f,.f,.f,.f,.f] (fun a=>[(22,aa .i64 (a.1:Nat))]) (fun a=>[.box [.pv (.str k.base.name), .pv (.int .i64 k.base.version), .pv (.lst (k.base.stores.map XStore.e)), .pv (.lst (k.base.unique.map XIndexDef.e)), .pv (.lst (ag k.log)), .pv (.int .i64 k.count)], .box [.pv (.str []), .pv (.int .i64 0), .nil, .nil], .box [.pv (.str a.2.name), .pv (.int .i64 a.2.version),kI (a.2.stores.map XStore.e), .pv (.lst (a.2.unique.map XIndexDef.e))]]) (vd L) (fun a=>L.length-a.1) (fun a=>Tv L k.base a∧a.2.Ok 1048576) (0,k.base) ⟨Sw L k.base,hb⟩ rfl ?_ (fun a a' ia ha=> ?_) (fun a ia ha=> ?_)
 ·exact Kn.of [0,1,2] (by decide) (by simp[↓aW]) (by simp)
 ·obtain⟨j,dk⟩:=a
  obtain⟨ia,iok⟩:=ia
  obtain⟨hk,q1,rfl,q2,q3⟩:=I5 ia ha
  simp only at iok q1 hk⊢
  have hd:=Bk L[j]
  refine⟨q2,⟨q3,Le (by omega) iok hd.1⟩,?_⟩
  have e5:=pw (b:=L[j]) (by have:=v3 _ (List.getElem_mem hk);omega)
  have e6:=Cr (by omega) (Nat.le_refl 1048576) iok hd.1 hd.2
  unfold mi at e5
  rw[q1]at e5
  simp only[cond_true]at e5
  simp only[Pe,zR]at e6
  generalize (GP dk (jK mO L[j]).1).1=d1 at*
  generalize (GP dk (jK mO L[j]).1).2.1=n1 at*
  generalize (GP dk (jK mO L[j]).1).2.2=b1 at*
  generalize (jK mO L[j]).1=ops at*
  have hx:FB L[j]=[.lst (ag L[j])]:=rfl
  have wk:=bW hLm hk
  have lk:=cB hk
  clear ia ha q1 q2 q3 hd v3
  simp(maxSteps:=600000) [gG,hk,hx,e5,e6,wk,lk, ↓aI, ↓az, ↓aq, ↓aB, ↓am, ↓aH, ↓ap,-cy]
  exact Kn.of [0,1,2] (by decide) (by simp[↓aW]) (by simp)
 ·obtain⟨j,dk⟩:=a
  obtain⟨ia,iok⟩:=ia
  simp only at iok⊢
  rcases ME ia ha with⟨hk,q1,q2⟩|⟨hk,q0,q1,q2⟩
  ·rw[q1,q2]
   subst hk
   have lk:bX (L.length:Int) (L.length:Int)=false:=fK (by omega)
   simp(maxSteps:=600000) [gG,lk, ↓aI, ↓az, ↓aq, ↓aB, ↓am, ↓aH, ↓ap]
  ·rw[q1,q2]
   have e5:=pw (b:=L[j]) (by have:=v3 _ (List.getElem_mem hk);omega)
   unfold mi at e5
   rw[q0]at e5
   simp only[cond_false]at e5
   have hx:FB L[j]=[.lst (ag L[j])]:=rfl
   have lk:=cB hk
   clear ia ha q0 q1 q2 v3
   simp(maxSteps:=600000) [gG,hk,hx,e5,lk, ↓aI, ↓az, ↓aq, ↓aB, ↓am, ↓aH, ↓ap]
theorem yS {k:XDisk}(h:k.Ok 1048576):ah Ph aN 547 [k.v]=some (.tup [(true,zR (sO (oO k.log).2 k.base)),(false,[.pv (.int .i64 (GG (oO k.log).2 0:Nat))])]):=by
 obtain⟨hb,hlog,hcnt⟩:=h
 have e1:=oW (Nat.le_refl 1048576) hb
 have e2:=wR k.base
 have e3:=AN hlog
 obtain⟨v1,v2,v3⟩:=Ms k.log
 unfold Oq at e3
 simp only[zR]at e2⊢
 generalize hL:(oO k.log).2=L at*
 generalize (oO k.log).1=lend at*
 generalize V.agg [.pv (.str k.base.name), .pv (.int .i64 k.base.version),nd 3 (k.base.stores.map XStore.e), .down 2 (k.base.unique.map XIndexDef.e)]=nv at*
 have hLm:L.length≤maxLen:=by unfold maxLen;omega
 refine ae (fn:=nE) rfl ?_
 simp(maxSteps:=600000) [nE,e1, ↓e2,e3, ↓az, ↓aq, ↓aB, ↓am, ↓aH, ↓ap]
 refine nK cC Cl.fin [.f,.f,.t,.f,.t,.t,.f,.t,.f,.f,.f,.f,.f,.f,.f,.f,.f,.f,.f,.f,.f,.f,.f,.f,.f,.f,.f,.f,.f,.f,.f,.f,.f,.f,.f,.f,.f,.f,.f,.f,.f,.f,.f,.f,.f,.f,.f,.f,.f,.f,.f] (fun a=>[(7,aa .i64 (a.1:Nat))]) (fun a=>[.box [.pv (.str k.base.name), .pv (.int .i64 k.base.version), .pv (.lst (k.base.stores.map XStore.e)), .pv (.lst (k.base.unique.map XIndexDef.e)), .pv (.lst (ag k.log)), .pv (.int .i64 k.count)], .box [.pv (.str []), .pv (.int .i64 0), .nil, .nil], .box [.pv (.str a.2.name), .pv (.int .i64 a.2.version),kI (a.2.stores.map XStore.e), .pv (.lst (a.2.unique.map XIndexDef.e))]]) (vd L) (fun a=>L.length-a.1) (fun a=>Tv L k.base a∧a.2.Ok 1048576) (0,k.base) ⟨Sw L k.base,hb⟩ rfl ?_ (fun a a' ia ha=> ?_) (fun a ia ha=> ?_)
 ·exact Kn.of [0,1,2] (by decide) (by simp[↓aW]) (by simp)
 ·obtain⟨j,dk⟩:=a
  obtain⟨ia,iok⟩:=ia
  obtain⟨hk,q1,rfl,q2,q3⟩:=I5 ia ha
  simp only at iok q1 hk⊢
  have hd:=Bk L[j]
  refine⟨q2,⟨q3,Le (by omega) iok hd.1⟩,?_⟩
  have e5:=py (b:=L[j]) (by have:=v3 _ (List.getElem_mem hk);omega)
  have e6:=C8 (by omega) (Nat.le_refl 1048576) iok hd.1 hd.2
  unfold mi at e5
  rw[q1]at e5
  simp only[cond_true]at e5
  simp only[Pe,zR]at e6
  generalize (GP dk (jK mO L[j]).1).1=d1 at*
  generalize (GP dk (jK mO L[j]).1).2.1=n1 at*
  generalize (GP dk (jK mO L[j]).1).2.2=b1 at*
  generalize (jK mO L[j]).1=ops at*
  have hx:FB L[j]=[.lst (ag L[j])]:=rfl
  have wk:=bW hLm hk
  have lk:=cB hk
  clear ia ha q1 q2 q3 hd v3
  simp(maxSteps:=600000) [gI,hk,hx,e5,e6,wk,lk, ↓aI, ↓az, ↓aq, ↓aB, ↓am, ↓aH, ↓ap,-cy]
  exact Kn.of [0,1,2] (by decide) (by simp[↓aW]) (by simp)
 ·obtain⟨j,dk⟩:=a
  obtain⟨ia,iok⟩:=ia
  simp only at iok⊢
  rcases ME ia ha with⟨hk,q1,q2⟩|⟨hk,q0,q1,q2⟩
  ·rw[q1,q2]
   subst hk
   have lk:bX (L.length:Int) (L.length:Int)=false:=fK (by omega)
   simp(maxSteps:=600000) [gI,lk, ↓aI, ↓az, ↓aq, ↓aB, ↓am, ↓aH, ↓ap]
  ·rw[q1,q2]
   have e5:=py (b:=L[j]) (by have:=v3 _ (List.getElem_mem hk);omega)
   unfold mi at e5
   rw[q0]at e5
   simp only[cond_false]at e5
   have hx:FB L[j]=[.lst (ag L[j])]:=rfl
   have lk:=cB hk
   clear ia ha q0 q1 q2 v3
   simp(maxSteps:=600000) [gI,hk,hx,e5,lk, ↓aI, ↓az, ↓aq, ↓aB, ↓am, ↓aH, ↓ap]
def FC :List L:=[.pv (.str []), .pv (.str []), .pv (.str []), .pv (.int .i64 0), .pv (.int .i64 0), .pv (.int .i64 0), .nil, .pv (.str []), .pv (.int .i64 0), .nil, .nil, .nil, .pv (.int .i64 0), .pv (.str []), .nil, .pv (.int .i64 0), .pv (.int .i64 0), .pv (.int .i64 0), .pv (.int .i64 0), .nil, .pv (.int .i64 0), .pv (.int .i64 0), .pv (.int .i64 0), .pv (.bool false)]
theorem yx {c0 c1 c2 c4 c5 c6 c7 c8 c9:PV}{bs:List XBucket}(h:bs.length≤maxLen)(s t:List UInt8):ah Ph aN 146 [.agg [.pv c0, .pv c1, .pv c2, .pv (.lst (bs.map XBucket.e)), .pv c4, .pv c5, .pv c6, .pv c7, .pv c8, .pv c9],dv s,dv t]=some (match bs.find? (KN s t)with
 |some x=> .tup [(true,x.e.map .pv),(false,[.pv (.bool true)])]
 |none=> .tup [(true,FC),(false,[.pv (.bool false)])]):=by
 have e1:=uV h s t
 have hff:(dE (KN s t) bs= -1∧bs.find? (KN s t)=none)∨∃j,∃hj:j<bs.length,dE (KN s t) bs=(j:Int)∧bs.find? (KN s t)=some bs[j]:=by
  unfold dE
  cases h:bs.findIdx? (KN s t)with
  |none=>exact .inl ⟨rfl,by rw[List.findIdx?_eq_none_iff]at h;rw[List.find?_eq_none];exact fun x hx=>by simp[h x hx]⟩
  |some i=>
   rw[List.findIdx?_eq_some_iff_getElem]at h
   obtain⟨h1,h2,h3⟩:=h
   exact .inr ⟨i,h1,rfl,by rw[List.find?_eq_some_iff_getElem];exact⟨h2,i,h1,rfl,fun j hj=>by simpa using h3 j hj⟩⟩
 refine ae (fn:=kw) rfl ?_
 rcases hff with⟨h1,h2⟩|⟨j,hj,h1,h2⟩<;>rw[h1]at e1<;>rw[h2]
 ·simp(maxSteps:=9999999) [kw,e1,FC,show bX (-1) 0=true from rfl]
 ·have hx:=XBucket.e.eq_1 bs[j]
  simp(maxSteps:=9999999) [kw,e1,hj,hx,show bX (j:Int) 0=false from fK (by omega)]
end Gi
