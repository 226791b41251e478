/- Of this proof. -/
import Derived.Test.YtbeaonmepfkmmaaGreatGlHv
import Derived.Test.YtbeaonmepfkmmaaGreatGkvv
import Derived.Test.YtbeaonmepfkmmaaGreatGoEv
set_option linter.unusedSimpArgs false
set_option linter.unusedVariables false
namespace Gi
open Go Go.RowKit
set_option maxHeartbeats 8000000
set_option maxRecDepth 4000
attribute [local simp] start nY bo cj cE dE cD dD dJ dI pa pp pd pq pe pt pf pw pg px ph py pj pz pk pA pm pB V.cells plain bi fT isInt isStr isBool bin bK fR bL fS dF un asList L.view az V.view viewL aS aA bO bg bJ comp aM bA cz bI bc a9 ba av aj aE ai au aQ aq aY bC aD bd bf V.flat L.flat cT cS bq putAt thaw thawL thawT V.ow dH cG cH bM dG bN cF freezeVs freezeLs freezeL V.mut L.mut aI bY fu aZ bB aP dL cf bE cy L.ren aO cX bR cZ bG bD wp_seq wp_block aT cJ bP bh bQ wp_skip wp_exit wp_ret ca b7 ce cd cr ct cq bH aL L.notArr bu br bt cI b6 storeD aV ep a8 bW aU lV L.mov L.closed V.closed PV.bare PV.flat
def Sv (o:XOp):List (List UInt8):=[o.store,ik o.key,kA o.rcd,o.field]
theorem LX (o:XOp):sH o=jG o.kind.toNat++(Sv o).flatMap mU:=by simp[sH,F3,vF,Sv]
theorem Ik {o:XOp}(h:jB o=true):(∀p∈Sv o,p.length≤200)∧1≤o.kind∧o.kind≤6:=by
 obtain⟨⟨h1,h2,h3,h4⟩,_⟩:=Ek h
 simp only[vF]at h1 h2 h3 h4
 refine⟨fun p m=> ?_,?_⟩
 ·simp only[Sv,Z6,List.not_mem_nil,or_false]at m
  rcases m with rfl|rfl|rfl|rfl<;>omega
 ·unfold jB at h
  simp only[Zg,sX]at h
  exact h.1
theorem Hs (s:List UInt8):(mU s).length≤s.length+6:=by
 have:=jF s.length
 simp only[mU,Zp];omega
theorem rR {α:Type}{f:α→List UInt8}{c:Nat}:∀{l:List α},(∀a∈l,(f a).length≤c)→(l.flatMap f).length≤c*l.length
 |[],_=>by simp
 |a::l,h=>by
  have h1:=h a (by simp)
  have ih:=rR (l:=l) fun b m=>h b (by simp[m])
  simp only[List.flatMap_cons,Zp,Zo,Nat.mul_add,Nat.mul_one]
  omega
theorem C3 {o:XOp}(h:jB o=true):(sH o).length≤830:=by
 have h1:=jF o.kind.toNat
 have h2:=rR (f:=mU) (c:=206) (l:=Sv o) fun p m=>by have:=(Ik h).1 p m;have:=Hs p;omega
 rw[LX,Zp]
 rw[show(Sv o).length=4 from rfl]at h2
 omega
def AD (l:List XOp):V:=cond (wY l) (aR (ag (ku l))) (.one (.own 1 []))
theorem Ev (l:List XOp):cT (AD l)=aR (ag (ku l)):=by
 unfold AD
 cases c:wY l
 ·simp[ku,c,cT,cS,ag]
 ·rfl
theorem T9 {l:List XOp}(h:wY l=true):l.length≤6∧∀o∈l,jB o=true:=by
 unfold wY at h
 rw[Zg,Zs]at h
 have:=of_decide_eq_true h.2
 exact⟨by omega,h.1⟩
theorem uN {α:Type}{f:α→List UInt8}{l:List α}{k:Nat}(hk:k<l.length):(l.take (k+1)).flatMap f=(l.take k).flatMap f++f l[k]:=by
 rw[Zx hk,List.flatMap_append];simp
theorem Ma {W a b c d:List UInt8}(hW:W.length≤6006)(h:∀p∈[a,b,c,d],p.length≤200):∃Z:Nat→List UInt8,Z 0=W∧Z 4=W++[a,b,c,d].flatMap mU∧∀(j:Nat)(hj:j<[a,b,c,d].length),
 ah Ph aH 248 [aR (ag (Z j)),aR (ag [a,b,c,d][j])]=some (.one (.own 1 (ag (Z (j+1))))):=by
 refine⟨fun j=>W++([a,b,c,d].take j).flatMap mU,by simp,by simp,fun j hj=> ?_⟩
 have h1:=h _ (Zf hj)
 have h2:=rR (f:=mU) (c:=206) (l:=[a,b,c,d].take j) fun p m=>by have:=h p (Zy m);have:=Hs p;omega
 have h3:([a,b,c,d].take j).length≤4:=by rw[Zw];exact Zc (Nat.min_le_right _ _) (by simp)
 have e:=oE (b:=W++([a,b,c,d].take j).flatMap mU) (s:=[a,b,c,d][j]) (by rw[Zp];omega) (by omega)
 rw[Zn,←uN hj]at e
 exact e
theorem xN {l:List XOp}(hl:l.length≤maxLen)(ok:∀o∈l,o.Ok maxLen):ah Ph aH 583 [aR (l.map XOp.e)]=some (AD l):=by
 have e0:=DY hl ok
 unfold AD
 refine aa (fn:=j7) rfl ?_
 cases c:wY l<;>rw[c]at e0
 ·simp(maxSteps:=9999999) [j7,e0]
 obtain⟨hl6,hall⟩:=T9 c
 have e1:ah Ph aH 247 [aR [],ae .i64 l.length]=some (.one (.own 1 (ag (jG l.length)))):=fa (b:=[]) (by simp) (n:=l.length) (by omega)
 have hE:ku l=jG l.length++l.flatMap sH:=by unfold ku;rw[c];rfl
 have hul:=jF l.length
 simp(maxSteps:=9999999) [j7,e0,e1]
 refine bm bX Cl.fin [.f,.f,.f,.t,.f,.f,.f,.f,.f,.f,.f,.f,.f,.f,.f,.t,.t,.t,.f,.f,.f,.f,.f,.f,.f,.f,.f,.f,.f,.f,.f,.f,.f,.f,.f,.f,.f,.f,.f,.f,.f,.f,.f,.f,.f,.f,.f,.f,.f] (fun k=>[(3,aR (ag (jG l.length++(l.take k).flatMap sH))),(17,ae .i64 k)]) l.length (fun _=>false) rfl (by simp) (fun k hk _=> ?_) (fun _ _=> ?_)
 ·have hm:=Zf hk
  have ho:=hall _ hm
  have hok:=ok _ hm
  have hx:=wU l[k]
  obtain⟨hp,hk1,hk2⟩:=Ik ho
  have hw:(jG l.length++(l.take k).flatMap sH).length≤6000:=by
   have:=rR (f:=sH) (c:=830) (l:=l.take k) fun o m=>C3 (hall o (Zy m))
   rw[Zp]
   rw[Zw]at this
   have:830*min k l.length≤830*6:=Nat.mul_le_mul (Zk _) (by omega)
   omega
  have hn:jG l.length++(l.take (k+1)).flatMap sH=jG l.length++(l.take k).flatMap sH++jG l[k].kind.toNat++(Sv l[k]).flatMap mU:=by rw[uN hk,LX];simp
  have w1:=bw hl hk
  have w2:=bU hk
  rw[hn]
  generalize jG l.length++(l.take k).flatMap sH=W at*
  have e2:=fa (b:=W) (by omega) (n:=l[k].kind.toNat) (by omega)
  rw[show((l[k].kind.toNat:Nat):Int)=l[k].kind by omega]at e2
  have e3:=jA hok.2.2.1
  have e4:=jP hok.2.2.2.1
  have e5:=qb l[k].rcd
  have hW2:(W++jG l[k].kind.toNat).length≤6006:=by have:=jF l[k].kind.toNat;rw[Zp];omega
  generalize W++jG l[k].kind.toNat=W2 at*
  generalize tg l[k].rcd=ev at*
  rw[show Sv l[k]=[l[k].store,ik l[k].key,kA l[k].rcd,l[k].field]from rfl]at*
  generalize ik l[k].key=ek at*
  generalize kA l[k].rcd=er at*
  obtain⟨Z,z0,z4,zs⟩:=Ma hW2 hp
  rw[←z4]
  have s0:=zs 0 (by simp)
  have s1:=zs 1 (by simp)
  have s2:=zs 2 (by simp)
  have s3:=zs 3 (by simp)
  simp only[List.getElem_cons_zero,List.getElem_cons_succ,Nat.reduceAdd]at s0 s1 s2 s3
  rw[←z0]at e2
  simp(maxSteps:=9999999) [iT,hk,hx,e2,e3,e4, ↓e5,w1,w2]
  refine bm bX Cl.kn [.f,.f,.f,.t,.f,.f,.f,.f,.f,.f,.f,.f,.f,.f,.f,.t,.t,.t,.f,.f,.f,.f,.f,.f,.f,.f,.f,.f,.f,.f,.f,.f,.f,.f,.f,.f,.f,.t,.t,.t,.f,.f,.f,.f,.f,.f,.f,.f,.f] (fun j=>[(3,aR (ag (Z j))),(39,ae .i64 j)]) 4 (fun _=>false) rfl (by simp) (fun j hj _=> ?_) (fun _ _=> ?_)
  ·have hj4:j=0∨j=1∨j=2∨j=3:=by omega
   rcases hj4 with rfl|rfl|rfl|rfl<;>simp(maxSteps:=9999999) [gz,s0,s1,s2,s3,show b9 0 4=true from rfl,show b9 1 4=true from rfl,show b9 2 4=true from rfl,show b9 3 4=true from rfl,show IntKind.i64.wrap 1=1 from rfl,show IntKind.i64.wrap 2=2 from rfl,show IntKind.i64.wrap 3=3 from rfl,show IntKind.i64.wrap 4=4 from rfl]
  ·simp(maxSteps:=9999999) [gz,show b9 4 4=false from rfl,w1]
 ·rw[hE,List.take_length]
  simp(maxSteps:=9999999) [iT]
theorem MN {W a b c d:List UInt8}(hW:W.length≤6006)(h:∀p∈[a,b,c,d],p.length≤200):∃Z:Nat→List UInt8,Z 0=W∧Z 4=W++[a,b,c,d].flatMap mU∧∀(j:Nat)(hj:j<[a,b,c,d].length),
 ah Ph aH 245 [aR (ag (Z j)),aR (ag [a,b,c,d][j])]=some (.one (.own 1 (ag (Z (j+1))))):=by
 refine⟨fun j=>W++([a,b,c,d].take j).flatMap mU,by simp,by simp,fun j hj=> ?_⟩
 have h1:=h _ (Zf hj)
 have h2:=rR (f:=mU) (c:=206) (l:=[a,b,c,d].take j) fun p m=>by have:=h p (Zy m);have:=Hs p;omega
 have h3:([a,b,c,d].take j).length≤4:=by rw[Zw];exact Zc (Nat.min_le_right _ _) (by simp)
 have e:=oG (b:=W++([a,b,c,d].take j).flatMap mU) (s:=[a,b,c,d][j]) (by rw[Zp];omega) (by omega)
 rw[Zn,←uN hj]at e
 exact e
theorem O5 {l:List XOp}(hl:l.length≤6):wY l= !(mY l.length (oK (fun o=> !(jB o)) l)):=by
 unfold wY
 rw[Jf,show decide ((l.length:Int)≤6)=true from decide_eq_true (by omega),Bool.and_true]
theorem yq {l:List XOp}(hl:l.length≤6)(ok:∀o∈l,o.Ok maxLen):ah Ph aH 576 [aR (l.map XOp.e)]=some (AD l):=by
 have hlm:l.length≤maxLen:=by unfold maxLen;omega
 have hany:=O5 hl
 unfold AD
 refine aa (fn:=nh) rfl ?_
 have e1:ah Ph aH 244 [aR [],ae .i64 l.length]=some (.one (.own 1 (ag (jG l.length)))):=fb (b:=[]) (by simp) (n:=l.length) (by omega)
 have hul:=jF l.length
 simp(maxSteps:=9999999) [nh,e1]
 refine bm bX Cl.fin [.t,.f,.f,.t,.t,.f,.f,.f,.f,.f,.f,.f,.f,.f,.f,.f,.f,.f,.f,.f,.f,.f,.f,.f,.f,.f,.f,.f,.f,.f,.f,.f,.f,.f,.f,.f,.f,.f,.f,.f,.f,.f,.f,.f,.f,.f,.f,.f,.f,.f,.f,.f,.f,.f,.f,.f,.f,.f,.f,.f,.f,.f,.f,.f] (fun k=>[(3,aR (ag (jG l.length++(l.take k).flatMap sH))),(4,ae .i64 k)]) l.length (oK (fun o=> !(jB o)) l) rfl (by simp) (fun k hk hp=> ?_) (fun _ hp=> ?_)
 ·have hm:=Zf hk
  have hok:=ok _ hm
  have hx:=wU l[k]
  have e0:=yt hok
  have hall:∀j(hj:j<l.length),j<k→jB l[j]=true:=fun j hj hjk=>by
   have:=hp j hjk
   simpa only[oK,hj,Zl,Bool.not_eq_false']using this
  have hat:oK (fun o=> !(jB o)) l k= !(jB l[k]):=by simp[oK,hk]
  have w1:=bw hlm hk
  have w2:=bU hk
  rw[hat]
  cases ho:jB l[k]with
  |false=>
   rw[ho]at e0
   rw[hany]
   simp(maxSteps:=9999999) [gB,hk,hx,e0,w2]
   intro hq
   rw[hq]
   simp(maxSteps:=9999999) []
  |true=>
   rw[ho]at e0
   obtain⟨hp',hk1,hk2⟩:=Ik ho
   have hw:(jG l.length++(l.take k).flatMap sH).length≤6000:=by
    have:=rR (f:=sH) (c:=830) (l:=l.take k) fun o m=>by
     obtain⟨j,hj,rfl⟩:=List.mem_iff_getElem.1 m
     rw[Zw]at hj
     rw[List.getElem_take]
     exact C3 (hall j (by omega) (by omega))
    rw[Zp]
    rw[Zw]at this
    have:830*min k l.length≤830*6:=Nat.mul_le_mul (Zk _) (by omega)
    omega
   have hn:jG l.length++(l.take (k+1)).flatMap sH=jG l.length++(l.take k).flatMap sH++jG l[k].kind.toNat++(Sv l[k]).flatMap mU:=by rw[uN hk,LX];simp
   rw[hn]
   generalize jG l.length++(l.take k).flatMap sH=W at*
   have e2:=fb (b:=W) (by omega) (n:=l[k].kind.toNat) (by omega)
   rw[show((l[k].kind.toNat:Nat):Int)=l[k].kind by omega]at e2
   have e3:=qJ hok.2.2.1
   have e4:=nP hok.2.2.2.1
   have e5:=qb l[k].rcd
   have hW2:(W++jG l[k].kind.toNat).length≤6006:=by have:=jF l[k].kind.toNat;rw[Zp];omega
   generalize W++jG l[k].kind.toNat=W2 at*
   generalize tg l[k].rcd=ev at*
   rw[show Sv l[k]=[l[k].store,ik l[k].key,kA l[k].rcd,l[k].field]from rfl]at*
   generalize ik l[k].key=ek at*
   generalize kA l[k].rcd=er at*
   obtain⟨Z,z0,z4,zs⟩:=MN hW2 hp'
   rw[←z4]
   have s0:=zs 0 (by simp)
   have s1:=zs 1 (by simp)
   have s2:=zs 2 (by simp)
   have s3:=zs 3 (by simp)
   simp only[List.getElem_cons_zero,List.getElem_cons_succ,Nat.reduceAdd]at s0 s1 s2 s3
   rw[←z0]at e2
   simp(maxSteps:=9999999) [gB,hk,hx,e0,e2,e3,e4, ↓e5,s0,s1,s2,s3,w1,w2]
 ·have c:wY l=true:=by rw[hany,hp];rfl
  have hE:ku l=jG l.length++l.flatMap sH:=by unfold ku;rw[c];rfl
  have c6:b9 6 (l.length:Int)=false:=fG (by omega)
  rw[c,hE,List.take_length]
  simp(maxSteps:=9999999) [gB,c6]
abbrev bV (x:List UInt8)(y:Nat)(z:Bool):V:= .tup [(false,[.own 1 (ag x)]),(false,[.pv (.int .i64 (y:Int))]),(false,[.pv (.bool z)])]
theorem RR {s:List UInt8}{a:Nat}(h:a≤s.length):∃(n y:Nat)(z:Bool),se (s.drop a) a=v3 n y z∧y≤s.length∧(z=true→sB (s.drop a)=some (n,y-a)∧a≤y)∧(z=false→sB (s.drop a)=none):=by
 unfold se
 cases e:sB (s.drop a)with
 |none=>exact⟨0,0,false,rfl,Nat.zero_le _,nofun,fun _=>rfl⟩
 |some p=>
  obtain⟨n,k⟩:=p
  have:=kZ e
  simp only[List.length_drop]at this
  exact⟨n,a+k,true,rfl,by omega,fun _=>⟨by simp,by omega⟩,nofun⟩
theorem t8 {s:List UInt8}{a:Nat}(h:a≤s.length)(m:Nat):∃(x:List UInt8)(y:Nat)(z:Bool),sA (s.drop a) a m=bV x y z∧y≤s.length∧x.length≤s.length∧(z=true→BY m (s.drop a)=some (x,y-a)∧a≤y)∧(z=false→BY m (s.drop a)=none):=by
 unfold sA
 cases e:BY m (s.drop a)with
 |none=>exact⟨[],0,false,rfl,Nat.zero_le _,Nat.zero_le _,nofun,fun _=>rfl⟩
 |some p=>
  obtain⟨x,k⟩:=p
  have:=jD (eL e).1
  simp only[List.length_drop]at this
  exact⟨x,a+k,true,rfl,by omega,by omega,fun _=>⟨by simp,by omega⟩,nofun⟩
abbrev mO :Nat×Nat×Nat×Nat:=(100,100,200,100)
def Vp (o:XOp):List L:=[.pv (.int .i64 o.kind), .pv (.str o.store), .pv (.int .i64 o.key.kind), .pv (.int .i64 o.key.n), .pv (.str o.key.text),lf (o.rcd.fs.map XField.e), .pv (.str o.field)]
def PD (D:List UInt8)(a:Nat):V:=match tx mO D with
 |none=> .tup [(true,[.pv (.int .i64 0), .pv (.str []), .pv (.int .i64 0), .pv (.int .i64 0), .pv (.str []), .nil, .pv (.str [])]),(false,[.pv (.int .i64 0)]),(false,[.pv (.bool false)])]
 |some (r,k)=> .tup [(true,Vp (kh r)),(false,[.pv (.int .i64 ((a+k:Nat):Int))]),(false,[.pv (.bool true)])]
theorem zX {D:List UInt8}{a:Nat}(h:tx mO D=none):PD D a= .tup [(true,[.pv (.int .i64 0), .pv (.str []), .pv (.int .i64 0), .pv (.int .i64 0), .pv (.str []), .nil, .pv (.str [])]),(false,[.pv (.int .i64 0)]),(false,[.pv (.bool false)])]:=by unfold PD;rw[h]
theorem ul {s:List UInt8}(hl:s.length≤1048576){a:Nat}(ha:a≤s.length):ah Ph aH 575 [aR (ag s),ae .i64 a]=some (PD (s.drop a) a):=by
 have r0:=dy hl (a:=a) (by omega)
 obtain⟨n,y0,z0,q0,h0,t0,f0⟩:=RR ha
 rw[q0]at r0
 have r1:ah Ph aH 572 [aR (ag s),ae .i64 y0,ae .i64 100]=some (sA (s.drop y0) y0 100):=dY hl h0 (m:=100) (by omega)
 obtain⟨x1,y1,z1,q1,h1,l1,t1,f1⟩:=t8 h0 100
 rw[q1]at r1
 have r2:ah Ph aH 572 [aR (ag s),ae .i64 y1,ae .i64 100]=some (sA (s.drop y1) y1 100):=dY hl h1 (m:=100) (by omega)
 obtain⟨x2,y2,z2,q2,h2,l2,t2,f2⟩:=t8 h1 100
 rw[q2]at r2
 have r3:ah Ph aH 572 [aR (ag s),ae .i64 y2,ae .i64 200]=some (sA (s.drop y2) y2 200):=dY hl h2 (m:=200) (by omega)
 obtain⟨x3,y3,z3,q3,h3,l3,t3,f3⟩:=t8 h2 200
 rw[q3]at r3
 have r4:ah Ph aH 572 [aR (ag s),ae .i64 y3,ae .i64 100]=some (sA (s.drop y3) y3 100):=dY hl h3 (m:=100) (by omega)
 obtain⟨x4,y4,z4,q4,h4,l4,t4,f4⟩:=t8 h3 100
 rw[q4]at r4
 clear q0 q1 q2 q3 q4
 refine aa (fn:=gh) rfl ?_
 cases z0 with
 |false=>
  rw[zX (by unfold tx;rw[f0 rfl])]
  simp(maxSteps:=9999999) [gh,r0,r1,r2,r3,r4]
 |true=>
  obtain⟨g0,g0'⟩:=t0 rfl
  cases z1 with
  |false=>
   have e:tx mO (s.drop a)=none:=by unfold tx;rw[g0];simp only[List.drop_drop,show a+(y0-a)=y0 by omega,f1 rfl]
   rw[zX e]
   simp(maxSteps:=9999999) [gh,r0,r1,r2,r3,r4]
  |true=>
   obtain⟨g1,g1'⟩:=t1 rfl
   cases z2 with
   |false=>
    have e:tx mO (s.drop a)=none:=by unfold tx;rw[g0];simp only[List.drop_drop,show a+(y0-a)=y0 by omega,g1,show a+(y0-a+(y1-y0))=y1 by omega,f2 rfl]
    rw[zX e]
    simp(maxSteps:=9999999) [gh,r0,r1,r2,r3,r4]
   |true=>
    obtain⟨g2,g2'⟩:=t2 rfl
    cases z3 with
    |false=>
     have e:tx mO (s.drop a)=none:=by unfold tx;rw[g0];simp only[List.drop_drop,show a+(y0-a)=y0 by omega,g1,show a+(y0-a+(y1-y0))=y1 by omega,g2,show a+(y0-a+(y1-y0)+(y2-y1))=y2 by omega,f3 rfl]
     rw[zX e]
     simp(maxSteps:=9999999) [gh,r0,r1,r2,r3,r4]
    |true=>
     obtain⟨g3,g3'⟩:=t3 rfl
     cases z4 with
     |false=>
      have e:tx mO (s.drop a)=none:=by unfold tx;rw[g0];simp only[List.drop_drop,show a+(y0-a)=y0 by omega,g1,show a+(y0-a+(y1-y0))=y1 by omega,g2,show a+(y0-a+(y1-y0)+(y2-y1))=y2 by omega,g3,show a+(y0-a+(y1-y0)+(y2-y1)+(y3-y2))=y3 by omega,f4 rfl]
      rw[zX e]
      simp(maxSteps:=9999999) [gh,r0,r1,r2,r3,r4]
     |true=>
      obtain⟨g4,g4'⟩:=t4 rfl
      have e:tx mO (s.drop a)=some (⟨n,x1,x2,x3,x4⟩,y4-a):=by unfold tx;rw[g0];simp only[List.drop_drop,show a+(y0-a)=y0 by omega,g1,show a+(y0-a+(y1-y0))=y1 by omega,g2,show a+(y0-a+(y1-y0)+(y2-y1))=y2 by omega,g3,show a+(y0-a+(y1-y0)+(y2-y1)+(y3-y2))=y3 by omega,g4];congr 2;omega
      have e':PD (s.drop a) a= .tup [(true,Vp (kh ⟨n,x1,x2,x3,x4⟩)),(false,[.pv (.int .i64 (y4:Int))]),(false,[.pv (.bool true)])]:=by unfold PD;rw[e];simp only[show a+(y4-a)=y4 by omega]
      rw[e']
      have k1:=yp (b:=x2) (by omega)
      have k2:=uf (b:=x3) (by omega)
      simp only[Vp,kh]
      generalize tG x2=dk at*
      generalize u0 x3=dr at*
      simp only[tf]at k1
      simp only[rE]at k2
      simp(maxSteps:=9999999) [gh,r0,r1,r2,r3,r4,k1,k2,fg, ↓aD, ↓aj, ↓au]
theorem Nr (b:List UInt8):(tG b).1.Ok maxLen:=by
 have z:(⟨0,0,[]⟩:XKey).Ok maxLen:=⟨by simp[ii],by simp[ii],by simp⟩
 unfold tG
 split
 ·exact z
 ·split
  ·rename_i k _ h
   obtain⟨h1,h2,h3,h4,_,h6⟩:=rY h
   exact⟨by simp only[ii];omega,by simp only[ii];omega,by unfold maxLen;simp only;omega⟩
  ·exact z
theorem Ns (b:List UInt8):(u0 b).1.Ok maxLen:=by
 have z:(⟨[]⟩:XRecord).Ok maxLen:=⟨by simp,fun f h=>by simp at h⟩
 unfold u0
 split
 ·exact z
 ·split
  ·rename_i r k _ h
   obtain⟨h1,h2⟩:=o9 h.2
   refine⟨by unfold maxLen;simp only;omega,fun f m=> ?_⟩
   obtain⟨q1,q2,q3⟩:=h2 f m
   exact⟨by unfold maxLen;omega,by unfold ii;omega⟩
  ·exact z
theorem Co {m:Nat×Nat×Nat×Nat}{b:List UInt8}{r:Raw}{k:Nat}(h:tx m b=some (r,k)):0<k∧k≤b.length∧r.kind≤1000000000000∧r.a.length≤m.1∧r.d.length≤m.2.2.2:=by
 unfold tx at h
 split at h
 ·cases h
 ·rename_i n k0 e0
  split at h
  ·cases h
  ·rename_i p k1 e1
   split at h
   ·cases h
   ·rename_i q k2 e2
    split at h
    ·cases h
    ·rename_i u k3 e3
     split at h
     ·cases h
     ·rename_i s k4 e4
      simp only[Option.some.injEq,Prod.mk.injEq]at h
      obtain⟨rfl,rfl⟩:=h
      have g0:=kZ e0
      have g1:=jD (eL e1).1
      have g2:=jD (eL e2).1
      have g3:=jD (eL e3).1
      have g4:=jD (eL e4).1
      simp only[List.length_drop]at g1 g2 g3 g4
      exact⟨by omega,by omega,g0.2.2,(eL e1).2,(eL e4).2⟩
theorem Tk {b:List UInt8}{r:Raw}{k:Nat}(h:tx mO b=some (r,k)):(kh r).Ok maxLen:=by
 obtain⟨_,_,h1,h2,h3⟩:=Co h
 simp only at h2 h3
 exact⟨by simp only[kh,ii];omega,by unfold maxLen;simp only[kh];omega,Nr _,Ns _,by unfold maxLen;simp only[kh];omega⟩
def Ag (m:Nat×Nat×Nat×Nat)(s:List UInt8)(n:Nat)(a:Nat×List XOp):Option (Nat×List XOp):=if a.2.length<n then(match tx m (s.drop a.1)with
 |none=>none
 |some (r,k)=>some (a.1+k,a.2++[kh r]))else none
def UI (m:Nat×Nat×Nat×Nat)(s:List UInt8)(n a0:Nat)(a:Nat×List XOp):Prop:=a.1≤s.length∧a0≤a.1∧a.2.length≤n∧(mG m n (s.drop a0)).map (·.map kh)=(mG m (n-a.2.length) (s.drop a.1)).map fun l=>a.2++l.map kh
theorem TS {m:Nat×Nat×Nat×Nat}{s:List UInt8}{n a0:Nat}(h:a0≤s.length):UI m s n a0 (a0,[]):=⟨h,Zk _,Nat.zero_le _,by
 show _=Option.map _ (mG m n (s.drop a0))
 cases mG m n (s.drop a0)<;>simp⟩
theorem Kv {m:Nat×Nat×Nat×Nat}{s:List UInt8}{n a0:Nat}{a b:Nat×List XOp}(ia:UI m s n a0 a)(h:Ag m s n a=some b):∃r k,a.2.length<n∧tx m (s.drop a.1)=some (r,k)∧b=(a.1+k,a.2++[kh r])∧s.length-b.1<s.length-a.1∧UI m s n a0 b:=by
 obtain⟨h1,h2,h3,h4⟩:=ia
 unfold Ag at h
 split at h
 ·rename_i hn
  split at h
  ·cases h
  ·rename_i r k e1
   cases h
   have q1:=Co e1
   simp only[List.length_drop]at q1
   refine⟨r,k,hn,e1,rfl,by simp only;omega,by simp only;omega,by simp only;omega,by simp only[Zp,Z0];omega,?_⟩
   obtain⟨j,hj⟩:∃j,n-a.2.length=j+1:=⟨n-a.2.length-1,by omega⟩
   have hj2:n-(a.2++[kh r]).length=j:=by simp only[Zp,Z0];omega
   rw[h4,hj,hj2]
   simp only[mG,e1,List.drop_drop]
   cases mG m j (s.drop (a.1+k))with
   |none=>rfl
   |some p=>simp
 ·cases h
theorem N1 {m:Nat×Nat×Nat×Nat}{s:List UInt8}{n a0:Nat}{a:Nat×List XOp}(ia:UI m s n a0 a)(h:Ag m s n a=none):
 (a.2.length=n∧(mG m n (s.drop a0)).map (·.map kh)=some a.2)∨(a.2.length<n∧mG m n (s.drop a0)=none∧tx m (s.drop a.1)=none):=by
 obtain⟨h1,h2,h3,h4⟩:=ia
 unfold Ag at h
 split at h
 ·rename_i hn
  obtain⟨j,hj⟩:∃j,n-a.2.length=j+1:=⟨n-a.2.length-1,by omega⟩
  rw[hj]at h4
  split at h
  ·rename_i e1
   refine .inr ⟨hn,?_,e1⟩
   simp only[mG,e1,Option.map_none,Option.map_eq_none_iff]at h4
   exact h4
  ·cases h
 ·have hn:a.2.length=n:=by omega
  refine .inl ⟨hn,?_⟩
  rw[h4,show n-a.2.length=0 by omega]
  simp[mG]
theorem N5 {m:Nat×Nat×Nat×Nat}{b:List UInt8}{n k:Nat}{l:List XOp}(h:sB b=some (n,k))(hn:n≤6)(hf:(mG m n (b.drop k)).map (·.map kh)=some l):jS m b=some l:=by
 unfold jS;rw[h];simp only[if_pos hn]
 cases e:mG m n (b.drop k)with
 |none=>rw[e]at hf;cases hf
 |some p=>rw[e]at hf;exact hf
theorem N4 {m:Nat×Nat×Nat×Nat}{b:List UInt8}{n k:Nat}(h:sB b=some (n,k))(hf:mG m n (b.drop k)=none):jS m b=none:=by unfold jS;rw[h];simp only[hf];split<;>rfl
theorem N3 {m:Nat×Nat×Nat×Nat}{b:List UInt8}{n k:Nat}(h:sB b=some (n,k))(hn:¬n≤6):jS m b=none:=by unfold jS;rw[h];simp only[if_neg hn]
def mX (p:List XOp×Bool):V:= .tup [(false,[bif p.2 then .pv (.lst (p.1.map XOp.e))else .own 7 []]),(false,[.pv (.bool p.2)])]
theorem yT {m:Nat×Nat×Nat×Nat}{b:List UInt8}(h:jS m b=none):lh m b=([],false):=by unfold lh;rw[h]
theorem QT {m:Nat×Nat×Nat×Nat}{b:List UInt8}{l:List XOp}(h:jS m b=some l):lh m b=if ku l==b then(l,true)else([],false):=by
 unfold lh;rw[h]
 by_cases c:ku l=b<;>simp[c]
theorem qI {b:List UInt8}(hl:b.length≤1048576):ah Ph aH 560 [aR (ag b)]=some (mX (lh mO b)):=by
 have e1:ah Ph aH 573 [aR (ag b),ae .i64 0]=some (se b 0):=dy hl (a:=0) (by omega)
 cases e:sB b with
 |none=>
  rw[yT (by unfold jS;rw[e])]
  simp only[se,e]at e1
  refine aa (fn:=fi) rfl ?_
  simp(maxSteps:=9999999) [fi,e1,mX]
 |some p=>
  obtain⟨n,k⟩:=p
  simp only[se,e,Nat.zero_add]at e1
  obtain⟨k1,k2,k3⟩:=kZ e
  have b1:b9 6 (n:Int)=decide (6<n):=decide_eq_decide.2 (by omega)
  by_cases hn:n≤6
  rotate_left
  ·have d1:6<n:=by omega
   rw[yT (N3 e hn)]
   refine aa (fn:=fi) rfl ?_
   simp(maxSteps:=9999999) [fi,e1,b1,d1,mX]
  have d1:¬6<n:=by omega
  refine aa (fn:=fi) rfl ?_
  simp(maxSteps:=9999999) [fi,e1,b1,d1]
  refine oC bX Cl.fin [.t,.f,.f,.f,.t,.t,.f,.t,.t,.f,.f,.f,.f,.f,.f,.f,.f,.f,.f,.f,.f,.f,.f,.f,.f,.f,.f,.f,.f,.f,.f,.f,.f,.f,.f,.f,.f,.f,.f,.f,.f,.f,.f,.f,.f,.f,.f,.f,.f,.f,.f,.f,.f] (fun a=>[(5,ae .i64 (a.1:Nat)),(7, .one (.arr 0)),(8,ae .i64 (a.2.length:Nat))]) (fun a=>[.arr 7 (a.2.map XOp.e)]) (Ag mO b n) (fun a=>b.length-a.1) (fun a=>UI mO b n k a∧∀o∈a.2,o.Ok maxLen) (k,[]) ⟨TS k2,fun o h=>by simp at h⟩ rfl (by simp) (fun a a' ia ha=> ?_) (fun a ia ha=> ?_)
  ·obtain⟨a,l⟩:=a
   obtain⟨ia,iok⟩:=ia
   obtain⟨r,kk,q0,q1,rfl,q6,q7⟩:=Kv ia ha
   refine⟨q6,⟨q7,fun o m=> ?_⟩,?_⟩
   ·rcases List.mem_append.1 m with m|m
    ·exact iok o m
    ·rw[List.mem_singleton.1 m];exact Tk q1
   have h1:=ia.1
   simp only at h1 q0 q1⊢
   have r1:=ul hl h1
   unfold PD at r1
   rw[q1]at r1
   simp only[Vp]at r1
   have c1:b9 (l.length:Int) (n:Int)=true:=d6 (by omega)
   have w1:IntKind.i64.wrap ((l.length:Int)+1)=(l.length:Int)+1:=by rw[IntKind.wrap_i64];omega
   have m1:=gx (m:=l.length+1) (z:=96) (by omega) (by omega)
   have hl2:(l++[kh r]).length=l.length+1:=by simp
   have hm:(l++[kh r]).map XOp.e=l.map XOp.e++[(kh r).e]:=by simp
   rw[hl2,hm,wU (kh r)]
   have hW:(l.map XOp.e).length=l.length:=by simp
   generalize l.map XOp.e=W at*
   generalize kh r=o at*
   simp(maxSteps:=9999999) [gA,r1,c1,w1,m1,hW, ↓aD, ↓aj, ↓au, ↓av, ↓ai, ↓aE, ↓aq,-bY]
   exact Kn.of [3] (by decide) (by simp) (by simp)
  ·obtain⟨a,l⟩:=a
   obtain⟨ia,iok⟩:=ia
   have h1:=ia.1
   simp only at h1 iok⊢
   have c1:b9 (l.length:Int) (n:Int)=decide (l.length<n):=decide_eq_decide.2 (by omega)
   rcases N1 ia ha with⟨g1,g2⟩|⟨g1,g2,g3⟩
   ·simp only at g1 g2
    have c2:¬l.length<n:=by omega
    rw[QT (N5 e hn g2)]
    have e4:=yq (by omega) iok
    have e5:=wK (a:=ku l) (b:=b)
    have e6:=Ev l
    generalize AD l=ev at*
    generalize (ku l==b)=q at*
    generalize ku l=en at*
    cases q<;>simp(maxSteps:=9999999) [gA,c1,c2,g1,e4,e5, ↓e6,mX]
   ·simp only at g1 g2 g3
    rw[yT (N4 e g2)]
    have r1:=ul hl h1
    rw[zX g3]at r1
    simp(maxSteps:=9999999) [gA,c1,g1,r1,mX]
theorem RB {m:Nat×Nat×Nat×Nat}{b:List UInt8}{r:Raw}{k:Nat}(hm:m.1≤1048576∧m.2.2.2≤1048576)(h:tx m b=some (r,k)):(kh r).Ok maxLen:=by
 obtain⟨_,_,h1,h2,h3⟩:=Co h
 exact⟨by simp only[kh,ii];omega,by unfold maxLen;simp only[kh];omega,Nr _,Ns _,by unfold maxLen;simp only[kh];omega⟩
theorem O6 (l:List XOp):(ku l).length≤5000:=by
 have key:∀l:List XOp,(∀o∈l,jB o=true)→(l.flatMap sH).length≤l.length*830:=by
  intro l
  induction l with
  |nil=>intro _;simp
  |cons o l ih=>
   intro h
   have h1:=C3 (h o (by simp))
   have h2:=ih fun x m=>h x (by simp[m])
   simp only[List.flatMap_cons,Zp,Zo,Z9]
   omega
 unfold ku
 split
 ·rename_i h
  unfold wY at h
  simp only[Zg,Zs,decide_eq_true_eq]at h
  have h1:=key l h.1
  have h2:=jF l.length
  rw[Zp]
  omega
 ·simp
theorem KB {s:List UInt8}{a:Nat}(ha:a≤s.length)(L:Nat):∃(n y0 y1 y2 y3 y4:Nat)(z0 z1 z2 z3 z4:Bool)(x1 x2 x3 x4:List UInt8),
 se (s.drop a) a=v3 n y0 z0∧y0≤s.length∧sA (s.drop y0) y0 L=bV x1 y1 z1∧y1≤s.length∧x1.length≤s.length∧sA (s.drop y1) y1 L=bV x2 y2 z2∧y2≤s.length∧x2.length≤s.length∧
 sA (s.drop y2) y2 L=bV x3 y3 z3∧y3≤s.length∧x3.length≤s.length∧sA (s.drop y3) y3 L=bV x4 y4 z4∧y4≤s.length∧x4.length≤s.length∧
 ((z0&&(z1&&(z2&&(z3&&z4))))=true→tx (L,L,L,L) (s.drop a)=some (⟨n,x1,x2,x3,x4⟩,y4-a)∧a≤y4)∧((z0&&(z1&&(z2&&(z3&&z4))))=false→tx (L,L,L,L) (s.drop a)=none):=by
 obtain⟨n,y0,z0,q0,h0,t0,f0⟩:=RR ha
 obtain⟨x1,y1,z1,q1,h1,l1,t1,f1⟩:=t8 h0 L
 obtain⟨x2,y2,z2,q2,h2,l2,t2,f2⟩:=t8 h1 L
 obtain⟨x3,y3,z3,q3,h3,l3,t3,f3⟩:=t8 h2 L
 obtain⟨x4,y4,z4,q4,h4,l4,t4,f4⟩:=t8 h3 L
 refine⟨n,y0,y1,y2,y3,y4,z0,z1,z2,z3,z4,x1,x2,x3,x4,q0,h0,q1,h1,l1,q2,h2,l2,q3,h3,l3,q4,h4,l4,fun hz=> ?_,fun hz=> ?_⟩
 ·simp only[Zg]at hz
  obtain⟨c0,c1,c2,c3,c4⟩:=hz
  obtain⟨g0,g0'⟩:=t0 c0
  obtain⟨g1,g1'⟩:=t1 c1
  obtain⟨g2,g2'⟩:=t2 c2
  obtain⟨g3,g3'⟩:=t3 c3
  obtain⟨g4,g4'⟩:=t4 c4
  refine⟨?_,by omega⟩
  unfold tx;rw[g0];simp only[List.drop_drop,show a+(y0-a)=y0 by omega,g1,show a+(y0-a+(y1-y0))=y1 by omega,g2,show a+(y0-a+(y1-y0)+(y2-y1))=y2 by omega,g3,show a+(y0-a+(y1-y0)+(y2-y1)+(y3-y2))=y3 by omega,g4];congr 2;omega
 ·cases c0:z0 with
  |false=>unfold tx;rw[f0 c0]
  |true=>
   obtain⟨g0,g0'⟩:=t0 c0
   cases c1:z1 with
   |false=>unfold tx;rw[g0];simp only[List.drop_drop,show a+(y0-a)=y0 by omega,f1 c1]
   |true=>
    obtain⟨g1,g1'⟩:=t1 c1
    cases c2:z2 with
    |false=>unfold tx;rw[g0];simp only[List.drop_drop,show a+(y0-a)=y0 by omega,g1,show a+(y0-a+(y1-y0))=y1 by omega,f2 c2]
    |true=>
     obtain⟨g2,g2'⟩:=t2 c2
     cases c3:z3 with
     |false=>unfold tx;rw[g0];simp only[List.drop_drop,show a+(y0-a)=y0 by omega,g1,show a+(y0-a+(y1-y0))=y1 by omega,g2,show a+(y0-a+(y1-y0)+(y2-y1))=y2 by omega,f3 c3]
     |true=>
      obtain⟨g3,g3'⟩:=t3 c3
      cases c4:z4 with
      |false=>unfold tx;rw[g0];simp only[List.drop_drop,show a+(y0-a)=y0 by omega,g1,show a+(y0-a+(y1-y0))=y1 by omega,g2,show a+(y0-a+(y1-y0)+(y2-y1))=y2 by omega,g3,show a+(y0-a+(y1-y0)+(y2-y1)+(y3-y2))=y3 by omega,f4 c4]
      |true=>rw[c0,c1,c2,c3,c4]at hz;cases hz
theorem qE {b:List UInt8}(hl:b.length≤1048576):ah Ph aH 563 [aR (ag b)]=some (mX (lh mO b)):=by
 rw[←SI (m:=(b.length,b.length,b.length,b.length)) (Zk _) (Zk _) (Zk _) (Zk _)]
 have e1:ah Ph aH 579 [aR (ag b),ae .i64 0]=some (se b 0):=cR hl (a:=0) (by omega)
 cases e:sB b with
 |none=>
  rw[yT (by unfold jS;rw[e])]
  simp only[se,e]at e1
  refine aa (fn:=fh) rfl ?_
  simp(maxSteps:=600000) [fh,e1,mX]
 |some p=>
  obtain⟨n,k⟩:=p
  simp only[se,e,Nat.zero_add]at e1
  obtain⟨k1,k2,k3⟩:=kZ e
  have b1:b9 6 (n:Int)=decide (6<n):=decide_eq_decide.2 (by omega)
  by_cases hn:n≤6
  rotate_left
  ·have d1:6<n:=by omega
   rw[yT (N3 e hn)]
   refine aa (fn:=fh) rfl ?_
   simp(maxSteps:=600000) [fh,e1,b1,d1,mX]
  have d1:¬6<n:=by omega
  refine aa (fn:=fh) rfl ?_
  simp(maxSteps:=600000) [fh,e1,b1,d1]
  refine oC bX Cl.fin [.t,.f,.f,.f,.t,.t,.f,.t,.t,.f,.f,.f,.f,.f,.f,.f,.f,.f,.f,.f,.f,.f,.f,.f,.f,.f,.f,.f,.f,.f,.f,.f,.f,.f,.f,.f,.f,.f,.f,.f,.f,.f,.f,.f,.f,.f,.f,.f,.f,.f,.f,.f,.f,.f,.f,.f,.f,.f,.f,.f,.f,.f,.f,.f,.f,.f,.f,.f,.f,.f,.f,.f,.f,.f,.f,.f,.f,.f,.f,.f,.f,.f,.f,.f,.f,.f,.f,.f,.f,.f,.f,.f,.f] (fun a=>[(5,ae .i64 (a.1:Nat)),(7, .one (.arr 0)),(8,ae .i64 (a.2.length:Nat))]) (fun a=>[.arr 7 (a.2.map XOp.e)]) (Ag (b.length,b.length,b.length,b.length) b n) (fun a=>b.length-a.1) (fun a=>UI (b.length,b.length,b.length,b.length) b n k a∧∀o∈a.2,o.Ok maxLen) (k,[]) ⟨TS k2,fun o h=>by simp at h⟩ rfl (by simp) (fun a a' ia ha=> ?_) (fun a ia ha=> ?_)
  ·obtain⟨a,l⟩:=a
   obtain⟨ia,iok⟩:=ia
   obtain⟨r,kk,q0,q1,rfl,q6,q7⟩:=Kv ia ha
   refine⟨q6,⟨q7,fun o m=> ?_⟩,?_⟩
   ·rcases List.mem_append.1 m with m|m
    ·exact iok o m
    ·rw[List.mem_singleton.1 m];exact RB ⟨hl,hl⟩ q1
   have h1:=ia.1
   simp only at h1 q0 q1⊢
   have r0:=cR hl (a:=a) (by omega)
   obtain⟨n0,y0,y1,y2,y3,y4,z0,z1,z2,z3,z4,x1,x2,x3,x4,p0,l0,p1,l1,w1,p2,l2,w2,p3,l3,w3,p4,l4,w4,hT,hF⟩:=KB h1 b.length
   cases hz:(z0&&(z1&&(z2&&(z3&&z4))))
   ·rw[hF hz]at q1;cases q1
   obtain⟨g1,g2⟩:=hT hz
   rw[g1]at q1
   cases q1
   simp only[Zg]at hz
   obtain⟨rfl,rfl,rfl,rfl,rfl⟩:=hz
   have r1:=cK hl l0 hl
   have r2:=cK hl l1 hl
   have r3:=cK hl l2 hl
   have r4:=cK hl l3 hl
   rw[p0]at r0
   rw[p1]at r1
   rw[p2]at r2
   rw[p3]at r3
   rw[p4]at r4
   have k1:=xM (b:=x2) (by omega)
   have k2:=tP (b:=x3) (by omega)
   have c1:b9 (l.length:Int) (n:Int)=true:=d6 (by omega)
   have w1:IntKind.i64.wrap ((l.length:Int)+1)=(l.length:Int)+1:=by rw[IntKind.wrap_i64];omega
   have m1:=gx (m:=l.length+1) (z:=96) (by omega) (by omega)
   have hl2:(l++[kh ⟨n0,x1,x2,x3,x4⟩]).length=l.length+1:=by simp
   have hm:(l++[kh ⟨n0,x1,x2,x3,x4⟩]).map XOp.e=l.map XOp.e++[(kh ⟨n0,x1,x2,x3,x4⟩).e]:=by simp
   have hy:((a+(y4-a):Nat):Int)=(y4:Int):=by omega
   rw[hl2,hm,hy,wU (kh ⟨n0,x1,x2,x3,x4⟩)]
   have hW:(l.map XOp.e).length=l.length:=by simp
   generalize l.map XOp.e=W at*
   simp only[kh]
   generalize tG x2=dk at*
   generalize u0 x3=dr at*
   simp only[tf]at k1
   simp only[rE]at k2
   have lt:b9 0 4=true∧b9 1 4=true∧b9 2 4=true∧b9 3 4=true∧b9 4 4=false:=⟨rfl,rfl,rfl,rfl,rfl⟩
   clear hT hF p0 p1 p2 p3 p4 g1 ia q0 q6 q7 ha iok e
   simp(maxSteps:=600000) [dj,di,jj,lt,mR,qN,r0,r1,r2,r3,r4,k1,k2,c1,w1,m1,hW,al,fg, ↓aD, ↓aj, ↓au, ↓av, ↓ai, ↓aE, ↓aq,-bY]
   exact Kn.of [4] (by decide) (by simp) (by simp)
  ·obtain⟨a,l⟩:=a
   obtain⟨ia,iok⟩:=ia
   have h1:=ia.1
   simp only at h1 iok⊢
   have c1:b9 (l.length:Int) (n:Int)=decide (l.length<n):=decide_eq_decide.2 (by omega)
   rcases N1 ia ha with⟨g1,g2⟩|⟨g1,g2,g3⟩
   ·simp only at g1 g2
    have c2:¬l.length<n:=by omega
    rw[QT (N5 e hn g2)]
    have e4:=xN (l:=l) (by unfold maxLen;omega) iok
    have e5:=jb (a:=ku l) (b:=b) (by have:=O6 l;unfold maxLen;omega)
    have e6:=Ev l
    generalize AD l=ev at*
    generalize (ku l==b)=q at*
    generalize ku l=en at*
    cases q<;>simp(maxSteps:=600000) [dj,c1,c2,g1,e4,e5, ↓e6,mX]
   ·simp only at g1 g2 g3
    rw[yT (N4 e g2)]
    have r0:=cR hl (a:=a) (by omega)
    obtain⟨n0,y0,y1,y2,y3,y4,z0,z1,z2,z3,z4,x1,x2,x3,x4,p0,l0,p1,l1,w1,p2,l2,w2,p3,l3,w3,p4,l4,w4,hT,hF⟩:=KB h1 b.length
    have hz:(z0&&(z1&&(z2&&(z3&&z4))))=false:=by
     cases hz:(z0&&(z1&&(z2&&(z3&&z4))))
     ·rfl
     ·rw[(hT hz).1]at g3;cases g3
    have r1:=cK hl l0 hl
    have r2:=cK hl l1 hl
    have r3:=cK hl l2 hl
    have r4:=cK hl l3 hl
    rw[p0]at r0
    rw[p1]at r1
    rw[p2]at r2
    rw[p3]at r3
    rw[p4]at r4
    have lt:b9 0 4=true∧b9 1 4=true∧b9 2 4=true∧b9 3 4=true∧b9 4 4=false:=⟨rfl,rfl,rfl,rfl,rfl⟩
    clear hT hF p0 p1 p2 p3 p4 g2 g3 ia ha iok e
    cases z0
    ·simp(maxSteps:=600000) [dj,di,jj,lt,mR,qN,r0,c1,g1,al,mX]
    cases z1
    ·simp(maxSteps:=600000) [dj,di,jj,lt,mR,qN,r0,r1,c1,g1,al,mX]
    cases z2
    ·simp(maxSteps:=600000) [dj,di,jj,lt,mR,qN,r0,r1,r2,c1,g1,al,mX]
    cases z3
    ·simp(maxSteps:=600000) [dj,di,jj,lt,mR,qN,r0,r1,r2,r3,c1,g1,al,mX]
    cases z4
    ·simp(maxSteps:=600000) [dj,di,jj,lt,mR,qN,r0,r1,r2,r3,r4,c1,g1,al,mX]
    ·cases hz
end Gi
