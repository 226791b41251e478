/- Of this proof. -/
import Derived.Test.YtbeaonmepfkmmaaGreatGlH
import Derived.Test.YtbeaonmepfkmmaaGreatGku
import Derived.Test.YtbeaonmepfkmmaaGreatGoD
import Derived.Test.YtbeaonmepfkmmaaGreatGkg
set_option linter.unusedSimpArgs false
set_option linter.unusedVariables false
namespace Gi
open Go Go.RowKit
set_option maxHeartbeats 8000000
set_option maxRecDepth 4000
attribute [local simp] start nx bZ cJ cB dB cA dA dG dF og oA oh oB ol oC om oD oq oE ot oF ou oG ov oH oz oI V.cells plain bt gD isInt isStr isBool bin bM fF bN fG dC un asList L.view au V.view viewL aT az bQ bd b6 comp aN bU cy bI aY aW aX ar aj aE ah aq aO am aR bw aA aZ a9 V.flat L.flat cZ cV br putAt thaw thawL thawT V.ow dE cD cE bO dD bP cC freezeVs freezeLs freezeL V.mut L.mut aH cd eW bg bF aP dN cu bK cH L.ren aJ cS bX cY bW bE wp_seq wp_block aM cG bR bf bS wp_skip wp_exit wp_ret b9 b8 cj ca cr ct cq bH aF L.notArr bq bo bp cF b7 storeD aS eB ba bY aQ kX L.mov L.closed V.closed PV.bare PV.flat
def RA (o:XOp):List (List UInt8):=[o.store,iH o.key,kY o.rcd,o.field]
theorem Lu (o:XOp):tq o=jZ o.kind.toNat++(RA o).flatMap ny:=by simp[tq,FZ,wC,RA]
theorem H5 {o:XOp}(h:jU o=true):(∀p∈RA o,p.length≤200)∧1≤o.kind∧o.kind≤6:=by
 obtain⟨⟨h1,h2,h3,h4⟩,_⟩:=Em h
 simp only[wC]at h1 h2 h3 h4
 refine⟨fun p m=> ?_,?_⟩
 ·simp only[RA,List.mem_cons,List.not_mem_nil,or_false]at m
  rcases m with rfl|rfl|rfl|rfl<;>omega
 ·unfold jU at h
  simp only[Bool.and_eq_true,tN]at h
  exact h.1
theorem Hm (s:List UInt8):(ny s).length≤s.length+6:=by
 have:=jY s.length
 simp only[ny,List.length_append];omega
theorem sy {α:Type}{f:α→List UInt8}{c:Nat}:∀{l:List α},(∀a∈l,(f a).length≤c)→(l.flatMap f).length≤c*l.length
 |[],_=>by simp
 |a::l,h=>by
  have h1:=h a (by simp)
  have ih:=sy (l:=l) fun b m=>h b (by simp[m])
  simp only[List.flatMap_cons,List.length_append,List.length_cons,Nat.mul_add,Nat.mul_one]
  omega
theorem De {o:XOp}(h:jU o=true):(tq o).length≤830:=by
 have h1:=jY o.kind.toNat
 have h2:=sy (f:=ny) (c:=206) (l:=RA o) fun p m=>by have:=(H5 h).1 p m;have:=Hm p;omega
 rw[Lu,List.length_append]
 rw[show(RA o).length=4 from rfl]at h2
 omega
def Ba (l:List XOp):V:=cond (xU l) (bi (ae (kV l))) (.one (.own 1 []))
theorem Ey (l:List XOp):cZ (Ba l)=bi (ae (kV l)):=by
 unfold Ba
 cases c:xU l
 ·simp[kV,c,cZ,cV,ae]
 ·rfl
theorem Ta {l:List XOp}(h:xU l=true):l.length≤6∧∀o∈l,jU o=true:=by
 unfold xU at h
 rw[Bool.and_eq_true,List.all_eq_true]at h
 have:=of_decide_eq_true h.2
 exact⟨by omega,h.1⟩
theorem vL {α:Type}{f:α→List UInt8}{l:List α}{k:Nat}(hk:k<l.length):(l.take (k+1)).flatMap f=(l.take k).flatMap f++f l[k]:=by
 rw[List.take_succ_eq_append_getElem hk,List.flatMap_append];simp
theorem LO {W a b c d:List UInt8}(hW:W.length≤6006)(h:∀p∈[a,b,c,d],p.length≤200):∃Z:Nat→List UInt8,Z 0=W∧Z 4=W++[a,b,c,d].flatMap ny∧∀(j:Nat)(hj:j<[a,b,c,d].length),
 ag Ph aC 248 [bi (ae (Z j)),bi (ae [a,b,c,d][j])]=some (.one (.own 1 (ae (Z (j+1))))):=by
 refine⟨fun j=>W++([a,b,c,d].take j).flatMap ny,by simp,by simp,fun j hj=> ?_⟩
 have h1:=h _ (List.getElem_mem hj)
 have h2:=sy (f:=ny) (c:=206) (l:=[a,b,c,d].take j) fun p m=>by have:=h p (List.mem_of_mem_take m);have:=Hm p;omega
 have h3:([a,b,c,d].take j).length≤4:=by rw[List.length_take];exact Nat.le_trans (Nat.min_le_right _ _) (by simp)
 have e:=pn (b:=W++([a,b,c,d].take j).flatMap ny) (s:=[a,b,c,d][j]) (by rw[List.length_append];omega) (by omega)
 rw[List.append_assoc,←vL hj]at e
 exact e
theorem yD {l:List XOp}(hl:l.length≤maxLen)(ok:∀o∈l,o.Ok maxLen):ag Ph aC 583 [bi (l.map XOp.e)]=some (Ba l):=by
 have e0:=Ec hl ok
 unfold Ba
 refine aa (fn:=kK) rfl ?_
 cases c:xU l<;>rw[c]at e0
 ·simp(maxSteps:=9999999) [kK,e0]
 obtain⟨hl6,hall⟩:=Ta c
 have e1:ag Ph aC 247 [bi [],ai .i64 l.length]=some (.one (.own 1 (ae (jZ l.length)))):=fH (b:=[]) (by simp) (n:=l.length) (by omega)
 have hE:kV l=jZ l.length++l.flatMap tq:=by unfold kV;rw[c];rfl
 have hul:=jY l.length
 simp(maxSteps:=9999999) [kK,e0,e1]
 refine aL bG Cl.fin [.f,.f,.f,.t,.f,.f,.f,.f,.f,.f,.f,.f,.f,.f,.f,.t,.t,.t,.f,.f,.f,.f,.f,.f,.f,.f,.f,.f,.f,.f,.f,.f,.f,.f,.f,.f,.f,.f,.f,.f,.f,.f,.f,.f,.f,.f,.f,.f,.f] (fun k=>[(3,bi (ae (jZ l.length++(l.take k).flatMap tq))),(17,ai .i64 k)]) l.length (fun _=>false) rfl (by simp) (fun k hk _=> ?_) (fun _ _=> ?_)
 ·have hm:=List.getElem_mem hk
  have ho:=hall _ hm
  have hok:=ok _ hm
  have hx:=xQ l[k]
  obtain⟨hp,hk1,hk2⟩:=H5 ho
  have hw:(jZ l.length++(l.take k).flatMap tq).length≤6000:=by
   have:=sy (f:=tq) (c:=830) (l:=l.take k) fun o m=>De (hall o (List.mem_of_mem_take m))
   rw[List.length_append]
   rw[List.length_take]at this
   have:830*min k l.length≤830*6:=Nat.mul_le_mul (Nat.le_refl _) (by omega)
   omega
  have hn:jZ l.length++(l.take (k+1)).flatMap tq=jZ l.length++(l.take k).flatMap tq++jZ l[k].kind.toNat++(RA l[k]).flatMap ny:=by rw[vL hk,Lu];simp
  have w1:=aU hl hk
  have w2:=a8 hk
  rw[hn]
  generalize jZ l.length++(l.take k).flatMap tq=W at*
  have e2:=fH (b:=W) (by omega) (n:=l[k].kind.toNat) (by omega)
  rw[show((l[k].kind.toNat:Nat):Int)=l[k].kind by omega]at e2
  have e3:=jT hok.2.2.1
  have e4:=km hok.2.2.2.1
  have e5:=qB l[k].rcd
  have hW2:(W++jZ l[k].kind.toNat).length≤6006:=by have:=jY l[k].kind.toNat;rw[List.length_append];omega
  generalize W++jZ l[k].kind.toNat=W2 at*
  generalize t8 l[k].rcd=ev at*
  rw[show RA l[k]=[l[k].store,iH l[k].key,kY l[k].rcd,l[k].field]from rfl]at*
  generalize iH l[k].key=ek at*
  generalize kY l[k].rcd=er at*
  obtain⟨Z,z0,z4,zs⟩:=LO hW2 hp
  rw[←z4]
  have s0:=zs 0 (by simp)
  have s1:=zs 1 (by simp)
  have s2:=zs 2 (by simp)
  have s3:=zs 3 (by simp)
  simp only[List.getElem_cons_zero,List.getElem_cons_succ,Nat.reduceAdd]at s0 s1 s2 s3
  rw[←z0]at e2
  simp(maxSteps:=9999999) [jh,hk,hx,e2,e3,e4, ↓e5,w1,w2]
  refine aL bG Cl.kn [.f,.f,.f,.t,.f,.f,.f,.f,.f,.f,.f,.f,.f,.f,.f,.t,.t,.t,.f,.f,.f,.f,.f,.f,.f,.f,.f,.f,.f,.f,.f,.f,.f,.f,.f,.f,.f,.t,.t,.t,.f,.f,.f,.f,.f,.f,.f,.f,.f] (fun j=>[(3,bi (ae (Z j))),(39,ai .i64 j)]) 4 (fun _=>false) rfl (by simp) (fun j hj _=> ?_) (fun _ _=> ?_)
  ·have hj4:j=0∨j=1∨j=2∨j=3:=by omega
   rcases hj4 with rfl|rfl|rfl|rfl<;>simp(maxSteps:=9999999) [gY,s0,s1,s2,s3,show cw 0 4=true from rfl,show cw 1 4=true from rfl,show cw 2 4=true from rfl,show cw 3 4=true from rfl,show IntKind.i64.wrap 1=1 from rfl,show IntKind.i64.wrap 2=2 from rfl,show IntKind.i64.wrap 3=3 from rfl,show IntKind.i64.wrap 4=4 from rfl]
  ·simp(maxSteps:=9999999) [gY,show cw 4 4=false from rfl,w1]
 ·rw[hE,List.take_length]
  simp(maxSteps:=9999999) [jh]
theorem Mm {W a b c d:List UInt8}(hW:W.length≤6006)(h:∀p∈[a,b,c,d],p.length≤200):∃Z:Nat→List UInt8,Z 0=W∧Z 4=W++[a,b,c,d].flatMap ny∧∀(j:Nat)(hj:j<[a,b,c,d].length),
 ag Ph aC 245 [bi (ae (Z j)),bi (ae [a,b,c,d][j])]=some (.one (.own 1 (ae (Z (j+1))))):=by
 refine⟨fun j=>W++([a,b,c,d].take j).flatMap ny,by simp,by simp,fun j hj=> ?_⟩
 have h1:=h _ (List.getElem_mem hj)
 have h2:=sy (f:=ny) (c:=206) (l:=[a,b,c,d].take j) fun p m=>by have:=h p (List.mem_of_mem_take m);have:=Hm p;omega
 have h3:([a,b,c,d].take j).length≤4:=by rw[List.length_take];exact Nat.le_trans (Nat.min_le_right _ _) (by simp)
 have e:=pt (b:=W++([a,b,c,d].take j).flatMap ny) (s:=[a,b,c,d][j]) (by rw[List.length_append];omega) (by omega)
 rw[List.append_assoc,←vL hj]at e
 exact e
theorem Oh {l:List XOp}(hl:l.length≤6):xU l= !(lc l.length (pz (fun o=> !(jU o)) l)):=by
 unfold xU
 rw[IY,show decide ((l.length:Int)≤6)=true from decide_eq_true (by omega),Bool.and_true]
theorem ze {l:List XOp}(hl:l.length≤6)(ok:∀o∈l,o.Ok maxLen):ag Ph aC 576 [bi (l.map XOp.e)]=some (Ba l):=by
 have hlm:l.length≤maxLen:=by unfold maxLen;omega
 have hany:=Oh hl
 unfold Ba
 refine aa (fn:=nP) rfl ?_
 have e1:ag Ph aC 244 [bi [],ai .i64 l.length]=some (.one (.own 1 (ae (jZ l.length)))):=fI (b:=[]) (by simp) (n:=l.length) (by omega)
 have hul:=jY l.length
 simp(maxSteps:=9999999) [nP,e1]
 refine aL bG Cl.fin [.t,.f,.f,.t,.t,.f,.f,.f,.f,.f,.f,.f,.f,.f,.f,.f,.f,.f,.f,.f,.f,.f,.f,.f,.f,.f,.f,.f,.f,.f,.f,.f,.f,.f,.f,.f,.f,.f,.f,.f,.f,.f,.f,.f,.f,.f,.f,.f,.f,.f,.f,.f,.f,.f,.f,.f,.f,.f,.f,.f,.f,.f,.f,.f] (fun k=>[(3,bi (ae (jZ l.length++(l.take k).flatMap tq))),(4,ai .i64 k)]) l.length (pz (fun o=> !(jU o)) l) rfl (by simp) (fun k hk hp=> ?_) (fun _ hp=> ?_)
 ·have hm:=List.getElem_mem hk
  have hok:=ok _ hm
  have hx:=xQ l[k]
  have e0:=zh hok
  have hall:∀j(hj:j<l.length),j<k→jU l[j]=true:=fun j hj hjk=>by
   have:=hp j hjk
   simpa only[pz,hj,List.getElem?_eq_getElem,Bool.not_eq_false']using this
  have hat:pz (fun o=> !(jU o)) l k= !(jU l[k]):=by simp[pz,hk]
  have w1:=aU hlm hk
  have w2:=a8 hk
  rw[hat]
  cases ho:jU l[k]with
  |false=>
   rw[ho]at e0
   rw[hany]
   simp(maxSteps:=9999999) [hC,hk,hx,e0,w2]
   intro hq
   rw[hq]
   simp(maxSteps:=9999999) []
  |true=>
   rw[ho]at e0
   obtain⟨hp',hk1,hk2⟩:=H5 ho
   have hw:(jZ l.length++(l.take k).flatMap tq).length≤6000:=by
    have:=sy (f:=tq) (c:=830) (l:=l.take k) fun o m=>by
     obtain⟨j,hj,rfl⟩:=List.mem_iff_getElem.1 m
     rw[List.length_take]at hj
     rw[List.getElem_take]
     exact De (hall j (by omega) (by omega))
    rw[List.length_append]
    rw[List.length_take]at this
    have:830*min k l.length≤830*6:=Nat.mul_le_mul (Nat.le_refl _) (by omega)
    omega
   have hn:jZ l.length++(l.take (k+1)).flatMap tq=jZ l.length++(l.take k).flatMap tq++jZ l[k].kind.toNat++(RA l[k]).flatMap ny:=by rw[vL hk,Lu];simp
   rw[hn]
   generalize jZ l.length++(l.take k).flatMap tq=W at*
   have e2:=fI (b:=W) (by omega) (n:=l[k].kind.toNat) (by omega)
   rw[show((l[k].kind.toNat:Nat):Int)=l[k].kind by omega]at e2
   have e3:=rp hok.2.2.1
   have e4:=oN hok.2.2.2.1
   have e5:=qB l[k].rcd
   have hW2:(W++jZ l[k].kind.toNat).length≤6006:=by have:=jY l[k].kind.toNat;rw[List.length_append];omega
   generalize W++jZ l[k].kind.toNat=W2 at*
   generalize t8 l[k].rcd=ev at*
   rw[show RA l[k]=[l[k].store,iH l[k].key,kY l[k].rcd,l[k].field]from rfl]at*
   generalize iH l[k].key=ek at*
   generalize kY l[k].rcd=er at*
   obtain⟨Z,z0,z4,zs⟩:=Mm hW2 hp'
   rw[←z4]
   have s0:=zs 0 (by simp)
   have s1:=zs 1 (by simp)
   have s2:=zs 2 (by simp)
   have s3:=zs 3 (by simp)
   simp only[List.getElem_cons_zero,List.getElem_cons_succ,Nat.reduceAdd]at s0 s1 s2 s3
   rw[←z0]at e2
   simp(maxSteps:=9999999) [hC,hk,hx,e0,e2,e3,e4, ↓e5,s0,s1,s2,s3,w1,w2]
 ·have c:xU l=true:=by rw[hany,hp];rfl
  have hE:kV l=jZ l.length++l.flatMap tq:=by unfold kV;rw[c];rfl
  have c6:cw 6 (l.length:Int)=false:=fB (by omega)
  rw[c,hE,List.take_length]
  simp(maxSteps:=9999999) [hC,c6]
abbrev bV (x:List UInt8)(y:Nat)(z:Bool):V:= .tup [(false,[.own 1 (ae x)]),(false,[.pv (.int .i64 (y:Int))]),(false,[.pv (.bool z)])]
theorem Q2 {s:List UInt8}{a:Nat}(h:a≤s.length):∃(n y:Nat)(z:Bool),sL (s.drop a) a=v3 n y z∧y≤s.length∧(z=true→te (s.drop a)=some (n,y-a)∧a≤y)∧(z=false→te (s.drop a)=none):=by
 unfold sL
 cases e:te (s.drop a)with
 |none=>exact⟨0,0,false,rfl,Nat.zero_le _,nofun,fun _=>rfl⟩
 |some p=>
  obtain⟨n,k⟩:=p
  have:=lG e
  simp only[List.length_drop]at this
  exact⟨n,a+k,true,rfl,by omega,fun _=>⟨by simp,by omega⟩,nofun⟩
theorem uT {s:List UInt8}{a:Nat}(h:a≤s.length)(m:Nat):∃(x:List UInt8)(y:Nat)(z:Bool),td (s.drop a) a m=bV x y z∧y≤s.length∧x.length≤s.length∧(z=true→Cm m (s.drop a)=some (x,y-a)∧a≤y)∧(z=false→Cm m (s.drop a)=none):=by
 unfold td
 cases e:Cm m (s.drop a)with
 |none=>exact⟨[],0,false,rfl,Nat.zero_le _,Nat.zero_le _,nofun,fun _=>rfl⟩
 |some p=>
  obtain⟨x,k⟩:=p
  have:=jW (fi e).1
  simp only[List.length_drop]at this
  exact⟨x,a+k,true,rfl,by omega,by omega,fun _=>⟨by simp,by omega⟩,nofun⟩
abbrev mO :Nat×Nat×Nat×Nat:=(100,100,200,100)
def Uu (o:XOp):List L:=[.pv (.int .i64 o.kind), .pv (.str o.store), .pv (.int .i64 o.key.kind), .pv (.int .i64 o.key.n), .pv (.str o.key.text),lL (o.rcd.fs.map XField.e), .pv (.str o.field)]
def OR (D:List UInt8)(a:Nat):V:=match um mO D with
 |none=> .tup [(true,[.pv (.int .i64 0), .pv (.str []), .pv (.int .i64 0), .pv (.int .i64 0), .pv (.str []), .nil, .pv (.str [])]),(false,[.pv (.int .i64 0)]),(false,[.pv (.bool false)])]
 |some (r,k)=> .tup [(true,Uu (kR r)),(false,[.pv (.int .i64 ((a+k:Nat):Int))]),(false,[.pv (.bool true)])]
theorem AH {D:List UInt8}{a:Nat}(h:um mO D=none):OR D a= .tup [(true,[.pv (.int .i64 0), .pv (.str []), .pv (.int .i64 0), .pv (.int .i64 0), .pv (.str []), .nil, .pv (.str [])]),(false,[.pv (.int .i64 0)]),(false,[.pv (.bool false)])]:=by unfold OR;rw[h]
theorem vj {s:List UInt8}(hl:s.length≤1048576){a:Nat}(ha:a≤s.length):ag Ph aC 575 [bi (ae s),ai .i64 a]=some (OR (s.drop a) a):=by
 have r0:=dQ hl (a:=a) (by omega)
 obtain⟨n,y0,z0,q0,h0,t0,f0⟩:=Q2 ha
 rw[q0]at r0
 have r1:ag Ph aC 572 [bi (ae s),ai .i64 y0,ai .i64 100]=some (td (s.drop y0) y0 100):=eE hl h0 (m:=100) (by omega)
 obtain⟨x1,y1,z1,q1,h1,l1,t1,f1⟩:=uT h0 100
 rw[q1]at r1
 have r2:ag Ph aC 572 [bi (ae s),ai .i64 y1,ai .i64 100]=some (td (s.drop y1) y1 100):=eE hl h1 (m:=100) (by omega)
 obtain⟨x2,y2,z2,q2,h2,l2,t2,f2⟩:=uT h1 100
 rw[q2]at r2
 have r3:ag Ph aC 572 [bi (ae s),ai .i64 y2,ai .i64 200]=some (td (s.drop y2) y2 200):=eE hl h2 (m:=200) (by omega)
 obtain⟨x3,y3,z3,q3,h3,l3,t3,f3⟩:=uT h2 200
 rw[q3]at r3
 have r4:ag Ph aC 572 [bi (ae s),ai .i64 y3,ai .i64 100]=some (td (s.drop y3) y3 100):=eE hl h3 (m:=100) (by omega)
 obtain⟨x4,y4,z4,q4,h4,l4,t4,f4⟩:=uT h3 100
 rw[q4]at r4
 clear q0 q1 q2 q3 q4
 refine aa (fn:=gK) rfl ?_
 cases z0 with
 |false=>
  rw[AH (by unfold um;rw[f0 rfl])]
  simp(maxSteps:=9999999) [gK,r0,r1,r2,r3,r4]
 |true=>
  obtain⟨g0,g0'⟩:=t0 rfl
  cases z1 with
  |false=>
   have e:um mO (s.drop a)=none:=by unfold um;rw[g0];simp only[List.drop_drop,show a+(y0-a)=y0 by omega,f1 rfl]
   rw[AH e]
   simp(maxSteps:=9999999) [gK,r0,r1,r2,r3,r4]
  |true=>
   obtain⟨g1,g1'⟩:=t1 rfl
   cases z2 with
   |false=>
    have e:um mO (s.drop a)=none:=by unfold um;rw[g0];simp only[List.drop_drop,show a+(y0-a)=y0 by omega,g1,show a+(y0-a+(y1-y0))=y1 by omega,f2 rfl]
    rw[AH e]
    simp(maxSteps:=9999999) [gK,r0,r1,r2,r3,r4]
   |true=>
    obtain⟨g2,g2'⟩:=t2 rfl
    cases z3 with
    |false=>
     have e:um mO (s.drop a)=none:=by unfold um;rw[g0];simp only[List.drop_drop,show a+(y0-a)=y0 by omega,g1,show a+(y0-a+(y1-y0))=y1 by omega,g2,show a+(y0-a+(y1-y0)+(y2-y1))=y2 by omega,f3 rfl]
     rw[AH e]
     simp(maxSteps:=9999999) [gK,r0,r1,r2,r3,r4]
    |true=>
     obtain⟨g3,g3'⟩:=t3 rfl
     cases z4 with
     |false=>
      have e:um mO (s.drop a)=none:=by unfold um;rw[g0];simp only[List.drop_drop,show a+(y0-a)=y0 by omega,g1,show a+(y0-a+(y1-y0))=y1 by omega,g2,show a+(y0-a+(y1-y0)+(y2-y1))=y2 by omega,g3,show a+(y0-a+(y1-y0)+(y2-y1)+(y3-y2))=y3 by omega,f4 rfl]
      rw[AH e]
      simp(maxSteps:=9999999) [gK,r0,r1,r2,r3,r4]
     |true=>
      obtain⟨g4,g4'⟩:=t4 rfl
      have e:um mO (s.drop a)=some (⟨n,x1,x2,x3,x4⟩,y4-a):=by unfold um;rw[g0];simp only[List.drop_drop,show a+(y0-a)=y0 by omega,g1,show a+(y0-a+(y1-y0))=y1 by omega,g2,show a+(y0-a+(y1-y0)+(y2-y1))=y2 by omega,g3,show a+(y0-a+(y1-y0)+(y2-y1)+(y3-y2))=y3 by omega,g4];congr 2;omega
      have e':OR (s.drop a) a= .tup [(true,Uu (kR ⟨n,x1,x2,x3,x4⟩)),(false,[.pv (.int .i64 (y4:Int))]),(false,[.pv (.bool true)])]:=by unfold OR;rw[e];simp only[show a+(y4-a)=y4 by omega]
      rw[e']
      have k1:=zd (b:=x2) (by omega)
      have k2:=u0 (b:=x3) (by omega)
      simp only[Uu,kR]
      generalize uA x2=dk at*
      generalize v5 x3=dr at*
      simp only[t7]at k1
      simp only[sp]at k2
      simp(maxSteps:=9999999) [gK,r0,r1,r2,r3,r4,k1,k2,fL, ↓aA, ↓aj, ↓aq]
theorem MV (b:List UInt8):(uA b).1.Ok maxLen:=by
 have z:(⟨0,0,[]⟩:XKey).Ok maxLen:=⟨by simp[jt],by simp[jt],by simp⟩
 unfold uA
 split
 ·exact z
 ·split
  ·rename_i k _ h
   obtain⟨h1,h2,h3,h4,_,h6⟩:=sE h
   exact⟨by simp only[jt];omega,by simp only[jt];omega,by unfold maxLen;simp only;omega⟩
  ·exact z
theorem MW (b:List UInt8):(v5 b).1.Ok maxLen:=by
 have z:(⟨[]⟩:XRecord).Ok maxLen:=⟨by simp,fun f h=>by simp at h⟩
 unfold v5
 split
 ·exact z
 ·split
  ·rename_i r k _ h
   obtain⟨h1,h2⟩:=pU h.2
   refine⟨by unfold maxLen;simp only;omega,fun f m=> ?_⟩
   obtain⟨q1,q2,q3⟩:=h2 f m
   exact⟨by unfold maxLen;omega,by unfold jt;omega⟩
  ·exact z
theorem CG {m:Nat×Nat×Nat×Nat}{b:List UInt8}{r:Raw}{k:Nat}(h:um m b=some (r,k)):0<k∧k≤b.length∧r.kind≤1000000000000∧r.a.length≤m.1∧r.d.length≤m.2.2.2:=by
 unfold um at h
 split at h
 ·cases h
 ·rename_i n k0 e0
  split at h
  ·cases h
  ·rename_i p k1 e1
   split at h
   ·cases h
   ·rename_i q k2 e2
    split at h
    ·cases h
    ·rename_i u k3 e3
     split at h
     ·cases h
     ·rename_i s k4 e4
      simp only[Option.some.injEq,Prod.mk.injEq]at h
      obtain⟨rfl,rfl⟩:=h
      have g0:=lG e0
      have g1:=jW (fi e1).1
      have g2:=jW (fi e2).1
      have g3:=jW (fi e3).1
      have g4:=jW (fi e4).1
      simp only[List.length_drop]at g1 g2 g3 g4
      exact⟨by omega,by omega,g0.2.2,(fi e1).2,(fi e4).2⟩
theorem Sm {b:List UInt8}{r:Raw}{k:Nat}(h:um mO b=some (r,k)):(kR r).Ok maxLen:=by
 obtain⟨_,_,h1,h2,h3⟩:=CG h
 simp only at h2 h3
 exact⟨by simp only[kR,jt];omega,by unfold maxLen;simp only[kR];omega,MV _,MW _,by unfold maxLen;simp only[kR];omega⟩
def AM (m:Nat×Nat×Nat×Nat)(s:List UInt8)(n:Nat)(a:Nat×List XOp):Option (Nat×List XOp):=if a.2.length<n then(match um m (s.drop a.1)with
 |none=>none
 |some (r,k)=>some (a.1+k,a.2++[kR r]))else none
def TJ (m:Nat×Nat×Nat×Nat)(s:List UInt8)(n a0:Nat)(a:Nat×List XOp):Prop:=a.1≤s.length∧a0≤a.1∧a.2.length≤n∧(nf m n (s.drop a0)).map (·.map kR)=(nf m (n-a.2.length) (s.drop a.1)).map fun l=>a.2++l.map kR
theorem SP {m:Nat×Nat×Nat×Nat}{s:List UInt8}{n a0:Nat}(h:a0≤s.length):TJ m s n a0 (a0,[]):=⟨h,Nat.le_refl _,Nat.zero_le _,by
 show _=Option.map _ (nf m n (s.drop a0))
 cases nf m n (s.drop a0)<;>simp⟩
theorem Ka {m:Nat×Nat×Nat×Nat}{s:List UInt8}{n a0:Nat}{a b:Nat×List XOp}(ia:TJ m s n a0 a)(h:AM m s n a=some b):∃r k,a.2.length<n∧um m (s.drop a.1)=some (r,k)∧b=(a.1+k,a.2++[kR r])∧s.length-b.1<s.length-a.1∧TJ m s n a0 b:=by
 obtain⟨h1,h2,h3,h4⟩:=ia
 unfold AM at h
 split at h
 ·rename_i hn
  split at h
  ·cases h
  ·rename_i r k e1
   cases h
   have q1:=CG e1
   simp only[List.length_drop]at q1
   refine⟨r,k,hn,e1,rfl,by simp only;omega,by simp only;omega,by simp only;omega,by simp only[List.length_append,List.length_singleton];omega,?_⟩
   obtain⟨j,hj⟩:∃j,n-a.2.length=j+1:=⟨n-a.2.length-1,by omega⟩
   have hj2:n-(a.2++[kR r]).length=j:=by simp only[List.length_append,List.length_singleton];omega
   rw[h4,hj,hj2]
   simp only[nf,e1,List.drop_drop]
   cases nf m j (s.drop (a.1+k))with
   |none=>rfl
   |some p=>simp
 ·cases h
theorem No {m:Nat×Nat×Nat×Nat}{s:List UInt8}{n a0:Nat}{a:Nat×List XOp}(ia:TJ m s n a0 a)(h:AM m s n a=none):
 (a.2.length=n∧(nf m n (s.drop a0)).map (·.map kR)=some a.2)∨(a.2.length<n∧nf m n (s.drop a0)=none∧um m (s.drop a.1)=none):=by
 obtain⟨h1,h2,h3,h4⟩:=ia
 unfold AM at h
 split at h
 ·rename_i hn
  obtain⟨j,hj⟩:∃j,n-a.2.length=j+1:=⟨n-a.2.length-1,by omega⟩
  rw[hj]at h4
  split at h
  ·rename_i e1
   refine .inr ⟨hn,?_,e1⟩
   simp only[nf,e1,Option.map_none,Option.map_eq_none_iff]at h4
   exact h4
  ·cases h
 ·have hn:a.2.length=n:=by omega
  refine .inl ⟨hn,?_⟩
  rw[h4,show n-a.2.length=0 by omega]
  simp[nf]
theorem Nt {m:Nat×Nat×Nat×Nat}{b:List UInt8}{n k:Nat}{l:List XOp}(h:te b=some (n,k))(hn:n≤6)(hf:(nf m n (b.drop k)).map (·.map kR)=some l):kw m b=some l:=by
 unfold kw;rw[h];simp only[if_pos hn]
 cases e:nf m n (b.drop k)with
 |none=>rw[e]at hf;cases hf
 |some p=>rw[e]at hf;exact hf
theorem Ns {m:Nat×Nat×Nat×Nat}{b:List UInt8}{n k:Nat}(h:te b=some (n,k))(hf:nf m n (b.drop k)=none):kw m b=none:=by unfold kw;rw[h];simp only[hf];split<;>rfl
theorem Nr {m:Nat×Nat×Nat×Nat}{b:List UInt8}{n k:Nat}(h:te b=some (n,k))(hn:¬n≤6):kw m b=none:=by unfold kw;rw[h];simp only[if_neg hn]
def nC (p:List XOp×Bool):V:= .tup [(false,[bif p.2 then .pv (.lst (p.1.map XOp.e))else .own 7 []]),(false,[.pv (.bool p.2)])]
theorem zO {m:Nat×Nat×Nat×Nat}{b:List UInt8}(h:kw m b=none):lM m b=([],false):=by unfold lM;rw[h]
theorem P7 {m:Nat×Nat×Nat×Nat}{b:List UInt8}{l:List XOp}(h:kw m b=some l):lM m b=if kV l==b then(l,true)else([],false):=by
 unfold lM;rw[h]
 by_cases c:kV l=b<;>simp[c]
theorem ro {b:List UInt8}(hl:b.length≤1048576):ag Ph aC 560 [bi (ae b)]=some (nC (lM mO b)):=by
 have e1:ag Ph aC 573 [bi (ae b),ai .i64 0]=some (sL b 0):=dQ hl (a:=0) (by omega)
 cases e:te b with
 |none=>
  rw[zO (by unfold kw;rw[e])]
  simp only[sL,e]at e1
  refine aa (fn:=fO) rfl ?_
  simp(maxSteps:=9999999) [fO,e1,nC]
 |some p=>
  obtain⟨n,k⟩:=p
  simp only[sL,e,Nat.zero_add]at e1
  obtain⟨k1,k2,k3⟩:=lG e
  have b1:cw 6 (n:Int)=decide (6<n):=decide_eq_decide.2 (by omega)
  by_cases hn:n≤6
  rotate_left
  ·have d1:6<n:=by omega
   rw[zO (Nr e hn)]
   refine aa (fn:=fO) rfl ?_
   simp(maxSteps:=9999999) [fO,e1,b1,d1,nC]
  have d1:¬6<n:=by omega
  refine aa (fn:=fO) rfl ?_
  simp(maxSteps:=9999999) [fO,e1,b1,d1]
  refine pk bG Cl.fin [.t,.f,.f,.f,.t,.t,.f,.t,.t,.f,.f,.f,.f,.f,.f,.f,.f,.f,.f,.f,.f,.f,.f,.f,.f,.f,.f,.f,.f,.f,.f,.f,.f,.f,.f,.f,.f,.f,.f,.f,.f,.f,.f,.f,.f,.f,.f,.f,.f,.f,.f,.f,.f] (fun a=>[(5,ai .i64 (a.1:Nat)),(7, .one (.arr 0)),(8,ai .i64 (a.2.length:Nat))]) (fun a=>[.arr 7 (a.2.map XOp.e)]) (AM mO b n) (fun a=>b.length-a.1) (fun a=>TJ mO b n k a∧∀o∈a.2,o.Ok maxLen) (k,[]) ⟨SP k2,fun o h=>by simp at h⟩ rfl (by simp) (fun a a' ia ha=> ?_) (fun a ia ha=> ?_)
  ·obtain⟨a,l⟩:=a
   obtain⟨ia,iok⟩:=ia
   obtain⟨r,kk,q0,q1,rfl,q6,q7⟩:=Ka ia ha
   refine⟨q6,⟨q7,fun o m=> ?_⟩,?_⟩
   ·rcases List.mem_append.1 m with m|m
    ·exact iok o m
    ·rw[List.mem_singleton.1 m];exact Sm q1
   have h1:=ia.1
   simp only at h1 q0 q1⊢
   have r1:=vj hl h1
   unfold OR at r1
   rw[q1]at r1
   simp only[Uu]at r1
   have c1:cw (l.length:Int) (n:Int)=true:=eJ (by omega)
   have w1:IntKind.i64.wrap ((l.length:Int)+1)=(l.length:Int)+1:=by rw[IntKind.wrap_i64];omega
   have m1:=gV (m:=l.length+1) (z:=96) (by omega) (by omega)
   have hl2:(l++[kR r]).length=l.length+1:=by simp
   have hm:(l++[kR r]).map XOp.e=l.map XOp.e++[(kR r).e]:=by simp
   rw[hl2,hm,xQ (kR r)]
   have hW:(l.map XOp.e).length=l.length:=by simp
   generalize l.map XOp.e=W at*
   generalize kR r=o at*
   simp(maxSteps:=9999999) [gZ,r1,c1,w1,m1,hW, ↓aA, ↓aj, ↓aq, ↓ar, ↓ah, ↓aE, ↓am,-cd]
   exact Kn.of [3] (by decide) (by simp) (by simp)
  ·obtain⟨a,l⟩:=a
   obtain⟨ia,iok⟩:=ia
   have h1:=ia.1
   simp only at h1 iok⊢
   have c1:cw (l.length:Int) (n:Int)=decide (l.length<n):=decide_eq_decide.2 (by omega)
   rcases No ia ha with⟨g1,g2⟩|⟨g1,g2,g3⟩
   ·simp only at g1 g2
    have c2:¬l.length<n:=by omega
    rw[P7 (Nt e hn g2)]
    have e4:=ze (by omega) iok
    have e5:=mj (a:=kV l) (b:=b)
    have e6:=Ey l
    generalize Ba l=ev at*
    generalize (kV l==b)=q at*
    generalize kV l=en at*
    cases q<;>simp(maxSteps:=9999999) [gZ,c1,c2,g1,e4,e5, ↓e6,nC]
   ·simp only at g1 g2 g3
    rw[zO (Ns e g2)]
    have r1:=vj hl h1
    rw[AH g3]at r1
    simp(maxSteps:=9999999) [gZ,c1,g1,r1,nC]
end Gi
