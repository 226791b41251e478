/- Of this proof. -/
import Derived.Test.YtbeaonmepfkmmaaGreatGoTd
import Derived.Test.YtbeaonmepfkmmaaGreatGnAd
import Derived.Test.YtbeaonmepfkmmaaGreatGkud
import Derived.Test.YtbeaonmepfkmmaaGreatGoDd
import Derived.Test.YtbeaonmepfkmmaaGreatGkgd
set_option linter.unusedSimpArgs false
set_option linter.unusedVariables false
namespace Gi
open Go Go.RowKit
set_option maxHeartbeats 8000000
set_option maxRecDepth 4000
attribute [local simp] start pa a9 b6 cP dS cO dR d5 dZ pR p5 pS p6 pT p7 pU p8 pV p9 pW qa pX qb pY qc pZ qd V.cells plain bf fO isInt isStr isBool bin bN gA bO gB dV un asList L.view av V.view viewL aR aw bS bq bE comp aK bv cL bK bj bh bi aB aq aH am az aW ap aY bH aI bm bo V.flat L.flat cX cN br putAt thaw thawL thawT V.ow dY cR cS bQ dX bR cQ freezeVs freezeLs freezeL V.mut L.mut aJ cy fQ aX bu aP dN co bG cJ L.ren aM dd bP dq bF bB wp_seq wp_block aV cV bT bt bU wp_skip wp_exit wp_ret ce b9 ct cf cF cG cE bJ aL L.notArr bA bw bz cT b8 storeD aT eS bc bZ aU mf L.mov L.closed V.closed PV.bare PV.flat
def wY (a:Option (XDatabase×List Int))(o:XOp):Option (XDatabase×List Int):=match a with
 |none=>none
 |some (d,ns)=>bif (hC d o).2.2 then some ((hC d o).1,ns++[(hC d o).2.1])else none
def AI (d:XDatabase)(l:List XOp):Option (XDatabase×List Int):=l.foldl wY (some (d,[]))
def GP (d:XDatabase)(l:List XOp):XDatabase×List Int×Bool:=bif nH d&& !(bX 6 l.length)then(match AI d l with
 |some (d',ns)=>(d',ns,true)
 |none=>(d,[],false))else(d,[],false)
theorem uT :∀l:List XOp,l.foldl wY none=none
 |[]=>rfl
 |o::l=>uT l
theorem E9 {d:XDatabase}{l:List XOp}{k:Nat}(hk:k<l.length):AI d (l.take (k+1))=wY (AI d (l.take k)) l[k]:=by
 unfold AI;rw[List.take_succ_eq_append_getElem hk,List.foldl_append];rfl
theorem OI {d:XDatabase}{l:List XOp}{k:Nat}(h:AI d (l.take k)=none):AI d l=none:=by
 have:l=l.take k++l.drop k:=(List.take_append_drop k l).symm
 unfold AI at h⊢
 rw[this,List.foldl_append,h,uT]
def vj (l:List XOp)(a:Nat×XDatabase×List Int):Option (Nat×XDatabase×List Int):=match l[a.1]? with
 |some o=>bif (hC a.2.1 o).2.2 then some (a.1+1,(hC a.2.1 o).1,a.2.2++[(hC a.2.1 o).2.1])else none
 |none=>none
def Ty (d:XDatabase)(l:List XOp)(a:Nat×XDatabase×List Int):Prop:=a.1≤l.length∧a.2.2.length=a.1∧AI d (l.take a.1)=some a.2
theorem SC (d:XDatabase)(l:List XOp):Ty d l (0,d,[]):=⟨Nat.zero_le _,rfl,rfl⟩
theorem Jp {d:XDatabase}{l:List XOp}{k:Nat}{dk:XDatabase}{ns:List Int}{b:Nat×XDatabase×List Int}(ia:Ty d l (k,dk,ns))(h:vj l (k,dk,ns)=some b):
 ∃hk:k<l.length,(hC dk l[k]).2.2=true∧b=(k+1,(hC dk l[k]).1,ns++[(hC dk l[k]).2.1])∧l.length-b.1<l.length-k∧Ty d l b:=by
 obtain⟨h1,h2,h3⟩:=ia
 simp only at h1 h2 h3
 by_cases hk:k<l.length
 ·unfold vj at h
  simp only[List.getElem?_eq_getElem hk]at h
  cases q:(hC dk l[k]).2.2<;>rw[q]at h<;>simp only[cond_true,cond_false]at h
  ·cases h
  ·cases h
   refine⟨hk,q,rfl,by simp only;omega,by simp only;omega,by simp[h2],?_⟩
   simp only
   rw[E9 hk,h3]
   simp only[wY,q,cond_true]
 ·unfold vj at h
  simp only[List.getElem?_eq_none (Nat.not_lt.1 hk)]at h
  cases h
theorem MU {d:XDatabase}{l:List XOp}{k:Nat}{dk:XDatabase}{ns:List Int}(ia:Ty d l (k,dk,ns))(h:vj l (k,dk,ns)=none):
 (k=l.length∧AI d l=some (dk,ns))∨∃hk:k<l.length,AI d l=none∧(hC dk l[k]).2.2=false:=by
 obtain⟨h1,h2,h3⟩:=ia
 simp only at h1 h2 h3
 by_cases hk:k<l.length
 ·unfold vj at h
  simp only[List.getElem?_eq_getElem hk]at h
  cases q:(hC dk l[k]).2.2<;>rw[q]at h<;>simp only[cond_true,cond_false]at h
  ·refine .inr ⟨hk,OI (k:=k+1) ?_,q⟩
   rw[E9 hk,h3]
   simp only[wY,q,cond_false]
  ·cases h
 ·obtain rfl:k=l.length:=by omega
  rw[List.take_length]at h3
  exact .inl ⟨rfl,h3⟩
abbrev zR (d:XDatabase):List L:=[.pv (.str d.name), .pv (.int .i64 d.version),kI (d.stores.map XStore.e), .pv (.lst (d.unique.map XIndexDef.e))]
abbrev Pe (x:XDatabase×List Int×Bool):V:= .tup [(true,zR x.1),(false,[.own 1 (x.2.1.map sj)]),(false,[.pv (.bool x.2.2)])]
theorem wR (d:XDatabase):cX (.agg [.pv (.str d.name), .pv (.int .i64 d.version),nd 3 (d.stores.map XStore.e), .down 2 (d.unique.map XIndexDef.e)])= .agg (zR d):=by simp[cX, ↓bH,cN]
theorem wQ (x:XDatabase×Int×Bool):cX (Py x)= .tup [(true,zR x.1),(false,[.pv (.int .i64 x.2.1)]),(false,[.pv (.bool x.2.2)])]:=by simp[cX, ↓aY,cN]
theorem R9 {B:Nat}(hB:17≤B){d:XDatabase}(h:d.Ok B){l:List XOp}(hl:∀o∈l,o.Ok B){x:XDatabase×List Int}(hx:AI d l=some x):x.1.Ok B:=by
 have key:∀(l:List XOp),(∀o∈l,o.Ok B)→∀(a:Option (XDatabase×List Int)),(∀y,a=some y→y.1.Ok B)→∀y,l.foldl wY a=some y→y.1.Ok B:=by
  intro l
  induction l with
  |nil=>intro _ a ha y hy;exact ha y hy
  |cons o l ih=>
   intro ho a ha
   refine ih (fun x m=>ho x (List.mem_cons_of_mem _ m)) _ (fun y hy=> ?_)
   cases a with
   |none=>cases hy
   |some p=>
    obtain⟨dp,np⟩:=p
    simp only[wY]at hy
    cases q:(hC dp o).2.2<;>rw[q]at hy<;>simp only[cond_true,cond_false]at hy
    ·cases hy
    ·cases hy
     exact GQ hB (ha _ rfl) (ho o List.mem_cons_self)
 exact key l hl _ (fun y hy=>by cases hy;exact h) x hx
theorem Le {B:Nat}(hB:17≤B){d:XDatabase}(h:d.Ok B){l:List XOp}(hl:∀o∈l,o.Ok B):(GP d l).1.Ok B:=by
 unfold GP
 cases nH d&& !(bX 6 l.length)<;>simp only[cond_true,cond_false]
 ·exact h
 ·cases q:AI d l with
  |none=>exact h
  |some x=>exact R9 hB h hl q
theorem Cr {B:Nat}(hB0:17≤B)(hB:B≤1048576){d:XDatabase}(h:d.Ok B){l:List XOp}(hl:∀o∈l,o.Ok B)(hlm:l.length≤maxLen):ah Ph aN 564 [d.v,aQ (l.map XOp.e)]=some (Pe (GP d l)):=by
 have e1:=jy hB h
 have e2:=wR d
 have e3:=kV hB h
 unfold GP
 simp only[zR]at e2
 generalize V.agg [.pv (.str d.name), .pv (.int .i64 d.version),nd 3 (d.stores.map XStore.e), .down 2 (d.unique.map XIndexDef.e)]=nv at*
 cases b1:nH d<;>rw[b1]at e3
 ·simp only[Bool.false_and,cond_false,Pe,zR]
  refine ae (fn:=gU) rfl ?_
  simp(maxSteps:=600000) [gU,e1, ↓e2,e3, ↓az, ↓aq, ↓aB, ↓am, ↓aH, ↓ap]
 cases b2:bX 6 (l.length:Int)
 rotate_left
 ·simp only[Bool.true_and,Bool.not_true,cond_false,Pe,zR]
  refine ae (fn:=gU) rfl ?_
  simp(maxSteps:=600000) [gU,e1, ↓e2,e3,b2, ↓az, ↓aq, ↓aB, ↓am, ↓aH, ↓ap]
 have l6:l.length≤6:=by have:=of_decide_eq_false b2;omega
 simp only[Bool.true_and,Bool.not_false,cond_true]
 refine ae (fn:=gU) rfl ?_
 simp(maxSteps:=600000) [gU,e1, ↓e2,e3,b2, ↓az, ↓aq, ↓aB, ↓am, ↓aH, ↓ap]
 refine nK cC Cl.fin [.f,.f,.t,.f,.t,.f,.f,.t,.t,.f,.f,.f,.f,.f,.f,.f,.f,.f,.f,.f,.f,.f,.f,.f,.f,.f,.f,.t,.t,.t,.f,.f,.f,.f,.f,.f,.f,.f,.f,.f,.f,.f,.f,.f,.f,.f,.f,.f,.f,.f,.f,.f,.f] (fun a=>[(29,aa .i64 (a.1:Nat)),(8, .one (.arr 3))]) (fun a=>[.box [.pv (.str d.name), .pv (.int .i64 d.version), .pv (.lst (d.stores.map XStore.e)), .pv (.lst (d.unique.map XIndexDef.e))], .box [.pv (.str []), .pv (.int .i64 0), .nil, .nil], .box [.pv (.str a.2.1.name), .pv (.int .i64 a.2.1.version),kI (a.2.1.stores.map XStore.e), .pv (.lst (a.2.1.unique.map XIndexDef.e))], .arr 1 (a.2.2.map sj)]) (vj l) (fun a=>l.length-a.1) (fun a=>Ty d l a∧a.2.1.Ok B) (0,d,[]) ⟨SC d l,h⟩ rfl ?_ (fun a a' ia ha=> ?_) (fun a ia ha=> ?_)
 ·exact Kn.of [0,1,2,3] (by decide) (by simp[↓aW]) (by simp)
 ·obtain⟨k,dk,ns⟩:=a
  obtain⟨ia,iok⟩:=ia
  obtain⟨hk,q1,rfl,q2,q3⟩:=Jp ia ha
  simp only at iok q1 hk⊢
  refine⟨q2,⟨q3,GQ hB0 iok (hl _ (List.getElem_mem hk))⟩,?_⟩
  have hx:=vx l[k]
  have e5:=uh hB0 hB iok (hl _ (List.getElem_mem hk))
  have e6:=wQ (hC dk l[k])
  have hn:ns.length=k:=ia.2.1
  have m1:=iz (m:=(ns.map sj).length+1) (z:=8) (by rw[List.length_map];omega) (by omega)
  rw[q1]at e6
  simp only[zR]at e6
  generalize Py (hC dk l[k])=rv at*
  have hm:(ns++[(hC dk l[k]).2.1]).map sj=ns.map sj++[[.int .i64 (hC dk l[k]).2.1]]:=by simp[sj]
  rw[hm]
  generalize (hC dk l[k]).2.1=n1 at*
  generalize (hC dk l[k]).1=d1 at*
  generalize ns.map sj=W at*
  have wk:=bW hlm hk
  have lk:=cB hk
  clear ia ha q1 q2 q3 hm
  simp(maxSteps:=600000) [iP,hk,hx,e5, ↓e6,m1,wk,lk, ↓aI, ↓az, ↓aq, ↓aB, ↓am, ↓aH, ↓ap,-cy]
  exact Kn.of [0,1,2,7] (by decide) (by simp[↓aW]) (by simp)
 ·obtain⟨k,dk,ns⟩:=a
  obtain⟨ia,iok⟩:=ia
  simp only at iok⊢
  rcases MU ia ha with⟨hk,q1⟩|⟨hk,q1,q2⟩
  ·rw[q1]
   subst hk
   have lk:bX (l.length:Int) (l.length:Int)=false:=fK (by omega)
   simp only[Pe,zR]
   simp(maxSteps:=600000) [iP,lk, ↓aI, ↓az, ↓aq, ↓aB, ↓am, ↓aH, ↓ap]
  ·rw[q1]
   have hx:=vx l[k]
   have e5:=uh hB0 hB iok (hl _ (List.getElem_mem hk))
   have e6:=wQ (hC dk l[k])
   rw[q2]at e6
   simp only[zR]at e6
   generalize Py (hC dk l[k])=rv at*
   generalize (hC dk l[k]).2.1=n1 at*
   generalize (hC dk l[k]).1=d1 at*
   have lk:=cB hk
   simp only[Pe,zR]
   clear ia ha q1 q2
   simp(maxSteps:=600000) [iP,hk,hx,e1, ↓e2,e5, ↓e6,lk, ↓aI, ↓az, ↓aq, ↓aB, ↓am, ↓aH, ↓ap]
theorem C8 {B:Nat}(hB0:17≤B)(hB:B≤1048576){d:XDatabase}(h:d.Ok B){l:List XOp}(hl:∀o∈l,o.Ok B)(hlm:l.length≤maxLen):ah Ph aN 561 [d.v,aQ (l.map XOp.e)]=some (Pe (GP d l)):=by
 have e1:=oW hB h
 have e2:=wR d
 have e3:=kZ hB h
 unfold GP
 simp only[zR]at e2
 generalize V.agg [.pv (.str d.name), .pv (.int .i64 d.version),nd 3 (d.stores.map XStore.e), .down 2 (d.unique.map XIndexDef.e)]=nv at*
 cases b1:nH d<;>rw[b1]at e3
 ·simp only[Bool.false_and,cond_false,Pe,zR]
  refine ae (fn:=gV) rfl ?_
  simp(maxSteps:=600000) [gV,e1, ↓e2,e3, ↓az, ↓aq, ↓aB, ↓am, ↓aH, ↓ap]
 cases b2:bX 6 (l.length:Int)
 rotate_left
 ·simp only[Bool.true_and,Bool.not_true,cond_false,Pe,zR]
  refine ae (fn:=gV) rfl ?_
  simp(maxSteps:=600000) [gV,e1, ↓e2,e3,b2, ↓az, ↓aq, ↓aB, ↓am, ↓aH, ↓ap]
 have l6:l.length≤6:=by have:=of_decide_eq_false b2;omega
 simp only[Bool.true_and,Bool.not_false,cond_true]
 refine ae (fn:=gV) rfl ?_
 simp(maxSteps:=600000) [gV,e1, ↓e2,e3,b2, ↓az, ↓aq, ↓aB, ↓am, ↓aH, ↓ap]
 refine nK cC Cl.fin [.f,.t,.t,.f,.t,.f,.f,.t,.t,.t,.f,.f,.f,.f,.f,.f,.f,.f,.f,.f,.f,.f,.f,.f,.f,.f,.f,.f,.f,.f,.f,.f,.f,.f,.f,.f,.f,.f,.f,.f,.f,.f,.f,.f,.f,.f,.f,.f,.f,.f,.f,.f,.f,.f] (fun a=>[(9,aa .i64 (a.1:Nat)),(8, .one (.arr 3))]) (fun a=>[.box [.pv (.str d.name), .pv (.int .i64 d.version), .pv (.lst (d.stores.map XStore.e)), .pv (.lst (d.unique.map XIndexDef.e))], .box [.pv (.str []), .pv (.int .i64 0), .nil, .nil], .box [.pv (.str a.2.1.name), .pv (.int .i64 a.2.1.version),kI (a.2.1.stores.map XStore.e), .pv (.lst (a.2.1.unique.map XIndexDef.e))], .arr 1 (a.2.2.map sj)]) (vj l) (fun a=>l.length-a.1) (fun a=>Ty d l a∧a.2.1.Ok B) (0,d,[]) ⟨SC d l,h⟩ rfl ?_ (fun a a' ia ha=> ?_) (fun a ia ha=> ?_)
 ·exact Kn.of [0,1,2,3] (by decide) (by simp[↓aW]) (by simp)
 ·obtain⟨k,dk,ns⟩:=a
  obtain⟨ia,iok⟩:=ia
  obtain⟨hk,q1,rfl,q2,q3⟩:=Jp ia ha
  simp only at iok q1 hk⊢
  refine⟨q2,⟨q3,GQ hB0 iok (hl _ (List.getElem_mem hk))⟩,?_⟩
  have hx:=vx l[k]
  have e5:=uu hB0 hB iok (hl _ (List.getElem_mem hk))
  have e6:=wQ (hC dk l[k])
  have hn:ns.length=k:=ia.2.1
  have m1:=iz (m:=(ns.map sj).length+1) (z:=8) (by rw[List.length_map];omega) (by omega)
  rw[q1]at e6
  simp only[zR]at e6
  generalize Py (hC dk l[k])=rv at*
  have hm:(ns++[(hC dk l[k]).2.1]).map sj=ns.map sj++[[.int .i64 (hC dk l[k]).2.1]]:=by simp[sj]
  rw[hm]
  generalize (hC dk l[k]).2.1=n1 at*
  generalize (hC dk l[k]).1=d1 at*
  generalize ns.map sj=W at*
  have wk:=bW hlm hk
  have lk:=cB hk
  clear ia ha q1 q2 q3 hm
  simp(maxSteps:=600000) [iQ,hk,hx,e5, ↓e6,m1,wk,lk, ↓aI, ↓az, ↓aq, ↓aB, ↓am, ↓aH, ↓ap,-cy]
  exact Kn.of [0,1,2,6] (by decide) (by simp[↓aW]) (by simp)
 ·obtain⟨k,dk,ns⟩:=a
  obtain⟨ia,iok⟩:=ia
  simp only at iok⊢
  rcases MU ia ha with⟨hk,q1⟩|⟨hk,q1,q2⟩
  ·rw[q1]
   subst hk
   have lk:bX (l.length:Int) (l.length:Int)=false:=fK (by omega)
   simp only[Pe,zR]
   simp(maxSteps:=600000) [iQ,lk, ↓aI, ↓az, ↓aq, ↓aB, ↓am, ↓aH, ↓ap]
  ·rw[q1]
   have hx:=vx l[k]
   have e5:=uu hB0 hB iok (hl _ (List.getElem_mem hk))
   have e6:=wQ (hC dk l[k])
   rw[q2]at e6
   simp only[zR]at e6
   generalize Py (hC dk l[k])=rv at*
   generalize (hC dk l[k]).2.1=n1 at*
   generalize (hC dk l[k]).1=d1 at*
   have lk:=cB hk
   simp only[Pe,zR]
   clear ia ha q1 q2
   simp(maxSteps:=600000) [iQ,hk,hx,e1, ↓e2,e5, ↓e6,lk, ↓aI, ↓az, ↓aq, ↓aB, ↓am, ↓aH, ↓ap]
theorem HI {α:Type}(p:α→Bool)(xs:List α):xs.all p= !(mj xs.length (nR (fun x=> !(p x)) xs)):=by
 cases q:mj xs.length (nR (fun x=> !(p x)) xs)with
 |false=>
  simp only[Bool.not_false,List.all_eq_true]
  intro x hx
  obtain⟨j,hj,rfl⟩:=List.mem_iff_getElem.1 hx
  have:=sn q hj
  simpa only[nR,hj,List.getElem?_eq_getElem,Bool.not_eq_false']using this
 |true=>
  simp only[Bool.not_true]
  rw[Bool.eq_false_iff]
  intro e
  rw[List.all_eq_true]at e
  rw[A8 fun k hk=>by simp only[nR,hk,List.getElem?_eq_getElem,e _ (List.getElem_mem hk)];rfl]at q
  cases q
theorem Cs {l:List XOp}(hl:l.length≤maxLen)(h:∀o∈l,o.Ok maxLen):ah Ph aN 595 [aQ (l.map XOp.e)]=some (aD (vB l)):=by
 rw[show vB l=(!(mj l.length (nR (fun o=> !(ji o)) l))&& !(bX 6 l.length)) by unfold vB;rw[HI,UO]]
 refine ae (fn:=pE) rfl ?_
 simp +contextual (maxSteps:=9999999) [pE]
 refine bD cC Cl.fin [.t,.f,.f,.f,.f,.t,.t,.t,.f,.f,.f,.f,.f,.f,.f,.f,.f,.f] (fun k=>[(7,aa .i64 k)]) l.length (nR (fun o=> !(ji o)) l) rfl (by simp) (fun k hk _=> ?_) (fun _ hp=> ?_)
 ·have e1:=ww (h _ (List.getElem_mem hk))
  simp +contextual (maxSteps:=9999999) [kl,nR,hk,vx l[k],e1,bW hl hk,cB hk]
 ·simp(maxSteps:=9999999) [kl,hp]
def Q8 (o:XOp):List (List UInt8):=[o.store,j3 o.key,nT o.rcd,o.field]
theorem Kq (o:XOp):qY o=jo o.kind.toNat++(Q8 o).flatMap mc:=by simp[qY,Ek,uo,Q8]
theorem GF {o:XOp}(h:ji o=true):(∀p∈Q8 o,p.length≤200)∧1≤o.kind∧o.kind≤6:=by
 obtain⟨⟨h1,h2,h3,h4⟩,_⟩:=CP h
 simp only[uo]at h1 h2 h3 h4
 refine⟨fun p m=> ?_,?_⟩
 ·simp only[Q8,List.mem_cons,List.not_mem_nil,or_false]at m
  rcases m with rfl|rfl|rfl|rfl<;>omega
 ·unfold ji at h
  simp only[Bool.and_eq_true,rH]at h
  exact h.1
theorem FO (s:List UInt8):(mc s).length≤s.length+6:=by
 have:=jn s.length
 simp only[mc,List.length_append];omega
theorem qv {α:Type}{f:α→List UInt8}{c:Nat}:∀{l:List α},(∀a∈l,(f a).length≤c)→(l.flatMap f).length≤c*l.length
 |[],_=>by simp
 |a::l,h=>by
  have h1:=h a (by simp)
  have ih:=qv (l:=l) fun b m=>h b (by simp[m])
  simp only[List.flatMap_cons,List.length_append,List.length_cons,Nat.mul_add,Nat.mul_one]
  omega
theorem Bu {o:XOp}(h:ji o=true):(qY o).length≤830:=by
 have h1:=jn o.kind.toNat
 have h2:=qv (f:=mc) (c:=206) (l:=Q8 o) fun p m=>by have:=(GF h).1 p m;have:=FO p;omega
 rw[Kq,List.length_append]
 rw[show(Q8 o).length=4 from rfl]at h2
 omega
def zg (l:List XOp):V:=cond (vB l) (aQ (ag (jX l))) (.one (.own 1 []))
theorem C5 (l:List XOp):cX (zg l)=aQ (ag (jX l)):=by
 unfold zg
 cases c:vB l
 ·simp[jX,c,cX,cN,ag]
 ·rfl
theorem SS {l:List XOp}(h:vB l=true):l.length≤6∧∀o∈l,ji o=true:=by
 unfold vB at h
 rw[Bool.and_eq_true,List.all_eq_true]at h
 have:=of_decide_eq_true h.2
 exact⟨by omega,h.1⟩
theorem tC {α:Type}{f:α→List UInt8}{l:List α}{k:Nat}(hk:k<l.length):(l.take (k+1)).flatMap f=(l.take k).flatMap f++f l[k]:=by
 rw[List.take_succ_eq_append_getElem hk,List.flatMap_append];simp
theorem KG {W a b c d:List UInt8}(hW:W.length≤6006)(h:∀p∈[a,b,c,d],p.length≤200):∃Z:Nat→List UInt8,Z 0=W∧Z 4=W++[a,b,c,d].flatMap mc∧∀(j:Nat)(hj:j<[a,b,c,d].length),
 ah Ph aN 248 [aQ (ag (Z j)),aQ (ag [a,b,c,d][j])]=some (.one (.own 1 (ag (Z (j+1))))):=by
 refine⟨fun j=>W++([a,b,c,d].take j).flatMap mc,by simp,by simp,fun j hj=> ?_⟩
 have h1:=h _ (List.getElem_mem hj)
 have h2:=qv (f:=mc) (c:=206) (l:=[a,b,c,d].take j) fun p m=>by have:=h p (List.mem_of_mem_take m);have:=FO p;omega
 have h3:([a,b,c,d].take j).length≤4:=by rw[List.length_take];exact Nat.le_trans (Nat.min_le_right _ _) (by simp)
 have e:=nM (b:=W++([a,b,c,d].take j).flatMap mc) (s:=[a,b,c,d][j]) (by rw[List.length_append];omega) (by omega)
 rw[List.append_assoc,←tC hj]at e
 exact e
theorem wu {l:List XOp}(hl:l.length≤maxLen)(ok:∀o∈l,o.Ok maxLen):ah Ph aN 583 [aQ (l.map XOp.e)]=some (zg l):=by
 have e0:=Cs hl ok
 unfold zg
 refine ae (fn:=jL) rfl ?_
 cases c:vB l<;>rw[c]at e0
 ·simp(maxSteps:=9999999) [jL,e0]
 obtain⟨hl6,hall⟩:=SS c
 have e1:ah Ph aN 247 [aQ [],aa .i64 l.length]=some (.one (.own 1 (ag (jo l.length)))):=eY (b:=[]) (by simp) (n:=l.length) (by omega)
 have hE:jX l=jo l.length++l.flatMap qY:=by unfold jX;rw[c];rfl
 have hul:=jn l.length
 simp(maxSteps:=9999999) [jL,e0,e1]
 refine bD cC Cl.fin [.f,.f,.f,.t,.f,.f,.f,.f,.f,.f,.f,.f,.f,.f,.f,.t,.t,.t,.f,.f,.f,.f,.f,.f,.f,.f,.f,.f,.f,.f,.f,.f,.f,.f,.f,.f,.f,.f,.f,.f,.f,.f,.f,.f,.f,.f,.f,.f,.f] (fun k=>[(3,aQ (ag (jo l.length++(l.take k).flatMap qY))),(17,aa .i64 k)]) l.length (fun _=>false) rfl (by simp) (fun k hk _=> ?_) (fun _ _=> ?_)
 ·have hm:=List.getElem_mem hk
  have ho:=hall _ hm
  have hok:=ok _ hm
  have hx:=vx l[k]
  obtain⟨hp,hk1,hk2⟩:=GF ho
  have hw:(jo l.length++(l.take k).flatMap qY).length≤6000:=by
   have:=qv (f:=qY) (c:=830) (l:=l.take k) fun o m=>Bu (hall o (List.mem_of_mem_take m))
   rw[List.length_append]
   rw[List.length_take]at this
   have:830*min k l.length≤830*6:=Nat.mul_le_mul (Nat.le_refl _) (by omega)
   omega
  have hn:jo l.length++(l.take (k+1)).flatMap qY=jo l.length++(l.take k).flatMap qY++jo l[k].kind.toNat++(Q8 l[k]).flatMap mc:=by rw[tC hk,Kq];simp
  have w1:=bW hl hk
  have w2:=cB hk
  rw[hn]
  generalize jo l.length++(l.take k).flatMap qY=W at*
  have e2:=eY (b:=W) (by omega) (n:=l[k].kind.toNat) (by omega)
  rw[show((l[k].kind.toNat:Nat):Int)=l[k].kind by omega]at e2
  have e3:=lJ hok.2.2.1
  have e4:=m8 hok.2.2.2.1
  have e5:=vm l[k].rcd
  have hW2:(W++jo l[k].kind.toNat).length≤6006:=by have:=jn l[k].kind.toNat;rw[List.length_append];omega
  generalize W++jo l[k].kind.toNat=W2 at*
  generalize ua l[k].rcd=ev at*
  rw[show Q8 l[k]=[l[k].store,j3 l[k].key,nT l[k].rcd,l[k].field]from rfl]at*
  generalize j3 l[k].key=ek at*
  generalize nT l[k].rcd=er at*
  obtain⟨Z,z0,z4,zs⟩:=KG hW2 hp
  rw[←z4]
  have s0:=zs 0 (by simp)
  have s1:=zs 1 (by simp)
  have s2:=zs 2 (by simp)
  have s3:=zs 3 (by simp)
  simp only[List.getElem_cons_zero,List.getElem_cons_succ,Nat.reduceAdd]at s0 s1 s2 s3
  rw[←z0]at e2
  simp(maxSteps:=9999999) [iF,hk,hx,e2,e3,e4, ↓e5,w1,w2]
  refine bD cC Cl.kn [.f,.f,.f,.t,.f,.f,.f,.f,.f,.f,.f,.f,.f,.f,.f,.t,.t,.t,.f,.f,.f,.f,.f,.f,.f,.f,.f,.f,.f,.f,.f,.f,.f,.f,.f,.f,.f,.t,.t,.t,.f,.f,.f,.f,.f,.f,.f,.f,.f] (fun j=>[(3,aQ (ag (Z j))),(39,aa .i64 j)]) 4 (fun _=>false) rfl (by simp) (fun j hj _=> ?_) (fun _ _=> ?_)
  ·have hj4:j=0∨j=1∨j=2∨j=3:=by omega
   rcases hj4 with rfl|rfl|rfl|rfl<;>simp(maxSteps:=9999999) [gj,s0,s1,s2,s3,show bX 0 4=true from rfl,show bX 1 4=true from rfl,show bX 2 4=true from rfl,show bX 3 4=true from rfl,show IntKind.i64.wrap 1=1 from rfl,show IntKind.i64.wrap 2=2 from rfl,show IntKind.i64.wrap 3=3 from rfl,show IntKind.i64.wrap 4=4 from rfl]
  ·simp(maxSteps:=9999999) [gj,show bX 4 4=false from rfl,w1]
 ·rw[hE,List.take_length]
  simp(maxSteps:=9999999) [iF]
theorem Lk {W a b c d:List UInt8}(hW:W.length≤6006)(h:∀p∈[a,b,c,d],p.length≤200):∃Z:Nat→List UInt8,Z 0=W∧Z 4=W++[a,b,c,d].flatMap mc∧∀(j:Nat)(hj:j<[a,b,c,d].length),
 ah Ph aN 245 [aQ (ag (Z j)),aQ (ag [a,b,c,d][j])]=some (.one (.own 1 (ag (Z (j+1))))):=by
 refine⟨fun j=>W++([a,b,c,d].take j).flatMap mc,by simp,by simp,fun j hj=> ?_⟩
 have h1:=h _ (List.getElem_mem hj)
 have h2:=qv (f:=mc) (c:=206) (l:=[a,b,c,d].take j) fun p m=>by have:=h p (List.mem_of_mem_take m);have:=FO p;omega
 have h3:([a,b,c,d].take j).length≤4:=by rw[List.length_take];exact Nat.le_trans (Nat.min_le_right _ _) (by simp)
 have e:=nP (b:=W++([a,b,c,d].take j).flatMap mc) (s:=[a,b,c,d][j]) (by rw[List.length_append];omega) (by omega)
 rw[List.append_assoc,←tC hj]at e
 exact e
theorem NJ {l:List XOp}(hl:l.length≤6):vB l= !(mj l.length (nR (fun o=> !(ji o)) l)):=by
 unfold vB
 rw[HI,show decide ((l.length:Int)≤6)=true from decide_eq_true (by omega),Bool.and_true]
theorem wV {l:List XOp}(hl:l.length≤6)(ok:∀o∈l,o.Ok maxLen):ah Ph aN 576 [aQ (l.map XOp.e)]=some (zg l):=by
 have hlm:l.length≤maxLen:=by unfold maxLen;omega
 have hany:=NJ hl
 unfold zg
 refine ae (fn:=mG) rfl ?_
 have e1:ah Ph aN 244 [aQ [],aa .i64 l.length]=some (.one (.own 1 (ag (jo l.length)))):=fa (b:=[]) (by simp) (n:=l.length) (by omega)
 have hul:=jn l.length
 simp(maxSteps:=9999999) [mG,e1]
 refine bD cC Cl.fin [.t,.f,.f,.t,.t,.f,.f,.f,.f,.f,.f,.f,.f,.f,.f,.f,.f,.f,.f,.f,.f,.f,.f,.f,.f,.f,.f,.f,.f,.f,.f,.f,.f,.f,.f,.f,.f,.f,.f,.f,.f,.f,.f,.f,.f,.f,.f,.f,.f,.f,.f,.f,.f,.f,.f,.f,.f,.f,.f,.f,.f,.f,.f,.f] (fun k=>[(3,aQ (ag (jo l.length++(l.take k).flatMap qY))),(4,aa .i64 k)]) l.length (nR (fun o=> !(ji o)) l) rfl (by simp) (fun k hk hp=> ?_) (fun _ hp=> ?_)
 ·have hm:=List.getElem_mem hk
  have hok:=ok _ hm
  have hx:=vx l[k]
  have e0:=wX hok
  have hall:∀j(hj:j<l.length),j<k→ji l[j]=true:=fun j hj hjk=>by
   have:=hp j hjk
   simpa only[nR,hj,List.getElem?_eq_getElem,Bool.not_eq_false']using this
  have hat:nR (fun o=> !(ji o)) l k= !(ji l[k]):=by simp[nR,hk]
  have w1:=bW hlm hk
  have w2:=cB hk
  rw[hat]
  cases ho:ji l[k]with
  |false=>
   rw[ho]at e0
   rw[hany]
   simp(maxSteps:=9999999) [gm,hk,hx,e0,w2]
   intro hq
   rw[hq]
   simp(maxSteps:=9999999) []
  |true=>
   rw[ho]at e0
   obtain⟨hp',hk1,hk2⟩:=GF ho
   have hw:(jo l.length++(l.take k).flatMap qY).length≤6000:=by
    have:=qv (f:=qY) (c:=830) (l:=l.take k) fun o m=>by
     obtain⟨j,hj,rfl⟩:=List.mem_iff_getElem.1 m
     rw[List.length_take]at hj
     rw[List.getElem_take]
     exact Bu (hall j (by omega) (by omega))
    rw[List.length_append]
    rw[List.length_take]at this
    have:830*min k l.length≤830*6:=Nat.mul_le_mul (Nat.le_refl _) (by omega)
    omega
   have hn:jo l.length++(l.take (k+1)).flatMap qY=jo l.length++(l.take k).flatMap qY++jo l[k].kind.toNat++(Q8 l[k]).flatMap mc:=by rw[tC hk,Kq];simp
   rw[hn]
   generalize jo l.length++(l.take k).flatMap qY=W at*
   have e2:=fa (b:=W) (by omega) (n:=l[k].kind.toNat) (by omega)
   rw[show((l[k].kind.toNat:Nat):Int)=l[k].kind by omega]at e2
   have e3:=wU hok.2.2.1
   have e4:=sZ hok.2.2.2.1
   have e5:=vm l[k].rcd
   have hW2:(W++jo l[k].kind.toNat).length≤6006:=by have:=jn l[k].kind.toNat;rw[List.length_append];omega
   generalize W++jo l[k].kind.toNat=W2 at*
   generalize ua l[k].rcd=ev at*
   rw[show Q8 l[k]=[l[k].store,j3 l[k].key,nT l[k].rcd,l[k].field]from rfl]at*
   generalize j3 l[k].key=ek at*
   generalize nT l[k].rcd=er at*
   obtain⟨Z,z0,z4,zs⟩:=Lk hW2 hp'
   rw[←z4]
   have s0:=zs 0 (by simp)
   have s1:=zs 1 (by simp)
   have s2:=zs 2 (by simp)
   have s3:=zs 3 (by simp)
   simp only[List.getElem_cons_zero,List.getElem_cons_succ,Nat.reduceAdd]at s0 s1 s2 s3
   rw[←z0]at e2
   simp(maxSteps:=9999999) [gm,hk,hx,e0,e2,e3,e4, ↓e5,s0,s1,s2,s3,w1,w2]
 ·have c:vB l=true:=by rw[hany,hp];rfl
  have hE:jX l=jo l.length++l.flatMap qY:=by unfold jX;rw[c];rfl
  have c6:bX 6 (l.length:Int)=false:=fK (by omega)
  rw[c,hE,List.take_length]
  simp(maxSteps:=9999999) [gm,c6]
abbrev bV (x:List UInt8)(y:Nat)(z:Bool):V:= .tup [(false,[.own 1 (ag x)]),(false,[.pv (.int .i64 (y:Int))]),(false,[.pv (.bool z)])]
theorem QA {s:List UInt8}{a:Nat}(h:a≤s.length):∃(n y:Nat)(z:Bool),qE (s.drop a) a=v3 n y z∧y≤s.length∧(z=true→qS (s.drop a)=some (n,y-a)∧a≤y)∧(z=false→qS (s.drop a)=none):=by
 unfold qE
 cases e:qS (s.drop a)with
 |none=>exact⟨0,0,false,rfl,Nat.zero_le _,nofun,fun _=>rfl⟩
 |some p=>
  obtain⟨n,k⟩:=p
  have:=kC e
  simp only[List.length_drop]at this
  exact⟨n,a+k,true,rfl,by omega,fun _=>⟨by simp,by omega⟩,nofun⟩
theorem sR {s:List UInt8}{a:Nat}(h:a≤s.length)(m:Nat):∃(x:List UInt8)(y:Nat)(z:Bool),qR (s.drop a) a m=bV x y z∧y≤s.length∧x.length≤s.length∧(z=true→AH m (s.drop a)=some (x,y-a)∧a≤y)∧(z=false→AH m (s.drop a)=none):=by
 unfold qR
 cases e:AH m (s.drop a)with
 |none=>exact⟨[],0,false,rfl,Nat.zero_le _,Nat.zero_le _,nofun,fun _=>rfl⟩
 |some p=>
  obtain⟨x,k⟩:=p
  have:=jk (eH e).1
  simp only[List.length_drop]at this
  exact⟨x,a+k,true,rfl,by omega,by omega,fun _=>⟨by simp,by omega⟩,nofun⟩
abbrev mO :Nat×Nat×Nat×Nat:=(100,100,200,100)
def Ug (o:XOp):List L:=[.pv (.int .i64 o.kind), .pv (.str o.store), .pv (.int .i64 o.key.kind), .pv (.int .i64 o.key.n), .pv (.str o.key.text),kI (o.rcd.fs.map XField.e), .pv (.str o.field)]
def Oh (D:List UInt8)(a:Nat):V:=match sh mO D with
 |none=> .tup [(true,[.pv (.int .i64 0), .pv (.str []), .pv (.int .i64 0), .pv (.int .i64 0), .pv (.str []), .nil, .pv (.str [])]),(false,[.pv (.int .i64 0)]),(false,[.pv (.bool false)])]
 |some (r,k)=> .tup [(true,Ug (jP r)),(false,[.pv (.int .i64 ((a+k:Nat):Int))]),(false,[.pv (.bool true)])]
theorem yz {D:List UInt8}{a:Nat}(h:sh mO D=none):Oh D a= .tup [(true,[.pv (.int .i64 0), .pv (.str []), .pv (.int .i64 0), .pv (.int .i64 0), .pv (.str []), .nil, .pv (.str [])]),(false,[.pv (.int .i64 0)]),(false,[.pv (.bool false)])]:=by unfold Oh;rw[h]
theorem s7 {s:List UInt8}(hl:s.length≤1048576){a:Nat}(ha:a≤s.length):ah Ph aN 575 [aQ (ag s),aa .i64 a]=some (Oh (s.drop a) a):=by
 have r0:=dx hl (a:=a) (by omega)
 obtain⟨n,y0,z0,q0,h0,t0,f0⟩:=QA ha
 rw[q0]at r0
 have r1:ah Ph aN 572 [aQ (ag s),aa .i64 y0,aa .i64 100]=some (qR (s.drop y0) y0 100):=dP hl h0 (m:=100) (by omega)
 obtain⟨x1,y1,z1,q1,h1,l1,t1,f1⟩:=sR h0 100
 rw[q1]at r1
 have r2:ah Ph aN 572 [aQ (ag s),aa .i64 y1,aa .i64 100]=some (qR (s.drop y1) y1 100):=dP hl h1 (m:=100) (by omega)
 obtain⟨x2,y2,z2,q2,h2,l2,t2,f2⟩:=sR h1 100
 rw[q2]at r2
 have r3:ah Ph aN 572 [aQ (ag s),aa .i64 y2,aa .i64 200]=some (qR (s.drop y2) y2 200):=dP hl h2 (m:=200) (by omega)
 obtain⟨x3,y3,z3,q3,h3,l3,t3,f3⟩:=sR h2 200
 rw[q3]at r3
 have r4:ah Ph aN 572 [aQ (ag s),aa .i64 y3,aa .i64 100]=some (qR (s.drop y3) y3 100):=dP hl h3 (m:=100) (by omega)
 obtain⟨x4,y4,z4,q4,h4,l4,t4,f4⟩:=sR h3 100
 rw[q4]at r4
 clear q0 q1 q2 q3 q4
 refine ae (fn:=fS) rfl ?_
 cases z0 with
 |false=>
  rw[yz (by unfold sh;rw[f0 rfl])]
  simp(maxSteps:=9999999) [fS,r0,r1,r2,r3,r4]
 |true=>
  obtain⟨g0,g0'⟩:=t0 rfl
  cases z1 with
  |false=>
   have e:sh mO (s.drop a)=none:=by unfold sh;rw[g0];simp only[List.drop_drop,show a+(y0-a)=y0 by omega,f1 rfl]
   rw[yz e]
   simp(maxSteps:=9999999) [fS,r0,r1,r2,r3,r4]
  |true=>
   obtain⟨g1,g1'⟩:=t1 rfl
   cases z2 with
   |false=>
    have e:sh mO (s.drop a)=none:=by unfold sh;rw[g0];simp only[List.drop_drop,show a+(y0-a)=y0 by omega,g1,show a+(y0-a+(y1-y0))=y1 by omega,f2 rfl]
    rw[yz e]
    simp(maxSteps:=9999999) [fS,r0,r1,r2,r3,r4]
   |true=>
    obtain⟨g2,g2'⟩:=t2 rfl
    cases z3 with
    |false=>
     have e:sh mO (s.drop a)=none:=by unfold sh;rw[g0];simp only[List.drop_drop,show a+(y0-a)=y0 by omega,g1,show a+(y0-a+(y1-y0))=y1 by omega,g2,show a+(y0-a+(y1-y0)+(y2-y1))=y2 by omega,f3 rfl]
     rw[yz e]
     simp(maxSteps:=9999999) [fS,r0,r1,r2,r3,r4]
    |true=>
     obtain⟨g3,g3'⟩:=t3 rfl
     cases z4 with
     |false=>
      have e:sh mO (s.drop a)=none:=by unfold sh;rw[g0];simp only[List.drop_drop,show a+(y0-a)=y0 by omega,g1,show a+(y0-a+(y1-y0))=y1 by omega,g2,show a+(y0-a+(y1-y0)+(y2-y1))=y2 by omega,g3,show a+(y0-a+(y1-y0)+(y2-y1)+(y3-y2))=y3 by omega,f4 rfl]
      rw[yz e]
      simp(maxSteps:=9999999) [fS,r0,r1,r2,r3,r4]
     |true=>
      obtain⟨g4,g4'⟩:=t4 rfl
      have e:sh mO (s.drop a)=some (⟨n,x1,x2,x3,x4⟩,y4-a):=by unfold sh;rw[g0];simp only[List.drop_drop,show a+(y0-a)=y0 by omega,g1,show a+(y0-a+(y1-y0))=y1 by omega,g2,show a+(y0-a+(y1-y0)+(y2-y1))=y2 by omega,g3,show a+(y0-a+(y1-y0)+(y2-y1)+(y3-y2))=y3 by omega,g4];congr 2;omega
      have e':Oh (s.drop a) a= .tup [(true,Ug (jP ⟨n,x1,x2,x3,x4⟩)),(false,[.pv (.int .i64 (y4:Int))]),(false,[.pv (.bool true)])]:=by unfold Oh;rw[e];simp only[show a+(y4-a)=y4 by omega]
      rw[e']
      have k1:=wS (b:=x2) (by omega)
      have k2:=sX (b:=x3) (by omega)
      simp only[Ug,jP]
      generalize sx x2=dk at*
      generalize tP x3=dr at*
      simp only[rZ]at k1
      simp only[qq]at k2
      simp(maxSteps:=9999999) [fS,r0,r1,r2,r3,r4,k1,k2,fg, ↓aI, ↓aq, ↓az]
end Gi
