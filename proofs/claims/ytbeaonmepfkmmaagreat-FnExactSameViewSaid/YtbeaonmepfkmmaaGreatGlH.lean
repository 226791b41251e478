/- Of this proof. -/
import Derived.Test.YtbeaonmepfkmmaaGreatGlC
import Derived.Test.YtbeaonmepfkmmaaGreatGoS
import Derived.Test.YtbeaonmepfkmmaaGreatGkp
import Derived.Test.YtbeaonmepfkmmaaGreatGnA
set_option linter.unusedSimpArgs false
set_option linter.unusedVariables false
namespace Gi
open Go Go.RowKit
set_option maxHeartbeats 8000000
set_option maxRecDepth 4000
attribute [local simp] start nx bZ cJ cB dB cA dA dG dF og oA oh oB ol oC om oD oq oE ot oF ou oG ov oH oz oI V.cells plain bt gD isInt isStr isBool bin bM fF bN fG dC un asList L.view au V.view viewL aT az bQ bd b6 comp aN bU cy bI aY aW aX ar aj aE ah aq aO am aR bw aA aZ a9 V.flat L.flat cZ cV br putAt thaw thawL thawT V.ow dE cD cE bO dD bP cC freezeVs freezeLs freezeL V.mut L.mut aH cd eW bg bF aP dN cu bK cH L.ren aJ cS bX cY bW bE wp_seq wp_block aM cG bR bf bS wp_skip wp_exit wp_ret b9 b8 cj ca cr ct cq bH aF L.notArr bq bo bp cF b7 storeD aS eB ba bY aQ kX L.mov L.closed V.closed PV.bare PV.flat
theorem yG {o:XOp}(h:o.Ok maxLen):ag Ph aC 596 [o.v]=some (aD (jU o)):=by
 obtain⟨_,h1,h2,h3,h4⟩:=h
 have e1:=fy o.kind 1 6
 have e2:=iY h1
 have e3:=gL h2
 have e4:=iZ h3
 have e5:=iY h4
 unfold jU
 obtain⟨g5,q5⟩:∃g,(o.kind==5)=g:=⟨_,rfl⟩
 obtain⟨g6,q6⟩:∃g,(o.kind==6)=g:=⟨_,rfl⟩
 obtain⟨gf,qf⟩:∃g,(o.field==[])=g:=⟨_,rfl⟩
 rw[q5,q6,qf]
 generalize rg o.kind 1 6=b1 at e1⊢
 generalize iG o.store=b2 at e2⊢
 generalize fA o.key=b3 at e3⊢
 generalize db o.rcd.fs=b4 at e4⊢
 generalize iG o.field=b5 at e5⊢
 refine aa (fn:=oK) rfl ?_
 cases b1
 ·simp(maxSteps:=9999999) [oK,e1]
 cases b2
 ·simp(maxSteps:=9999999) [oK,e1,e2]
 cases g5<;>cases b3<;>cases b4<;>cases g6<;>simp +contextual (maxSteps:=9999999) [oK,e1,e2,e3,e4,e5,q5,q6,qf]
theorem zh {o:XOp}(h:o.Ok maxLen):ag Ph aC 593 [o.v]=some (aD (jU o)):=by
 obtain⟨_,h1,h2,h3,h4⟩:=h
 have e1:=gI o.kind 1 6
 have e2:=i9 h1
 have e3:=eX h2
 have e4:=fR h3
 have e5:=i9 h4
 unfold jU
 obtain⟨g5,q5⟩:∃g,(o.kind==5)=g:=⟨_,rfl⟩
 obtain⟨g6,q6⟩:∃g,(o.kind==6)=g:=⟨_,rfl⟩
 obtain⟨gf,qf⟩:∃g,(o.field==[])=g:=⟨_,rfl⟩
 rw[q5,q6,qf]
 generalize rg o.kind 1 6=b1 at e1⊢
 generalize iG o.store=b2 at e2⊢
 generalize fA o.key=b3 at e3⊢
 generalize db o.rcd.fs=b4 at e4⊢
 generalize iG o.field=b5 at e5⊢
 refine aa (fn:=oL) rfl ?_
 cases b1
 ·simp(maxSteps:=9999999) [oL,e1]
 cases b2
 ·simp(maxSteps:=9999999) [oL,e1,e2]
 cases g5<;>cases b3<;>cases b4<;>cases g6<;>simp +contextual (maxSteps:=9999999) [oL,e1,e2,e3,e4,e5,q5,q6,qf]
theorem IW {A B:Nat}(hAB:A≤B){o:XOp}(h:o.Ok A):o.Ok B:=⟨h.1,Nat.le_trans h.2.1 hAB,XKey.Ok.mono hAB h.2.2.1,XRecord.Ok.mono hAB h.2.2.2.1,Nat.le_trans h.2.2.2.2 hAB⟩
theorem MX {B:Nat}{s:XStore}(h:s.Ok B)(r:XRange):(su s r).1.Ok B:=by
 unfold su
 cases fg s<;>simp only[cond_true,cond_false]
 ·exact h
 ·exact⟨h.1,⟨Nat.le_trans (HF r s.items) h.2.1.1,fun x m=>h.2.1.2 x (List.mem_filter.1 m).1⟩,h.2.2⟩
theorem RI {B:Nat}(hB:17≤B){s:XStore}(h:s.Ok B){k:XKey}(hk:k.Ok B){r:XRecord}(hr:r.Ok B):(BB s k r).1.Ok B:=by
 unfold BB;split
 ·exact h
 ·exact CB hB h hk hr
theorem L5 {B:Nat}(hB:17≤B){s:XStore}(h:s.Ok B){o:XOp}(ho:o.Ok B):(ul s o).1.Ok B:=by
 obtain⟨_,_,hk,hr,_⟩:=ho
 unfold ul
 cases o.kind==1<;>simp only[cond_true,cond_false]
 case true=>exact CB hB h hk hr
 cases o.kind==2<;>simp only[cond_true,cond_false]
 case true=>exact RI hB h hk hr
 cases o.kind==3<;>simp only[cond_true,cond_false]
 case true=>exact MX h _
 cases o.kind==5<;>simp only[cond_true,cond_false]
 case true=>exact MX h _
 cases o.kind==4<;>simp only[cond_true,cond_false]
 case true=>exact h
 exact CB hB h hk (vT (by omega) (sJ h o.key) _ _)
def tR (d:XDatabase)(j:Nat)(s:XStore):XDatabase:=⟨d.name,d.version,d.stores.set j s,d.unique⟩
def jr (d:XDatabase)(o:XOp):XDatabase×Int×Bool:=match uN d&&jU o,d.stores.findIdx? (HW o.store)with
 |true,some j=>(match d.stores[j]? with
  |some st=>bif (ul st o).2.2&&uN (tR d j (ul st o).1)then(tR d j (ul st o).1,(ul st o).2.1,true)else(d,0,false)
  |none=>(d,0,false))
 |_,_=>(d,0,false)
theorem If {B:Nat}{d:XDatabase}(h:d.Ok B)(j:Nat){s:XStore}(hs:s.Ok B):(tR d j s).Ok B:=by
 obtain⟨h1,h2,⟨h3,h4⟩,h5⟩:=h
 refine⟨h1,h2,⟨by simpa[tR]using h3,fun x m=> ?_⟩,h5⟩
 rcases List.mem_or_eq_of_mem_set m with m|rfl
 ·exact h4 x m
 ·exact hs
theorem Ie {B:Nat}(hB:17≤B){d:XDatabase}(h:d.Ok B){o:XOp}(ho:o.Ok B):(jr d o).1.Ok B:=by
 unfold jr
 split
 ·split
  ·rename_i st hst
   cases(ul st o).2.2&&uN (tR d _ (ul st o).1)<;>simp only[cond_true,cond_false]
   ·exact h
   ·exact If h _ (L5 hB (h.2.2.1.2 _ (List.mem_of_getElem? hst)) ho)
  ·exact h
 ·exact h
theorem Q9 (d:XDatabase)(j:Nat)(s:XStore):(tR d j s).stores.map XStore.e=(d.stores.map XStore.e).set j [.str s.name, .lst (s.items.map XItem.e), .int .i64 s.auto]:=by
 simp only[tR,List.map_set,XStore.e.eq_1]
abbrev TZ (d:XDatabase):List L:=[.pv (.str d.name), .pv (.int .i64 d.version),pF 3 (d.stores.map XStore.e), .own 2 (d.unique.map XIndexDef.e)]
abbrev P5 (x:XDatabase×Int×Bool):V:= .tup [(true,TZ x.1),(false,[.pv (.int .i64 x.2.1)]),(false,[.pv (.bool x.2.2)])]
theorem wz {B:Nat}(hB0:17≤B)(hB:B≤1048576){d:XDatabase}(h:d.Ok B){o:XOp}(ho:o.Ok B):ag Ph aC 584 [d.v,o.v]=some (P5 (jr d o)):=by
 have e1:=ko hB h
 have hsl:d.stores.length≤maxLen:=Nat.le_trans h.2.2.1.1 (by unfold maxLen;omega)
 have e2:=m9 hsl o.store
 have e3:=mf hB h
 have e4:=yG (IW (show B≤maxLen by unfold maxLen;omega) ho)
 unfold dM at e2
 unfold jr
 have hnd:nd 3 (d.stores.map XStore.e)= .nil∧pF 3 (d.stores.map XStore.e)= .nil∨nd 3 (d.stores.map XStore.e)= .down 3 (d.stores.map XStore.e)∧pF 3 (d.stores.map XStore.e)= .own 3 (d.stores.map XStore.e):=by
  cases d.stores.map XStore.e with
  |nil=>exact .inl ⟨rfl,rfl⟩
  |cons r rs=>exact .inr ⟨rfl,rfl⟩
 cases b1:uN d<;>rw[b1]at e3
 ·simp only[Bool.false_and]
  generalize (match d.stores.findIdx? (HW o.store)with|some i=>(i:Int)|none=> -1)=F at e2
  rcases hnd with⟨u1,u2⟩|⟨u1,u2⟩<;>rw[u1]at e1<;>(refine aa (fn:=eu) rfl ?_;simp(maxSteps:=600000) [eu,e1,e2,e3,u2])
 cases b2:jU o<;>rw[b2]at e4
 ·simp only[Bool.and_false]
  generalize (match d.stores.findIdx? (HW o.store)with|some i=>(i:Int)|none=> -1)=F at e2
  rcases hnd with⟨u1,u2⟩|⟨u1,u2⟩<;>rw[u1]at e1<;>(refine aa (fn:=eu) rfl ?_;simp(maxSteps:=600000) [eu,e1,e2,e3,e4,u2])
 simp only[Bool.and_self]
 cases b3:d.stores.findIdx? (HW o.store)with
 |none=>
  rw[b3]at e2
  simp only at e2⊢
  have l0:cw (-1) 0=true:=rfl
  rcases hnd with⟨u1,u2⟩|⟨u1,u2⟩<;>rw[u1]at e1<;>(refine aa (fn:=eu) rfl ?_;simp(maxSteps:=600000) [eu,e1,e2,e3,e4,l0,u2])
 |some j=>
  rw[b3]at e2
  obtain⟨hj,_⟩:=List.findIdx?_eq_some_iff_getElem.1 b3
  simp only[hj,List.getElem?_eq_getElem]at e2⊢
  have hne:d.stores.map XStore.e≠[]:=fun e=>by have:=congrArg List.length e;simp at this;simp[this]at hj
  have u1:=((Bi 3 (d.stores.map XStore.e)).resolve_left (fun q=>hne q.1)).2
  have u2:pF 3 (d.stores.map XStore.e)= .own 3 (d.stores.map XStore.e):=by
   cases q:d.stores.map XStore.e with
   |nil=>exact absurd q hne
   |cons r rs=>rfl
  clear hnd
  rw[u1]at e1
  have hst:=h.2.2.1.2 _ (List.getElem_mem hj)
  have hx:=XStore.e.eq_1 d.stores[j]
  have hok:=If h j (L5 hB0 hst ho)
  have e6:=mf hB hok
  have hse:=Q9 d j (ul d.stores[j] o).1
  have u3:pF 3 ((tR d j (ul d.stores[j] o).1).stores.map XStore.e)= .own 3 ((tR d j (ul d.stores[j] o).1).stores.map XStore.e):=by
   rw[hse]
   cases q:d.stores.map XStore.e with
   |nil=>exact absurd q hne
   |cons r rs=>cases j<;>rfl
  rw[hse]at u3
  simp only[XDatabase.v]at e6
  rw[hse]at e6
  replace e6:ag Ph aC 397 [.agg [.pv (.str d.name), .pv (.int .i64 d.version), .pv (.lst ((d.stores.map XStore.e).set j [.str (ul d.stores[j] o).1.name, .lst ((ul d.stores[j] o).1.items.map XItem.e), .int .i64 (ul d.stores[j] o).1.auto])), .pv (.lst (d.unique.map XIndexDef.e))]]=some (aD (uN (tR d j (ul d.stores[j] o).1))):=e6
  obtain⟨p1,p2⟩:=Sn d.stores[j] o
  obtain⟨l,hlv,e5⟩:=HS hB0 hB hst ho
  simp only[Uv]at e5
  cases b4:(ul d.stores[j] o).2.2
  ·simp only[Bool.false_and,cond_false,P5,TZ]
   rw[u2]
   rw[p1,b4]at e5
   rcases hlv with rfl|⟨rfl,hlv⟩<;>(refine aa (fn:=eu) rfl ?_;simp(maxSteps:=600000) [eu,e1,e2,e3,e4,e5,hj,hx,nV])
  ·simp only[Bool.true_and,P5]
   rw[p2 b4]at e5 hlv
   rw[b4]at e5
   generalize hq:(ul d.stores[j] o).2.1=qn at*
   generalize (ul d.stores[j] o).1.items.map XItem.e=R at*
   cases b5:uN (tR d j (ul d.stores[j] o).1)<;>rw[b5]at e6<;>simp only[cond_true,cond_false,TZ]
   ·rw[u2]
    rcases hlv with rfl|⟨rfl,rfl⟩<;>(refine aa (fn:=eu) rfl ?_;simp(maxSteps:=600000) [eu,e1,e2,e3,e4,e5,e6,hj,hx,nV,tR])
   ·rw[hse,u3]
    rcases hlv with rfl|⟨rfl,rfl⟩<;>(refine aa (fn:=eu) rfl ?_;simp(maxSteps:=600000) [eu,e1,e2,e3,e4,e5,e6,hj,hx,nV,tR])
theorem wI {B:Nat}(hB0:17≤B)(hB:B≤1048576){d:XDatabase}(h:d.Ok B){o:XOp}(ho:o.Ok B):ag Ph aC 577 [d.v,o.v]=some (P5 (jr d o)):=by
 have e1:=qE hB h
 have hsl:d.stores.length≤maxLen:=Nat.le_trans h.2.2.1.1 (by unfold maxLen;omega)
 have e2:=nj hsl o.store
 have e3:=ml hB h
 have e4:=zh (IW (show B≤maxLen by unfold maxLen;omega) ho)
 unfold dM at e2
 unfold jr
 have hnd:nd 3 (d.stores.map XStore.e)= .nil∧pF 3 (d.stores.map XStore.e)= .nil∨nd 3 (d.stores.map XStore.e)= .down 3 (d.stores.map XStore.e)∧pF 3 (d.stores.map XStore.e)= .own 3 (d.stores.map XStore.e):=by
  cases d.stores.map XStore.e with
  |nil=>exact .inl ⟨rfl,rfl⟩
  |cons r rs=>exact .inr ⟨rfl,rfl⟩
 cases b1:uN d<;>rw[b1]at e3
 ·simp only[Bool.false_and]
  generalize (match d.stores.findIdx? (HW o.store)with|some i=>(i:Int)|none=> -1)=F at e2
  rcases hnd with⟨u1,u2⟩|⟨u1,u2⟩<;>rw[u1]at e1<;>(refine aa (fn:=eA) rfl ?_;simp(maxSteps:=600000) [eA,e1,e2,e3,u2])
 cases b2:jU o<;>rw[b2]at e4
 ·simp only[Bool.and_false]
  generalize (match d.stores.findIdx? (HW o.store)with|some i=>(i:Int)|none=> -1)=F at e2
  rcases hnd with⟨u1,u2⟩|⟨u1,u2⟩<;>rw[u1]at e1<;>(refine aa (fn:=eA) rfl ?_;simp(maxSteps:=600000) [eA,e1,e2,e3,e4,u2])
 simp only[Bool.and_self]
 cases b3:d.stores.findIdx? (HW o.store)with
 |none=>
  rw[b3]at e2
  simp only at e2⊢
  have l0:cw (-1) 0=true:=rfl
  rcases hnd with⟨u1,u2⟩|⟨u1,u2⟩<;>rw[u1]at e1<;>(refine aa (fn:=eA) rfl ?_;simp(maxSteps:=600000) [eA,e1,e2,e3,e4,l0,u2])
 |some j=>
  rw[b3]at e2
  obtain⟨hj,_⟩:=List.findIdx?_eq_some_iff_getElem.1 b3
  simp only[hj,List.getElem?_eq_getElem]at e2⊢
  have hne:d.stores.map XStore.e≠[]:=fun e=>by have:=congrArg List.length e;simp at this;simp[this]at hj
  have u1:=((Bi 3 (d.stores.map XStore.e)).resolve_left (fun q=>hne q.1)).2
  have u2:pF 3 (d.stores.map XStore.e)= .own 3 (d.stores.map XStore.e):=by
   cases q:d.stores.map XStore.e with
   |nil=>exact absurd q hne
   |cons r rs=>rfl
  clear hnd
  rw[u1]at e1
  have hst:=h.2.2.1.2 _ (List.getElem_mem hj)
  have hx:=XStore.e.eq_1 d.stores[j]
  have hok:=If h j (L5 hB0 hst ho)
  have e6:=ml hB hok
  have hse:=Q9 d j (ul d.stores[j] o).1
  have u3:pF 3 ((tR d j (ul d.stores[j] o).1).stores.map XStore.e)= .own 3 ((tR d j (ul d.stores[j] o).1).stores.map XStore.e):=by
   rw[hse]
   cases q:d.stores.map XStore.e with
   |nil=>exact absurd q hne
   |cons r rs=>cases j<;>rfl
  rw[hse]at u3
  simp only[XDatabase.v]at e6
  rw[hse]at e6
  replace e6:ag Ph aC 393 [.agg [.pv (.str d.name), .pv (.int .i64 d.version), .pv (.lst ((d.stores.map XStore.e).set j [.str (ul d.stores[j] o).1.name, .lst ((ul d.stores[j] o).1.items.map XItem.e), .int .i64 (ul d.stores[j] o).1.auto])), .pv (.lst (d.unique.map XIndexDef.e))]]=some (aD (uN (tR d j (ul d.stores[j] o).1))):=e6
  obtain⟨l,hlv,e5⟩:=Cw hB0 hB hst ho
  simp only[Uv]at e5
  cases b4:(ul d.stores[j] o).2.2
  ·simp only[Bool.false_and,cond_false,P5,TZ]
   rw[u2]
   rw[b4]at e5
   rcases hlv with rfl|⟨rfl,hlv⟩<;>(refine aa (fn:=eA) rfl ?_;simp(maxSteps:=600000) [eA,e1,e2,e3,e4,e5,hj,hx,nV])
  ·simp only[Bool.true_and,P5]
   rw[b4]at e5
   generalize hq:(ul d.stores[j] o).2.1=qn at*
   generalize (ul d.stores[j] o).1.items.map XItem.e=R at*
   cases b5:uN (tR d j (ul d.stores[j] o).1)<;>rw[b5]at e6<;>simp only[cond_true,cond_false,TZ]
   ·rw[u2]
    rcases hlv with rfl|⟨rfl,rfl⟩<;>(refine aa (fn:=eA) rfl ?_;simp(maxSteps:=600000) [eA,e1,e2,e3,e4,e5,e6,hj,hx,nV,tR])
   ·rw[hse,u3]
    rcases hlv with rfl|⟨rfl,rfl⟩<;>(refine aa (fn:=eA) rfl ?_;simp(maxSteps:=600000) [eA,e1,e2,e3,e4,e5,e6,hj,hx,nV,tR])
def EH (a:Option (XDatabase×List Int))(o:XOp):Option (XDatabase×List Int):=match a with
 |none=>none
 |some (d,ns)=>bif (jr d o).2.2 then some ((jr d o).1,ns++[(jr d o).2.1])else none
def Cn (d:XDatabase)(l:List XOp):Option (XDatabase×List Int):=l.foldl EH (some (d,[]))
def Mf (d:XDatabase)(l:List XOp):XDatabase×List Int×Bool:=bif uN d&& !(cw 6 l.length)then(match Cn d l with
 |some (d',ns)=>(d',ns,true)
 |none=>(d,[],false))else(d,[],false)
theorem DY :∀l:List XOp,l.foldl EH none=none
 |[]=>rfl
 |o::l=>DY l
theorem GK {d:XDatabase}{l:List XOp}{k:Nat}(hk:k<l.length):Cn d (l.take (k+1))=EH (Cn d (l.take k)) l[k]:=by
 unfold Cn;rw[List.take_succ_eq_append_getElem hk,List.foldl_append];rfl
theorem Pa {d:XDatabase}{l:List XOp}{k:Nat}(h:Cn d (l.take k)=none):Cn d l=none:=by
 have:l=l.take k++l.drop k:=(List.take_append_drop k l).symm
 unfold Cn at h⊢
 rw[this,List.foldl_append,h,DY]
def xA (l:List XOp)(a:Nat×XDatabase×List Int):Option (Nat×XDatabase×List Int):=match l[a.1]? with
 |some o=>bif (jr a.2.1 o).2.2 then some (a.1+1,(jr a.2.1 o).1,a.2.2++[(jr a.2.1 o).2.1])else none
 |none=>none
def TL (d:XDatabase)(l:List XOp)(a:Nat×XDatabase×List Int):Prop:=a.1≤l.length∧a.2.2.length=a.1∧Cn d (l.take a.1)=some a.2
theorem SW (d:XDatabase)(l:List XOp):TL d l (0,d,[]):=⟨Nat.zero_le _,rfl,rfl⟩
theorem Ku {d:XDatabase}{l:List XOp}{k:Nat}{dk:XDatabase}{ns:List Int}{b:Nat×XDatabase×List Int}(ia:TL d l (k,dk,ns))(h:xA l (k,dk,ns)=some b):
 ∃hk:k<l.length,(jr dk l[k]).2.2=true∧b=(k+1,(jr dk l[k]).1,ns++[(jr dk l[k]).2.1])∧l.length-b.1<l.length-k∧TL d l b:=by
 obtain⟨h1,h2,h3⟩:=ia
 simp only at h1 h2 h3
 by_cases hk:k<l.length
 ·unfold xA at h
  simp only[List.getElem?_eq_getElem hk]at h
  cases q:(jr dk l[k]).2.2<;>rw[q]at h<;>simp only[cond_true,cond_false]at h
  ·cases h
  ·cases h
   refine⟨hk,q,rfl,by simp only;omega,by simp only;omega,by simp[h2],?_⟩
   simp only
   rw[GK hk,h3]
   simp only[EH,q,cond_true]
 ·unfold xA at h
  simp only[List.getElem?_eq_none (Nat.not_lt.1 hk)]at h
  cases h
theorem NB {d:XDatabase}{l:List XOp}{k:Nat}{dk:XDatabase}{ns:List Int}(ia:TL d l (k,dk,ns))(h:xA l (k,dk,ns)=none):
 (k=l.length∧Cn d l=some (dk,ns))∨∃hk:k<l.length,Cn d l=none∧(jr dk l[k]).2.2=false:=by
 obtain⟨h1,h2,h3⟩:=ia
 simp only at h1 h2 h3
 by_cases hk:k<l.length
 ·unfold xA at h
  simp only[List.getElem?_eq_getElem hk]at h
  cases q:(jr dk l[k]).2.2<;>rw[q]at h<;>simp only[cond_true,cond_false]at h
  ·refine .inr ⟨hk,Pa (k:=k+1) ?_,q⟩
   rw[GK hk,h3]
   simp only[EH,q,cond_false]
  ·cases h
 ·obtain rfl:k=l.length:=by omega
  rw[List.take_length]at h3
  exact .inl ⟨rfl,h3⟩
abbrev BD (d:XDatabase):List L:=[.pv (.str d.name), .pv (.int .i64 d.version),lL (d.stores.map XStore.e), .pv (.lst (d.unique.map XIndexDef.e))]
abbrev PI (x:XDatabase×List Int×Bool):V:= .tup [(true,BD x.1),(false,[.own 1 (x.2.1.map jS)]),(false,[.pv (.bool x.2.2)])]
theorem za (d:XDatabase):cZ (.agg [.pv (.str d.name), .pv (.int .i64 d.version),nd 3 (d.stores.map XStore.e), .down 2 (d.unique.map XIndexDef.e)])= .agg (BD d):=by simp[cZ, ↓bw,cV]
theorem yZ (x:XDatabase×Int×Bool):cZ (P5 x)= .tup [(true,BD x.1),(false,[.pv (.int .i64 x.2.1)]),(false,[.pv (.bool x.2.2)])]:=by simp[cZ, ↓aR,cV]
theorem Su {B:Nat}(hB:17≤B){d:XDatabase}(h:d.Ok B){l:List XOp}(hl:∀o∈l,o.Ok B){x:XDatabase×List Int}(hx:Cn d l=some x):x.1.Ok B:=by
 have key:∀(l:List XOp),(∀o∈l,o.Ok B)→∀(a:Option (XDatabase×List Int)),(∀y,a=some y→y.1.Ok B)→∀y,l.foldl EH a=some y→y.1.Ok B:=by
  intro l
  induction l with
  |nil=>intro _ a ha y hy;exact ha y hy
  |cons o l ih=>
   intro ho a ha
   refine ih (fun x m=>ho x (List.mem_cons_of_mem _ m)) _ (fun y hy=> ?_)
   cases a with
   |none=>cases hy
   |some p=>
    obtain⟨dp,np⟩:=p
    simp only[EH]at hy
    cases q:(jr dp o).2.2<;>rw[q]at hy<;>simp only[cond_true,cond_false]at hy
    ·cases hy
    ·cases hy
     exact Ie hB (ha _ rfl) (ho o List.mem_cons_self)
 exact key l hl _ (fun y hy=>by cases hy;exact h) x hx
theorem Mg {B:Nat}(hB:17≤B){d:XDatabase}(h:d.Ok B){l:List XOp}(hl:∀o∈l,o.Ok B):(Mf d l).1.Ok B:=by
 unfold Mf
 cases uN d&& !(cw 6 l.length)<;>simp only[cond_true,cond_false]
 ·exact h
 ·cases q:Cn d l with
  |none=>exact h
  |some x=>exact Su hB h hl q
theorem Eb {B:Nat}(hB0:17≤B)(hB:B≤1048576){d:XDatabase}(h:d.Ok B){l:List XOp}(hl:∀o∈l,o.Ok B)(hlm:l.length≤maxLen):ag Ph aC 564 [d.v,bi (l.map XOp.e)]=some (PI (Mf d l)):=by
 have e1:=ko hB h
 have e2:=za d
 have e3:=mf hB h
 unfold Mf
 simp only[BD]at e2
 generalize V.agg [.pv (.str d.name), .pv (.int .i64 d.version),nd 3 (d.stores.map XStore.e), .down 2 (d.unique.map XIndexDef.e)]=nv at*
 cases b1:uN d<;>rw[b1]at e3
 ·simp only[Bool.false_and,cond_false,PI,BD]
  refine aa (fn:=iC) rfl ?_
  simp(maxSteps:=600000) [iC,e1, ↓e2,e3, ↓aq, ↓aj, ↓ar, ↓ah, ↓aE, ↓am]
 cases b2:cw 6 (l.length:Int)
 rotate_left
 ·simp only[Bool.true_and,Bool.not_true,cond_false,PI,BD]
  refine aa (fn:=iC) rfl ?_
  simp(maxSteps:=600000) [iC,e1, ↓e2,e3,b2, ↓aq, ↓aj, ↓ar, ↓ah, ↓aE, ↓am]
 have l6:l.length≤6:=by have:=of_decide_eq_false b2;omega
 simp only[Bool.true_and,Bool.not_false,cond_true]
 refine aa (fn:=iC) rfl ?_
 simp(maxSteps:=600000) [iC,e1, ↓e2,e3,b2, ↓aq, ↓aj, ↓ar, ↓ah, ↓aE, ↓am]
 refine pk bG Cl.fin [.f,.f,.t,.f,.t,.f,.f,.t,.t,.f,.f,.f,.f,.f,.f,.f,.f,.f,.f,.f,.f,.f,.f,.f,.f,.f,.f,.t,.t,.t,.f,.f,.f,.f,.f,.f,.f,.f,.f,.f,.f,.f,.f,.f,.f,.f,.f,.f,.f,.f,.f,.f,.f] (fun a=>[(29,ai .i64 (a.1:Nat)),(8, .one (.arr 3))]) (fun a=>[.box [.pv (.str d.name), .pv (.int .i64 d.version), .pv (.lst (d.stores.map XStore.e)), .pv (.lst (d.unique.map XIndexDef.e))], .box [.pv (.str []), .pv (.int .i64 0), .nil, .nil], .box [.pv (.str a.2.1.name), .pv (.int .i64 a.2.1.version),lL (a.2.1.stores.map XStore.e), .pv (.lst (a.2.1.unique.map XIndexDef.e))], .arr 1 (a.2.2.map jS)]) (xA l) (fun a=>l.length-a.1) (fun a=>TL d l a∧a.2.1.Ok B) (0,d,[]) ⟨SW d l,h⟩ rfl ?_ (fun a a' ia ha=> ?_) (fun a ia ha=> ?_)
 ·exact Kn.of [0,1,2,3] (by decide) (by simp[↓aO]) (by simp)
 ·obtain⟨k,dk,ns⟩:=a
  obtain⟨ia,iok⟩:=ia
  obtain⟨hk,q1,rfl,q2,q3⟩:=Ku ia ha
  simp only at iok q1 hk⊢
  refine⟨q2,⟨q3,Ie hB0 iok (hl _ (List.getElem_mem hk))⟩,?_⟩
  have hx:=xQ l[k]
  have e5:=wz hB0 hB iok (hl _ (List.getElem_mem hk))
  have e6:=yZ (jr dk l[k])
  have hn:ns.length=k:=ia.2.1
  have m1:=gV (m:=(ns.map jS).length+1) (z:=8) (by rw[List.length_map];omega) (by omega)
  rw[q1]at e6
  simp only[BD]at e6
  generalize P5 (jr dk l[k])=rv at*
  have hm:(ns++[(jr dk l[k]).2.1]).map jS=ns.map jS++[[.int .i64 (jr dk l[k]).2.1]]:=by simp[jS]
  rw[hm]
  generalize (jr dk l[k]).2.1=n1 at*
  generalize (jr dk l[k]).1=d1 at*
  generalize ns.map jS=W at*
  have wk:=aU hlm hk
  have lk:=a8 hk
  clear ia ha q1 q2 q3 hm
  simp(maxSteps:=600000) [jv,hk,hx,e5, ↓e6,m1,wk,lk, ↓aA, ↓aq, ↓aj, ↓ar, ↓ah, ↓aE, ↓am,-cd]
  exact Kn.of [0,1,2,7] (by decide) (by simp[↓aO]) (by simp)
 ·obtain⟨k,dk,ns⟩:=a
  obtain⟨ia,iok⟩:=ia
  simp only at iok⊢
  rcases NB ia ha with⟨hk,q1⟩|⟨hk,q1,q2⟩
  ·rw[q1]
   subst hk
   have lk:cw (l.length:Int) (l.length:Int)=false:=fB (by omega)
   simp only[PI,BD]
   simp(maxSteps:=600000) [jv,lk, ↓aA, ↓aq, ↓aj, ↓ar, ↓ah, ↓aE, ↓am]
  ·rw[q1]
   have hx:=xQ l[k]
   have e5:=wz hB0 hB iok (hl _ (List.getElem_mem hk))
   have e6:=yZ (jr dk l[k])
   rw[q2]at e6
   simp only[BD]at e6
   generalize P5 (jr dk l[k])=rv at*
   generalize (jr dk l[k]).2.1=n1 at*
   generalize (jr dk l[k]).1=d1 at*
   have lk:=a8 hk
   simp only[PI,BD]
   clear ia ha q1 q2
   simp(maxSteps:=600000) [jv,hk,hx,e1, ↓e2,e5, ↓e6,lk, ↓aA, ↓aq, ↓aj, ↓ar, ↓ah, ↓aE, ↓am]
theorem EC {B:Nat}(hB0:17≤B)(hB:B≤1048576){d:XDatabase}(h:d.Ok B){l:List XOp}(hl:∀o∈l,o.Ok B)(hlm:l.length≤maxLen):ag Ph aC 561 [d.v,bi (l.map XOp.e)]=some (PI (Mf d l)):=by
 have e1:=qE hB h
 have e2:=za d
 have e3:=ml hB h
 unfold Mf
 simp only[BD]at e2
 generalize V.agg [.pv (.str d.name), .pv (.int .i64 d.version),nd 3 (d.stores.map XStore.e), .down 2 (d.unique.map XIndexDef.e)]=nv at*
 cases b1:uN d<;>rw[b1]at e3
 ·simp only[Bool.false_and,cond_false,PI,BD]
  refine aa (fn:=iD) rfl ?_
  simp(maxSteps:=600000) [iD,e1, ↓e2,e3, ↓aq, ↓aj, ↓ar, ↓ah, ↓aE, ↓am]
 cases b2:cw 6 (l.length:Int)
 rotate_left
 ·simp only[Bool.true_and,Bool.not_true,cond_false,PI,BD]
  refine aa (fn:=iD) rfl ?_
  simp(maxSteps:=600000) [iD,e1, ↓e2,e3,b2, ↓aq, ↓aj, ↓ar, ↓ah, ↓aE, ↓am]
 have l6:l.length≤6:=by have:=of_decide_eq_false b2;omega
 simp only[Bool.true_and,Bool.not_false,cond_true]
 refine aa (fn:=iD) rfl ?_
 simp(maxSteps:=600000) [iD,e1, ↓e2,e3,b2, ↓aq, ↓aj, ↓ar, ↓ah, ↓aE, ↓am]
 refine pk bG Cl.fin [.f,.t,.t,.f,.t,.f,.f,.t,.t,.t,.f,.f,.f,.f,.f,.f,.f,.f,.f,.f,.f,.f,.f,.f,.f,.f,.f,.f,.f,.f,.f,.f,.f,.f,.f,.f,.f,.f,.f,.f,.f,.f,.f,.f,.f,.f,.f,.f,.f,.f,.f,.f,.f,.f] (fun a=>[(9,ai .i64 (a.1:Nat)),(8, .one (.arr 3))]) (fun a=>[.box [.pv (.str d.name), .pv (.int .i64 d.version), .pv (.lst (d.stores.map XStore.e)), .pv (.lst (d.unique.map XIndexDef.e))], .box [.pv (.str []), .pv (.int .i64 0), .nil, .nil], .box [.pv (.str a.2.1.name), .pv (.int .i64 a.2.1.version),lL (a.2.1.stores.map XStore.e), .pv (.lst (a.2.1.unique.map XIndexDef.e))], .arr 1 (a.2.2.map jS)]) (xA l) (fun a=>l.length-a.1) (fun a=>TL d l a∧a.2.1.Ok B) (0,d,[]) ⟨SW d l,h⟩ rfl ?_ (fun a a' ia ha=> ?_) (fun a ia ha=> ?_)
 ·exact Kn.of [0,1,2,3] (by decide) (by simp[↓aO]) (by simp)
 ·obtain⟨k,dk,ns⟩:=a
  obtain⟨ia,iok⟩:=ia
  obtain⟨hk,q1,rfl,q2,q3⟩:=Ku ia ha
  simp only at iok q1 hk⊢
  refine⟨q2,⟨q3,Ie hB0 iok (hl _ (List.getElem_mem hk))⟩,?_⟩
  have hx:=xQ l[k]
  have e5:=wI hB0 hB iok (hl _ (List.getElem_mem hk))
  have e6:=yZ (jr dk l[k])
  have hn:ns.length=k:=ia.2.1
  have m1:=gV (m:=(ns.map jS).length+1) (z:=8) (by rw[List.length_map];omega) (by omega)
  rw[q1]at e6
  simp only[BD]at e6
  generalize P5 (jr dk l[k])=rv at*
  have hm:(ns++[(jr dk l[k]).2.1]).map jS=ns.map jS++[[.int .i64 (jr dk l[k]).2.1]]:=by simp[jS]
  rw[hm]
  generalize (jr dk l[k]).2.1=n1 at*
  generalize (jr dk l[k]).1=d1 at*
  generalize ns.map jS=W at*
  have wk:=aU hlm hk
  have lk:=a8 hk
  clear ia ha q1 q2 q3 hm
  simp(maxSteps:=600000) [jx,hk,hx,e5, ↓e6,m1,wk,lk, ↓aA, ↓aq, ↓aj, ↓ar, ↓ah, ↓aE, ↓am,-cd]
  exact Kn.of [0,1,2,6] (by decide) (by simp[↓aO]) (by simp)
 ·obtain⟨k,dk,ns⟩:=a
  obtain⟨ia,iok⟩:=ia
  simp only at iok⊢
  rcases NB ia ha with⟨hk,q1⟩|⟨hk,q1,q2⟩
  ·rw[q1]
   subst hk
   have lk:cw (l.length:Int) (l.length:Int)=false:=fB (by omega)
   simp only[PI,BD]
   simp(maxSteps:=600000) [jx,lk, ↓aA, ↓aq, ↓aj, ↓ar, ↓ah, ↓aE, ↓am]
  ·rw[q1]
   have hx:=xQ l[k]
   have e5:=wI hB0 hB iok (hl _ (List.getElem_mem hk))
   have e6:=yZ (jr dk l[k])
   rw[q2]at e6
   simp only[BD]at e6
   generalize P5 (jr dk l[k])=rv at*
   generalize (jr dk l[k]).2.1=n1 at*
   generalize (jr dk l[k]).1=d1 at*
   have lk:=a8 hk
   simp only[PI,BD]
   clear ia ha q1 q2
   simp(maxSteps:=600000) [jx,hk,hx,e1, ↓e2,e5, ↓e6,lk, ↓aA, ↓aq, ↓aj, ↓ar, ↓ah, ↓aE, ↓am]
theorem IY {α:Type}(p:α→Bool)(xs:List α):xs.all p= !(lc xs.length (pz (fun x=> !(p x)) xs)):=by
 cases q:lc xs.length (pz (fun x=> !(p x)) xs)with
 |false=>
  simp only[Bool.not_false,List.all_eq_true]
  intro x hx
  obtain⟨j,hj,rfl⟩:=List.mem_iff_getElem.1 hx
  have:=wL q hj
  simpa only[pz,hj,List.getElem?_eq_getElem,Bool.not_eq_false']using this
 |true=>
  simp only[Bool.not_true]
  rw[Bool.eq_false_iff]
  intro e
  rw[List.all_eq_true]at e
  rw[zD fun k hk=>by simp only[pz,hk,List.getElem?_eq_getElem,e _ (List.getElem_mem hk)];rfl]at q
  cases q
theorem Ec {l:List XOp}(hl:l.length≤maxLen)(h:∀o∈l,o.Ok maxLen):ag Ph aC 595 [bi (l.map XOp.e)]=some (aD (xU l)):=by
 rw[show xU l=(!(lc l.length (pz (fun o=> !(jU o)) l))&& !(cw 6 l.length)) by unfold xU;rw[IY,U4]]
 refine aa (fn:=rJ) rfl ?_
 simp +contextual (maxSteps:=9999999) [rJ]
 refine aL bG Cl.fin [.t,.f,.f,.f,.f,.t,.t,.t,.f,.f,.f,.f,.f,.f,.f,.f,.f,.f] (fun k=>[(7,ai .i64 k)]) l.length (pz (fun o=> !(jU o)) l) rfl (by simp) (fun k hk _=> ?_) (fun _ hp=> ?_)
 ·have e1:=yG (h _ (List.getElem_mem hk))
  simp +contextual (maxSteps:=9999999) [lw,pz,hk,xQ l[k],e1,aU hl hk,a8 hk]
 ·simp(maxSteps:=9999999) [lw,hp]
end Gi
