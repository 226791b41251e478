/- Of this proof. -/
import Derived.Test.YtbeaonmepfkmmaaGreatGoQ
set_option linter.unusedSimpArgs false
set_option linter.unusedVariables false
namespace Gi
open Go Go.RowKit
set_option maxHeartbeats 8000000
set_option maxRecDepth 4000
attribute [local simp] start nx bZ cJ cB dB cA dA dG dF og oA oh oB ol oC om oD oq oE ot oF ou oG ov oH oz oI V.cells plain bt gD isInt isStr isBool bin bM fF bN fG dC un asList L.view au V.view viewL aT az bQ bd b6 comp aN bU cy bI aY aW aX ar aj aE ah aq aO am aR bw aA aZ a9 V.flat L.flat cZ cV br putAt thaw thawL thawT V.ow dE cD cE bO dD bP cC freezeVs freezeLs freezeL V.mut L.mut aH cd eW bg bF aP dN cu bK cH L.ren aJ cS bX cY bW bE wp_seq wp_block aM cG bR bf bS wp_skip wp_exit wp_ret b9 b8 cj ca cr ct cq bH aF L.notArr bq bo bp cF b7 storeD aS eB ba bY aQ kX L.mov L.closed V.closed PV.bare PV.flat
def AN (s t:List UInt8)(p:XPage):Bool:=p.site==s&&p.top==t
theorem Ay {α:Type}{p:α→Bool}{xs:List α}{k:Nat}(h:k<xs.length):(xs.take (k+1)).filter p=(xs.take k).filter p++(if p xs[k]then [xs[k]]else []):=by
 rw[List.take_succ_eq_append_getElem h,List.filter_append];congr 1;simp[List.filter_cons]
theorem Cf {B:Nat}(hB:B≤1048576){c0 c1 c2 c3 c5 c6 c7 c8 c9:PV}{ps:List XPage}(hl:ps.length≤B)(h:∀p∈ps,p.Ok B)(s t:List UInt8):ag Ph aC 551 [.agg [.pv c0, .pv c1, .pv c2, .pv c3, .pv (.lst (ps.map XPage.e)), .pv c5, .pv c6, .pv c7, .pv c8, .pv c9],di s,di t]=some (.one (.own 11 ((ps.filter (AN s t)).map XPage.e))):=by
 have hlm:ps.length≤maxLen:=by unfold maxLen;omega
 refine aa (fn:=qc) rfl ?_
 simp(maxSteps:=9999999) [qc]
 refine iB bG Cl.fin ps.length [.f,.t,.t,.f,.f,.f,.f,.t,.f,.f,.f,.f,.t,.t,.t,.f,.f,.f,.f,.f,.f,.f,.f,.f,.f,.f,.f,.f,.f,.f,.f,.f,.f,.f,.f] (fun k=>[(7, .one (.arr 0)),(14,ai .i64 k)]) (fun k=>[.arr 11 (((ps.take k).filter (AN s t)).map XPage.e)]) rfl (Kn.of [1] (by decide) (by simp) (by simp)) (fun k hk=> ?_) ?_
 ·have hx:=XPage.e.eq_1 ps[k]
  have e1:=AE hB (h _ (List.getElem_mem hk))
  have hf:=Ay (p:=AN s t) hk
  have hlen:((ps.take k).filter (AN s t)).length≤k:=Nat.le_trans (List.length_filter_le _ _) (by rw[List.length_take];omega)
  have m1:=gV (m:=((ps.take k).filter (AN s t)).length+1) (z:=144) (by omega) (by omega)
  rw[hf,List.map_append]
  have hW:(((ps.take k).filter (AN s t)).map XPage.e).length=((ps.take k).filter (AN s t)).length:=by simp
  generalize ((ps.take k).filter (AN s t)).length=m at*
  generalize ((ps.take k).filter (AN s t)).map XPage.e=W at*
  have hp:AN s t ps[k]=(ps[k].site==s&&ps[k].top==t):=rfl
  cases q1:(ps[k].site==s)<;>cases q2:(ps[k].top==t)<;>rw[q1,q2]at hp<;>simp only[hp]<;>simp(maxSteps:=9999999) [kG,hk,hx,q1,q2,e1,m1,hW,aU hlm hk,a8 hk, ↓bw, ↓aA, ↓aj, ↓ar, ↓ah, ↓aE, ↓am,-cd]
  ·exact Kn.of [0] (by decide) (by simp) (by simp)
  ·exact Kn.of [0] (by decide) (by simp) (by simp)
  ·exact Kn.of [0] (by decide) (by simp) (by simp)
  ·exact Kn.of [3] (by decide) (by simp) (by simp)
 ·rw[List.take_length]
  simp(maxSteps:=9999999) [kG]
theorem Cr {B:Nat}(hB:B≤1048576){c0 c1 c2 c3 c5 c6 c7 c8 c9:PV}{ps:List XPage}(hl:ps.length≤B)(h:∀p∈ps,p.Ok B)(s t:List UInt8):ag Ph aC 549 [.agg [.pv c0, .pv c1, .pv c2, .pv c3, .pv (.lst (ps.map XPage.e)), .pv c5, .pv c6, .pv c7, .pv c8, .pv c9],di s,di t]=some (.one (.own 11 ((ps.filter (AN s t)).map XPage.e))):=by
 have hlm:ps.length≤maxLen:=by unfold maxLen;omega
 refine aa (fn:=qk) rfl ?_
 simp(maxSteps:=9999999) [qk]
 refine iB bG Cl.fin ps.length [.f,.t,.t,.t,.f,.f,.f,.t,.t,.f,.f,.f,.f,.f,.f,.f,.f,.f,.f,.f,.f,.f,.f,.f,.f,.f,.f,.f,.f,.f,.f,.f,.f,.f,.f,.f,.f,.f,.f,.f,.f,.f,.f,.f,.f] (fun k=>[(7, .one (.arr 1)),(8,ai .i64 k)]) (fun k=>[.box [.pv c0, .pv c1, .pv c2, .pv c3, .pv (.lst (ps.map XPage.e)), .pv c5, .pv c6, .pv c7, .pv c8, .pv c9], .arr 11 (((ps.take k).filter (AN s t)).map XPage.e)]) rfl (Kn.of [0,1] (by decide) (by simp) (by simp)) (fun k hk=> ?_) ?_
 ·have hx:=XPage.e.eq_1 ps[k]
  have e1:=Cv hB (h _ (List.getElem_mem hk))
  have hf:=Ay (p:=AN s t) hk
  have hlen:((ps.take k).filter (AN s t)).length≤k:=Nat.le_trans (List.length_filter_le _ _) (by rw[List.length_take];omega)
  have m1:=gV (m:=((ps.take k).filter (AN s t)).length+1) (z:=144) (by omega) (by omega)
  rw[hf,List.map_append]
  have hW:(((ps.take k).filter (AN s t)).map XPage.e).length=((ps.take k).filter (AN s t)).length:=by simp
  generalize ((ps.take k).filter (AN s t)).length=m at*
  generalize ((ps.take k).filter (AN s t)).map XPage.e=W at*
  have hp:AN s t ps[k]=(ps[k].site==s&&ps[k].top==t):=rfl
  cases q1:(ps[k].site==s)<;>cases q2:(ps[k].top==t)<;>rw[q1,q2]at hp<;>simp only[hp]<;>simp(maxSteps:=9999999) [kI,hk,hx,q1,q2,e1,m1,hW,aU hlm hk,a8 hk, ↓bw, ↓aA, ↓aj, ↓ar, ↓ah, ↓aE, ↓am,-cd]
  ·exact Kn.of [0,1] (by decide) (by simp) (by simp)
  ·exact Kn.of [0,1] (by decide) (by simp) (by simp)
  ·exact Kn.of [0,1] (by decide) (by simp) (by simp)
  ·exact Kn.of [0,3] (by decide) (by simp) (by simp)
 ·rw[List.take_length]
  simp(maxSteps:=9999999) [kI]
def tK (r:XRange)(x:XItem):Bool:= !(JV x.key r)
def su (s:XStore)(r:XRange):XStore×Int:=bif fg s then(⟨s.name,s.items.filter (tK r),s.auto⟩,(s.items.length:Int)-((s.items.filter (tK r)).length:Nat))else(s,0)
theorem SL {call:Nat→List V→Option V}{c:Nat}{caps:List V}{p:XItem→Bool}:∀{xs:List XItem},(∀x∈xs,call c (.agg (x.e.map .pv)::caps)=some (aD (p x)))→fh call c caps (xs.map XItem.e)=some ((xs.filter fun x=> !p x).map XItem.e)
 |[],_=>rfl
 |x::xs,h=>by
  have ih:=SL (xs:=xs) fun y hy=>h y (List.mem_cons_of_mem _ hy)
  have hx:=h x List.mem_cons_self
  rw[List.map_cons,fh,hx,ih]
  cases hp:p x<;>simp[aD,List.filter_cons,hp]
def TY (z:Nat)(l:L)(rows:List (List PV)):Prop:=l= .own z rows∨(l= .nil∧rows=[])
theorem HF (r:XRange)(xs:List XItem):(xs.filter (tK r)).length≤xs.length:=List.length_filter_le _ _
theorem pp {B:Nat}(hB:B≤1048576){s:XStore}(h:s.Ok B){r:XRange}(hr:r.Ok):∃l,TY 4 l ((su s r).1.items.map XItem.e)∧ag Ph aC 605 [s.v,r.v]=some (.tup [(true,[.pv (.str (su s r).1.name),l, .pv (.int .i64 (su s r).1.auto)]),(false,[.pv (.int .i64 (su s r).2)])]):=by
 have hl:s.items.length≤1048576:=Nat.le_trans h.2.1.1 hB
 have e1:=ff hB h
 have e2:=jz (XStore.Ok.mono (show B≤maxLen by unfold maxLen;omega) h)
 have O:=Bi 4 (s.items.map XItem.e)
 have c2:fh (ag Ph aC) 608 [rE [.bool r.hasLow, .bool r.hasHigh, .int .i64 r.low.kind, .int .i64 r.low.n, .str r.low.text, .int .i64 r.high.kind, .int .i64 r.high.n, .str r.high.text]] (s.items.map XItem.e)=some ((s.items.filter (tK r)).map XItem.e):=SL (p:=fun x=>JV x.key r) fun x hx=>by
  have e4:=yF (XKey.Ok.mono (show B≤maxLen by unfold maxLen;omega) (h.2.1.2 x hx).1) hr
  refine aa (fn:=j8) rfl ?_
  simp(maxSteps:=600000) [j8,XItem.e.eq_1 x,rE,e4]
 have hf:=HF r s.items
 have w1:IntKind.i64.wrap ((s.items.length:Int)-((s.items.filter (tK r)).length:Nat))=(s.items.length:Int)-((s.items.filter (tK r)).length:Nat):=by rw[IntKind.wrap_i64];omega
 have w2:IntKind.i64.wrap (s.items.length:Int)=(s.items.length:Int):=by rw[IntKind.wrap_i64];omega
 unfold su
 cases c1:fg s<;>rw[c1]at e2
 ·simp only[cond_false]
  rcases O with⟨q0,q1⟩|⟨q0,q1⟩<;>rw[q1]at e1
  ·refine⟨_, .inr ⟨rfl,q0⟩,?_⟩
   refine aa (fn:=dK) rfl ?_
   simp(maxSteps:=600000) [dK,e1,e2]
  ·refine⟨_, .inl rfl,?_⟩
   refine aa (fn:=dK) rfl ?_
   simp(maxSteps:=600000) [dK,e1,e2]
 ·simp only[cond_true]
  rcases O with⟨q0,q1⟩|⟨q0,q1⟩<;>rw[q1]at e1
  ·have q2:s.items=[]:=by simpa using q0
   refine⟨_, .inr ⟨rfl,by rw[q2];rfl⟩,?_⟩
   refine aa (fn:=dK) rfl ?_
   have hfl:(s.items.filter (tK r)).length=0:=by rw[q2];rfl
   simp(maxSteps:=600000) [dK,e1,e2,lK,qY,oU,hfl,w2]
  ·refine⟨_, .inl rfl,?_⟩
   refine aa (fn:=dK) rfl ?_
   simp(maxSteps:=600000) [dK,e1,e2,c2,lK,qY,AS,oU,w1]
def JO (b0 b1 b2:AObj)(y0 y2:L):List (List PV)→List AObj
 |[]=>[b0,b1,b2, .box [y0, .nil,y2]]
 |q::qs=>[b0,b1,b2, .box [y0, .arr 4,y2], .arr 4 (q::qs)]
theorem pw {B:Nat}(hB:B≤1048576){s:XStore}(h:s.Ok B){r:XRange}(hr:r.Ok):∃l,TY 4 l ((su s r).1.items.map XItem.e)∧ag Ph aC 602 [s.v,r.v]=some (.tup [(true,[.pv (.str (su s r).1.name),l, .pv (.int .i64 (su s r).1.auto)]),(false,[.pv (.int .i64 (su s r).2)])]):=by
 have hl:s.items.length≤1048576:=Nat.le_trans h.2.1.1 hB
 have hlm:s.items.length≤maxLen:=by unfold maxLen;omega
 have e1:=gh hB h
 have e2:=ph (XStore.Ok.mono (show B≤maxLen by unfold maxLen;omega) h)
 have O:=Bi 4 (s.items.map XItem.e)
 have hi:=h.2.1.2
 have hf:=HF r s.items
 have w1:IntKind.i64.wrap ((s.items.length:Int)-((s.items.filter (tK r)).length:Nat))=(s.items.length:Int)-((s.items.filter (tK r)).length:Nat):=by rw[IntKind.wrap_i64];omega
 unfold su
 cases c1:fg s<;>rw[c1]at e2
 ·simp only[cond_false]
  rcases O with⟨q0,q1⟩|⟨q0,q1⟩<;>rw[q1]at e1
  ·refine⟨_, .inr ⟨rfl,q0⟩,?_⟩
   refine aa (fn:=eN) rfl ?_
   simp(maxSteps:=600000) [eN,e1,e2]
  ·refine⟨_, .inl rfl,?_⟩
   refine aa (fn:=eN) rfl ?_
   simp(maxSteps:=600000) [eN,e1,e2]
 simp only[cond_true]
 refine⟨pF 4 ((s.items.filter (tK r)).map XItem.e),(by cases(s.items.filter (tK r)).map XItem.e with|nil=>exact .inr ⟨rfl,rfl⟩|cons q qs=>exact .inl rfl),?_⟩
 refine aa (fn:=eN) rfl ?_
 simp(maxSteps:=600000) [eN,e2]
 refine iB bG Cl.fin s.items.length [.f,.f,.t,.t,.t,.f,.t,.t,.f,.f,.f,.f,.f,.f,.f,.f,.f,.f,.f,.f,.f,.f,.f,.f,.f,.f,.f,.f,.f,.f,.f,.f,.f,.f,.f,.f,.f,.f,.f,.f,.f,.f,.f,.f,.f,.f,.f,.f,.f,.f,.f,.f,.f] (fun k=>[(7,ai .i64 k)]) (fun k=>JO (.box [.pv (.str s.name), .pv (.lst (s.items.map XItem.e)), .pv (.int .i64 s.auto)]) (.box [.pv (.bool r.hasLow), .pv (.bool r.hasHigh), .pv (.int .i64 r.low.kind), .pv (.int .i64 r.low.n), .pv (.str r.low.text), .pv (.int .i64 r.high.kind), .pv (.int .i64 r.high.n), .pv (.str r.high.text)]) (.box [.pv (.str []), .nil, .pv (.int .i64 0)]) (.pv (.str s.name)) (.pv (.int .i64 s.auto)) (((s.items.take k).filter (tK r)).map XItem.e)) rfl (Kn.of [0,1,2,3] (by decide) (by simp[JO]) (by simp)) (fun k hk=> ?_) ?_
 ·have hx:=XItem.e.eq_1 s.items[k]
  have hxo:=hi _ (List.getElem_mem hk)
  have e3:=qD hB hxo
  have e4:=zg (XKey.Ok.mono (show B≤maxLen by unfold maxLen;omega) hxo.1) hr
  have hf:=Ay (p:=tK r) hk
  have hlen:((s.items.take k).filter (tK r)).length≤k:=Nat.le_trans (List.length_filter_le _ _) (by rw[List.length_take];omega)
  have hp:tK r s.items[k]= !(JV s.items[k].key r):=rfl
  rw[hf,List.map_append,hp]
  generalize hW:((s.items.take k).filter (tK r)).map XItem.e=W
  have hWl:W.length≤k:=by rw[←hW,List.length_map];exact hlen
  have m1:=gV (m:=W.length+1) (z:=56) (by omega) (by omega)
  clear hW hlen hf w1
  cases q1:JV s.items[k].key r<;>rw[q1]at e4
  ·cases W with
   |nil=>
    simp(maxSteps:=600000) [JO,dH,hk,hx,e3,e4,m1,aU hlm hk,a8 hk,-cd]
    exact Kn.of [0,1,2,3,5] (by decide) (by simp) (by simp)
   |cons w ws=>
    simp only[List.length_cons]at m1
    simp(maxSteps:=600000) [JO,dH,hk,hx,e3,e4,m1,aU hlm hk,a8 hk,-cd]
    exact Kn.of [0,1,2,3,6] (by decide) (by simp) (by simp)
  ·cases W with
   |nil=>simp(maxSteps:=600000) [JO,dH,hk,hx,e4,aU hlm hk,a8 hk]
   |cons w ws=>simp(maxSteps:=600000) [JO,dH,hk,hx,e4,aU hlm hk,a8 hk]
 ·rw[List.take_length]
  have hW:((s.items.filter (tK r)).map XItem.e).length=(s.items.filter (tK r)).length:=by simp
  rw[←hW]at w1⊢
  generalize (s.items.filter (tK r)).map XItem.e=W at w1⊢
  cases W with
  |nil=>
   have w2:IntKind.i64.wrap (s.items.length:Int)=(s.items.length:Int):=by rw[IntKind.wrap_i64];omega
   simp(maxSteps:=600000) [JO,dH,oU,w2,pF]
  |cons w ws=>
   simp only[List.length_cons]at w1
   push_cast at w1
   simp(maxSteps:=600000) [JO,dH,oU,w1,pF]
def AQ (k:XKey):XRange:=⟨true,true,k,k⟩
def tO :XRange:=⟨false,false,⟨0,0,[]⟩,⟨0,0,[]⟩⟩
def R8 (s:XStore)(k:XKey):Int:=bif cw (dM (n9 k) s.items) 0 then-1 else((dZ s k).fs.length:Int)
def ul (s:XStore)(o:XOp):XStore×Int×Bool:=
 bif o.kind==1 then((ln s o.key o.rcd).1,1,(ln s o.key o.rcd).2)else
 bif o.kind==2 then((BB s o.key o.rcd).1,1,(BB s o.key o.rcd).2)else
 bif o.kind==3 then((su s (AQ o.key)).1,(su s (AQ o.key)).2,true)else
 bif o.kind==5 then((su s tO).1,(su s tO).2,true)else
 bif o.kind==4 then(s,R8 s o.key,true)else
 ((yI s o.key o.field).1,FX s o.key o.field,(xk s o.key o.field).2&&(yI s o.key o.field).2)
def O4 (s:XStore)(o:XOp):XStore×Int×Bool:=
 bif o.kind==1 then((ln s o.key o.rcd).1,1,(ln s o.key o.rcd).2)else
 bif o.kind==2 then((BB s o.key o.rcd).1,1,(BB s o.key o.rcd).2)else
 bif o.kind==3 then((su s (AQ o.key)).1,(su s (AQ o.key)).2,true)else
 bif o.kind==5 then((su s tO).1,(su s tO).2,true)else
 bif o.kind==4 then(s,R8 s o.key,true)else
 bif (xk s o.key o.field).2 then((yI s o.key o.field).1,FX s o.key o.field,(yI s o.key o.field).2)else(s,0,false)
theorem Sn (s:XStore)(o:XOp):(O4 s o).2.2=(ul s o).2.2∧((ul s o).2.2=true→O4 s o=ul s o):=by
 unfold O4 ul
 cases o.kind==1<;>simp only[cond_true,cond_false]
 case true=>simp
 cases o.kind==2<;>simp only[cond_true,cond_false]
 case true=>simp
 cases o.kind==3<;>simp only[cond_true,cond_false]
 case true=>simp
 cases o.kind==5<;>simp only[cond_true,cond_false]
 case true=>simp
 cases o.kind==4<;>simp only[cond_true,cond_false]
 case true=>simp
 cases(xk s o.key o.field).2
 ·exact⟨by simp,fun h=>by simp at h⟩
 ·exact⟨by simp,fun h=>by simp⟩
def Te (l:L)(rows:List (List PV)):Prop:=l= .pv (.lst rows)∨(l= .nil∧rows=[])
theorem uz (rows:List (List PV)):Te (lL rows) rows:=by
 cases rows with
 |nil=>exact .inr ⟨rfl,rfl⟩
 |cons r rs=>exact .inl rfl
abbrev Uv (x:XStore×Int×Bool)(l:L):V:= .tup [(true,[.pv (.str x.1.name),l, .pv (.int .i64 x.1.auto)]),(false,[.pv (.int .i64 x.2.1)]),(false,[.pv (.bool x.2.2)])]
theorem ND {k:XKey}(h:k.Ok maxLen):(AQ k).Ok:=⟨h,h⟩
theorem NC :tO.Ok:=⟨⟨by simp[tO,jt],by simp[tO,jt],by simp[tO]⟩,⟨by simp[tO,jt],by simp[tO,jt],by simp[tO]⟩⟩
theorem R3 {i:Int}:(!(cw i 0))=decide (0≤i):=by unfold cw;by_cases q:0≤i<;>simp[q];omega
theorem HS {B:Nat}(hB0:17≤B)(hB:B≤1048576){s:XStore}(h:s.Ok B){o:XOp}(ho:o.Ok B):∃l,Te l ((O4 s o).1.items.map XItem.e)∧ag Ph aC 597 [s.v,o.v]=some (Uv (O4 s o) l):=by
 have hl:s.items.length≤1048576:=Nat.le_trans h.2.1.1 hB
 obtain⟨_,_,hk,hrc,hfn⟩:=ho
 have hkm:o.key.Ok maxLen:=XKey.Ok.mono (by unfold maxLen;omega) hk
 have e0:=kO (s:=s) (by unfold maxLen;omega) o.key
 unfold O4
 obtain⟨g1,h1⟩:∃g,(o.kind==1)=g:=⟨_,rfl⟩
 rw[h1]
 cases g1<;>simp only[cond_true,cond_false]
 case true=>
  have e1:=lF hB h hk hrc
  have e2:=oM (ln s o.key o.rcd)
  refine⟨_,uz _,?_⟩
  simp only[sQ]at e2
  generalize mi (ln s o.key o.rcd)=pr at*
  refine aa (fn:=co) rfl ?_
  simp(maxSteps:=600000) [co,e0,e1,h1, ↓e2, ↓aj, ↓ar, ↓aq, ↓ah, ↓aE, ↓am]
 obtain⟨g2,h2⟩:∃g,(o.kind==2)=g:=⟨_,rfl⟩
 rw[h2]
 cases g2<;>simp only[cond_true,cond_false]
 case true=>
  have e1:=Cd hB h hk hrc
  refine⟨_,uz _,?_⟩
  simp only[sQ]at e1
  refine aa (fn:=co) rfl ?_
  simp(maxSteps:=600000) [co,e0,e1,h1,h2, ↓aA, ↓aj, ↓ar, ↓aq, ↓ah, ↓aE, ↓am]
 obtain⟨g3,h3⟩:∃g,(o.kind==3)=g:=⟨_,rfl⟩
 rw[h3]
 cases g3<;>simp only[cond_true,cond_false]
 case true=>
  obtain⟨l,hlv,e1⟩:=pp hB h (ND hkm)
  rcases hlv with rfl|⟨rfl,hlv⟩
  ·refine⟨_, .inl rfl,?_⟩
   simp only[AQ]at e1
   refine aa (fn:=co) rfl ?_
   simp(maxSteps:=600000) [co,e0,e1,h1,h2,h3,AQ]
  ·refine⟨_, .inr ⟨rfl,hlv⟩,?_⟩
   simp only[AQ]at e1
   refine aa (fn:=co) rfl ?_
   simp(maxSteps:=600000) [co,e0,e1,h1,h2,h3,AQ]
 obtain⟨g4,h4⟩:∃g,(o.kind==5)=g:=⟨_,rfl⟩
 rw[h4]
 cases g4<;>simp only[cond_true,cond_false]
 case true=>
  obtain⟨l,hlv,e1⟩:=pp hB h NC
  rcases hlv with rfl|⟨rfl,hlv⟩
  ·refine⟨_, .inl rfl,?_⟩
   simp only[tO]at e1
   refine aa (fn:=co) rfl ?_
   simp(maxSteps:=600000) [co,e0,e1,h1,h2,h3,h4,tO]
  ·refine⟨_, .inr ⟨rfl,hlv⟩,?_⟩
   simp only[tO]at e1
   refine aa (fn:=co) rfl ?_
   simp(maxSteps:=600000) [co,e0,e1,h1,h2,h3,h4,tO]
 obtain⟨g5,h5⟩:∃g,(o.kind==4)=g:=⟨_,rfl⟩
 rw[h5]
 have ht:=yT (s:=s) (k:=o.key)
 have hf:=CC (s:=s) (k:=o.key)
 have b1:=R3 (i:=dM (n9 o.key) s.items)
 cases g5<;>simp only[cond_true,cond_false]
 case true=>
  refine⟨_, .inl rfl,?_⟩
  unfold R8
  by_cases q:0≤dM (n9 o.key) s.items
  ·obtain⟨x,hi,hx⟩:=ht q
   have hw0:=XItem.e.eq_1 x
   have hm:(s.items.map XItem.e)[(dM (n9 o.key) s.items).toNat]? =some x.e:=by rw[List.getElem?_map,hi];rfl
   have l0:cw (dM (n9 o.key) s.items) 0=false:=fB (by omega)
   rw[hx]
   generalize dM (n9 o.key) s.items=i at*
   refine aa (fn:=co) rfl ?_
   simp(maxSteps:=600000) [co,e0,h1,h2,h3,h4,h5,l0,q,hm,hw0,oU]
  ·have l0:cw (dM (n9 o.key) s.items) 0=true:=eJ (by omega)
   generalize dM (n9 o.key) s.items=i at*
   refine aa (fn:=co) rfl ?_
   simp(maxSteps:=600000) [co,e0,h1,h2,h3,h4,h5,l0]
 have hro:=sJ h o.key
 have e8:ag Ph aC 190 [.agg [.pv (.lst ((dZ s o.key).fs.map XField.e))],di o.field]=some (Sx (m8 (dZ s o.key).fs o.field)):=gU (r:=dZ s o.key) (by have:=hro.1;unfold maxLen;omega) o.field
 have e3:ag Ph aC 341 [.agg [.pv (.lst ((dZ s o.key).fs.map XField.e))],di o.field,ai .i64 (FX s o.key o.field)]=some (qx (xk s o.key o.field)):=sB hB hro hfn (JU _)
 have e4:ag Ph aC 342 [s.v,o.key.v, .agg [.pv (.lst ((xk s o.key o.field).1.map XField.e))]]=some (mi (yI s o.key o.field)):=lF hB h hk (vT (by omega) hro _ _)
 have e5:=oM (yI s o.key o.field)
 have e7:=zb (xk s o.key o.field)
 have hw:IntKind.i64.wrap ((m8 (dZ s o.key).fs o.field).1+1)=FX s o.key o.field:=rfl
 generalize mi (yI s o.key o.field)=pr at*
 generalize yI s o.key o.field=p at*
 generalize qx (xk s o.key o.field)=rr at*
 generalize xk s o.key o.field=sr at*
 generalize FX s o.key o.field=n1 at*
 generalize dZ s o.key=rc at*
 generalize m8 rc.fs o.field=g at*
 generalize dM (n9 o.key) s.items=i at*
 simp only[sQ]at e5
 obtain⟨fs1,b⟩:=sr
 obtain⟨p1,pb⟩:=p
 obtain⟨gn,gb⟩:=g
 simp only at e3 e4 e5 e7 e8 hw⊢
 by_cases q:0≤i
 ·obtain⟨x,hi,hx⟩:=ht q
  have hw0:=XItem.e.eq_1 x
  rw[←hx]at hw0
  have hm:(s.items.map XItem.e)[i.toNat]? =some x.e:=by rw[List.getElem?_map,hi];rfl
  cases b
  ·refine⟨_, .inl rfl,?_⟩
   refine aa (fn:=co) rfl ?_
   simp(maxSteps:=600000) [co,e0,e3,e8,h1,h2,h3,h4,h5,hw,b1,q,hm,hw0, ↓e7]
  ·refine⟨_,uz _,?_⟩
   refine aa (fn:=co) rfl ?_
   simp(maxSteps:=600000) [co,e0,e3,e4,e8,h1,h2,h3,h4,h5,hw,b1,q,hm,hw0, ↓e5, ↓e7, ↓aq, ↓aj, ↓ar, ↓ah, ↓aE, ↓am]
 ·have hx:=hf q
  rw[hx]at e3 e8
  simp only[List.map_nil]at e3 e8
  cases b
  ·refine⟨_, .inl rfl,?_⟩
   refine aa (fn:=co) rfl ?_
   simp(maxSteps:=600000) [co,e0,e3,e8,h1,h2,h3,h4,h5,hw,b1,q, ↓e7]
  ·refine⟨_,uz _,?_⟩
   refine aa (fn:=co) rfl ?_
   simp(maxSteps:=600000) [co,e0,e3,e4,e8,h1,h2,h3,h4,h5,hw,b1,q, ↓e5, ↓e7, ↓aq, ↓aj, ↓ar, ↓ah, ↓aE, ↓am]
theorem Cw {B:Nat}(hB0:17≤B)(hB:B≤1048576){s:XStore}(h:s.Ok B){o:XOp}(ho:o.Ok B):∃l,Te l ((ul s o).1.items.map XItem.e)∧ag Ph aC 594 [s.v,o.v]=some (Uv (ul s o) l):=by
 have hl:s.items.length≤1048576:=Nat.le_trans h.2.1.1 hB
 obtain⟨_,_,hk,hrc,hfn⟩:=ho
 have hkm:o.key.Ok maxLen:=XKey.Ok.mono (by unfold maxLen;omega) hk
 unfold ul
 obtain⟨g1,h1⟩:∃g,(o.kind==1)=g:=⟨_,rfl⟩
 rw[h1]
 cases g1<;>simp only[cond_true,cond_false]
 case true=>
  have e1:=lI hB h hk hrc
  have e2:=oM (ln s o.key o.rcd)
  refine⟨_,uz _,?_⟩
  simp only[sQ]at e2
  generalize mi (ln s o.key o.rcd)=pr at*
  refine aa (fn:=cf) rfl ?_
  simp(maxSteps:=600000) [cf,e1,h1, ↓e2, ↓aj, ↓ar, ↓aq, ↓ah, ↓aE, ↓am]
 obtain⟨g2,h2⟩:∃g,(o.kind==2)=g:=⟨_,rfl⟩
 rw[h2]
 cases g2<;>simp only[cond_true,cond_false]
 case true=>
  have e1:=Cp hB h hk hrc
  refine⟨_,uz _,?_⟩
  simp only[sQ]at e1
  refine aa (fn:=cf) rfl ?_
  simp(maxSteps:=600000) [cf,e1,h1,h2, ↓aA, ↓aj, ↓ar, ↓aq, ↓ah, ↓aE, ↓am]
 obtain⟨g3,h3⟩:∃g,(o.kind==3)=g:=⟨_,rfl⟩
 rw[h3]
 cases g3<;>simp only[cond_true,cond_false]
 case true=>
  obtain⟨l,hlv,e1⟩:=pw hB h (ND hkm)
  rcases hlv with rfl|⟨rfl,hlv⟩
  ·refine⟨_, .inl rfl,?_⟩
   simp only[AQ]at e1
   refine aa (fn:=cf) rfl ?_
   simp(maxSteps:=600000) [cf,e1,h1,h2,h3,AQ]
  ·refine⟨_, .inr ⟨rfl,hlv⟩,?_⟩
   simp only[AQ]at e1
   refine aa (fn:=cf) rfl ?_
   simp(maxSteps:=600000) [cf,e1,h1,h2,h3,AQ]
 obtain⟨g5,h5⟩:∃g,(o.kind==4)=g:=⟨_,rfl⟩
 rw[h5]
 cases g5
 case true=>
  have h4:(o.kind==5)=false:=by
   have:o.kind=4:=by simpa using h5
   rw[this];rfl
  rw[h4]
  simp only[cond_true,cond_false]
  have e0:=i7 (s:=s) (by unfold maxLen;omega) o.key
  have e1:=gh hB h
  have e2:=pI s
  have ht:=yT (s:=s) (k:=o.key)
  refine⟨_,uz _,?_⟩
  simp only[sQ]at e2
  generalize V.agg [.pv (.str s.name),nd 4 (s.items.map XItem.e), .pv (.int .i64 s.auto)]=nv at*
  unfold R8
  by_cases q:0≤dM (n9 o.key) s.items
  ·obtain⟨x,hi,hx⟩:=ht q
   have hw0:=XItem.e.eq_1 x
   have hm:(s.items.map XItem.e)[(dM (n9 o.key) s.items).toNat]? =some x.e:=by rw[List.getElem?_map,hi];rfl
   have l0:cw (dM (n9 o.key) s.items) 0=false:=fB (by omega)
   rw[hx]
   generalize dM (n9 o.key) s.items=i at*
   refine aa (fn:=cf) rfl ?_
   simp(maxSteps:=600000) [cf,e0,e1,h1,h2,h3,h5,l0,q,hm,hw0,oU, ↓e2, ↓aj, ↓ar, ↓aq, ↓ah, ↓aE, ↓am]
  ·have l0:cw (dM (n9 o.key) s.items) 0=true:=eJ (by omega)
   generalize dM (n9 o.key) s.items=i at*
   refine aa (fn:=cf) rfl ?_
   simp(maxSteps:=600000) [cf,e0,e1,h1,h2,h3,h5,l0, ↓e2, ↓aj, ↓ar, ↓aq, ↓ah, ↓aE, ↓am]
 obtain⟨g4,h4⟩:∃g,(o.kind==5)=g:=⟨_,rfl⟩
 rw[h4]
 cases g4<;>simp only[cond_true,cond_false]
 case true=>
  obtain⟨l,hlv,e1⟩:=pw hB h NC
  rcases hlv with rfl|⟨rfl,hlv⟩
  ·refine⟨_, .inl rfl,?_⟩
   simp only[tO]at e1
   refine aa (fn:=cf) rfl ?_
   simp(maxSteps:=600000) [cf,e1,h1,h2,h3,h4,h5,tO]
  ·refine⟨_, .inr ⟨rfl,hlv⟩,?_⟩
   simp only[tO]at e1
   refine aa (fn:=cf) rfl ?_
   simp(maxSteps:=600000) [cf,e1,h1,h2,h3,h4,h5,tO]
 have e1:=F2 hB0 hB h hk hfn
 refine⟨_,uz _,?_⟩
 simp only[sQ]at e1
 refine aa (fn:=cf) rfl ?_
 simp(maxSteps:=600000) [cf,e1,h1,h2,h3,h4,h5, ↓aA, ↓aj, ↓ar, ↓aq, ↓ah, ↓aE, ↓am]
end Gi
