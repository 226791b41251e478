/- Of this proof. -/
import Derived.Test.YtbeaonmepfkmmaaGreatGkg
set_option linter.unusedSimpArgs false
set_option linter.unusedVariables false
namespace Gi
open Go Go.RowKit
set_option maxHeartbeats 8000000
set_option maxRecDepth 4000
attribute [local simp] start nx bZ cJ cB dB cA dA dG dF og oA oh oB ol oC om oD oq oE ot oF ou oG ov oH oz oI V.cells plain bt gD isInt isStr isBool bin bM fF bN fG dC un asList L.view au V.view viewL aT az bQ bd b6 comp aN bU cy bI aY aW aX ar aj aE ah aq aO am aR bw aA aZ a9 V.flat L.flat cZ cV br putAt thaw thawL thawT V.ow dE cD cE bO dD bP cC freezeVs freezeLs freezeL V.mut L.mut aH cd eW bg bF aP dN cu bK cH L.ren aJ cS bX cY bW bE wp_seq wp_block aM cG bR bf bS wp_skip wp_exit wp_ret b9 b8 cj ca cr ct cq bH aF L.notArr bq bo bp cF b7 storeD aS eB ba bY aQ kX L.mov L.closed V.closed PV.bare PV.flat
theorem nV {j:Nat}:cw (j:Int) 0=false:=fB (by omega)
theorem I6 (s:XStore)(k:XKey):wn s k=cond (k.kind==1&&(cw s.auto k.n&& !(cw 1000000 k.n))) k.n s.auto:=by
 have e3:decide (1000000<k.n)= !(decide (k.n≤1000000)):=by rw[Bool.eq_iff_iff];simp
 have e4:(k.kind==1)=decide (k.kind=1):=by rw[Bool.eq_iff_iff];simp
 unfold wn cw
 rw[e3,e4]
 by_cases h1:k.kind=1<;>by_cases h2:s.auto<k.n<;>by_cases h3:k.n≤1000000<;>simp[h1,h2,h3]
abbrev mi (x:XStore×Bool):V:= .tup [(true,[.pv (.str x.1.name),pF 4 (x.1.items.map XItem.e), .pv (.int .i64 x.1.auto)]),(false,[.pv (.bool x.2)])]
theorem JW (s:XStore)(k:XKey)(r:XRecord):(pE s k r).map XItem.e=(s.items.map XItem.e).take (we s.items k)++([.int .i64 k.kind, .int .i64 k.n, .str k.text, .lst (r.fs.map XField.e)]::(s.items.map XItem.e).drop (we s.items k)):=by simp[pE,XItem.e]
theorem HV {B:Nat}{s:XStore}(h:s.Ok B){k:XKey}(hk:k.Ok B){r:XRecord}(hr:r.Ok B):(pE s k r).length≤B+1∧∀x∈pE s k r,x.Ok (B+1):=by
 obtain⟨_,⟨h1,h2⟩,_⟩:=h
 have:=yP s.items k
 refine⟨by simp[pE];omega,fun x hx=>XItem.Ok.mono (A:=B) (by omega) ?_⟩
 unfold pE at hx
 rw[List.mem_append,List.mem_cons]at hx
 rcases hx with hx|rfl|hx
 ·exact h2 x (List.mem_of_mem_take hx)
 ·exact⟨hk,hr⟩
 ·exact h2 x (List.mem_of_mem_drop hx)
theorem Ig {B:Nat}{s:XStore}(h:s.Ok B){k:XKey}(hk:k.Ok B){r:XRecord}(hr:r.Ok B)(j:Nat):(s.items.set j ⟨k,r⟩).length≤B∧∀x∈s.items.set j ⟨k,r⟩,x.Ok B:=by
 obtain⟨_,⟨h1,h2⟩,_⟩:=h
 refine⟨by simpa using h1,fun x hx=> ?_⟩
 rcases List.mem_or_eq_of_mem_set hx with hx|rfl
 ·exact h2 x hx
 ·exact⟨hk,hr⟩
theorem I7 {s:XStore}{k:XKey}(h1:jt s.auto)(h2:jt k.n):jt (wn s k):=by unfold wn;split<;>assumption
theorem lF {B:Nat}(hB:B≤1048576){s:XStore}(h:s.Ok B){k:XKey}(hk:k.Ok B){r:XRecord}(hr:r.Ok B):ag Ph aC 342 [s.v,k.v,r.v]=some (mi (ln s k r)):=by
 have hM:B+1≤maxLen:=by unfold maxLen;omega
 have hl:s.items.length≤1048576:=Nat.le_trans h.2.1.1 hB
 have e1:=ff hB h
 have e2:=jz (XStore.Ok.mono (by omega) h)
 have e3:=gL (XKey.Ok.mono (by omega) hk)
 have e4:=kO (s:=s) (by unfold maxLen;omega) k
 have e5:=mg hB hr
 have O:=vP 4 (s.items.map XItem.e)
 unfold ln
 refine aa (fn:=hJ) rfl ?_
 cases c1:fg s<;>rw[c1]at e2
 ·rcases O with⟨_,q1,q2⟩|⟨_,q1,q2⟩<;>rw[q1]at e1<;>simp(maxSteps:=9999999) [hJ,e1,e2,q2]
 cases c2:fA k<;>rw[c2]at e3
 ·rcases O with⟨_,q1,q2⟩|⟨_,q1,q2⟩<;>rw[q1]at e1<;>simp(maxSteps:=9999999) [hJ,e1,e2,e3,q2]
 rcases yt (n9 k) s.items with hf|⟨j,hj,hf,hq⟩<;>rw[hf]at e4⊢
 ·have e6:∀a,a=wn s k→ag Ph aC 354 [XStore.v ⟨s.name,pE s k r,a⟩]=some (aD (db r.fs&&decide (s.items.length+1≤16))):=fun a ha=>by
   subst ha
   rw[←JY (r:=r) c1 c2 hf]
   exact jz (s:=⟨s.name,pE s k r,wn s k⟩) ⟨Nat.le_trans h.1 (by omega),⟨Nat.le_trans (HV h hk hr).1 (by omega),fun x hx=>XItem.Ok.mono (by omega) ((HV h hk hr).2 x hx)⟩,I7 h.2.2 hk.2.1⟩
  have hA:=I6 s k
  obtain⟨g1,h1⟩:∃g,(k.kind==1)=g:=⟨_,rfl⟩
  rw[h1]at hA
  have hL:(16≤s.items.length)=(decide (s.items.length+1≤16)=false):=by simp;omega
  have hins:=JW s k r
  have hp:=yP s.items k
  have b1:= @H9 s.items k
  have b2:= @H8 s.items k
  have m1:=gV (m:=s.items.length+1) (z:=56) (by omega) (by omega)
  have O2:=vP 4 ((pE s k r).map XItem.e)
  rcases O2 with⟨q,_⟩|⟨_,_,q3⟩
  ·rw[hins]at q;simp at q
  simp only[hL]
  generalize pE s k r=F at e6 hins q3⊢
  generalize we s.items k=p at hins hp b1 b2
  generalize decide (s.items.length+1≤16)=d at e6 hL⊢
  have l0:cw (-1) 0=true:=rfl
  have l00:cw 0 0=false:=rfl
  rcases O with⟨q0,q1,q2⟩|⟨q0,q1,q2⟩<;>rw[q1]at e1
  ·have hnil:s.items=[]:=by simpa using q0
   rw[hnil]at hins hp
   have hp0:p=0:=by simpa using hp
   subst hp0
   simp only[List.map_nil,List.take_nil,List.drop_nil,List.nil_append]at hins
   simp(maxSteps:=9999999) [hJ,e1,e2,e3,e4,l0]
   rw[jA]
   have e1':=e1
   rw[hnil,List.map_nil]at e1'
   have q2':pF 4 []= .nil:=rfl
   have hF:F.length=1:=by have:=congrArg List.length hins;simpa using this
   cases c4:db r.fs<;>rw[c4]at e6<;>cases d<;>simp +contextual (maxSteps:=9999999) [gP,e1,e1',q2',e2,e3,e4,e5,hnil,l00,q2,hF,←hins,e6,hA,h1,q3]
  ·simp(maxSteps:=9999999) [hJ,e1,e2,e3,e4,l0]
   refine aL bG Cl.fin [.f,.f,.f,.t,.t,.t,.t,.f,.t,.f,.t,.f,.f,.f,.f,.f,.f,.f,.f,.f,.f,.f,.f,.f,.f,.f,.f,.f,.f,.f,.f,.f,.f,.f,.f,.f,.f,.f,.f,.f,.f,.f,.f,.f,.f,.f,.f,.f,.f,.f,.f,.f,.f,.f,.f,.f,.f,.f,.f,.f,.f,.f,.f,.f,.f,.f,.f,.f,.f,.f,.f,.f,.f,.f,.f,.f,.f,.f,.f,.f,.f,.f,.f,.f,.f,.f,.f] (fun k=>[(10,ai .i64 k)]) p (fun _=>false) rfl (by simp) (fun j hj _=> ?_) (fun _ _=> ?_)
   ·have hj2:j<s.items.length:=by omega
    have l1:=eJ (b1 hj hj2)
    have e7:=ft (XKey.Ok.mono (by omega) (h.2.1.2 _ (List.getElem_mem hj2)).1) (XKey.Ok.mono (by omega) hk)
    simp +contextual (maxSteps:=9999999) [gP,hj2,l1,e7,aU (n:=s.items.length) (by unfold maxLen;omega) hj2,a8 hj2,XItem.e.eq_1 s.items[j]]
   ·by_cases hlt:p<s.items.length
    ·have l1:=fB (Int.not_lt.1 (b2 hlt))
     have hx:=XItem.e.eq_1 s.items[p]
     have e7:=ft (XKey.Ok.mono (by omega) (h.2.1.2 _ (List.getElem_mem hlt)).1) (XKey.Ok.mono (by omega) hk)
     cases c4:db r.fs<;>rw[c4]at e6<;>cases d<;>simp +contextual (maxSteps:=9999999) [gP,hlt,hx,l1,e7,hp,m1,a8 hlt,e1,e2,e3,e4,e5,q2,←hins,e6,hA,h1,q3]
    ·obtain rfl:p=s.items.length:=by omega
     have hm2:(s.items.map XItem.e).take s.items.length++[[.int .i64 k.kind, .int .i64 k.n, .str k.text, .lst (r.fs.map XField.e)]]=F.map XItem.e:=by rw[hins];simp
     have hd:(s.items.map XItem.e).drop s.items.length=[]:=List.drop_eq_nil_of_le (by simp)
     cases c4:db r.fs<;>rw[c4]at e6<;>cases d<;>simp +contextual (maxSteps:=9999999) [gP,m1,e1,e2,e3,e4,e5,q2,hd, ↓hm2,e6,hA,h1,q3]
 ·have hkj:=LU.1 hq
  have hx:=XItem.e.eq_1 s.items[j]
  have hm:(s.items.map XItem.e).set j [.int .i64 s.items[j].key.kind, .int .i64 s.items[j].key.n, .str s.items[j].key.text, .lst (r.fs.map XField.e)]=(s.items.set j ⟨k,r⟩).map XItem.e:=by rw[List.map_set,hkj];rfl
  have e6:=jz (s:=⟨s.name,s.items.set j ⟨k,r⟩,s.auto⟩) ⟨Nat.le_trans h.1 (by omega),⟨Nat.le_trans (Ig h hk hr j).1 (by omega),fun x hx=>XItem.Ok.mono (by omega) ((Ig h hk hr j).2 x hx)⟩,h.2.2⟩
  rw[JZ c1 hj hkj]at e6
  have hne:s.items.map XItem.e≠[]:=by intro e;have:=congrArg List.length e;simp only[List.length_map,List.length_nil]at this;omega
  have O2:=vP 4 ((s.items.set j ⟨k,r⟩).map XItem.e)
  rw[←hm]at O2
  rcases O with⟨q,_⟩|⟨_,q1,q2⟩
  ·exact absurd q hne
  rcases O2 with⟨q,_⟩|⟨_,_,q3⟩
  ·exact absurd (by simpa using q) hne
  rw[hm]at q3
  rw[q1]at e1
  simp only[Int.toNat_natCast]
  generalize s.items.set j ⟨k,r⟩=F at hm e6 q3⊢
  cases c3:db r.fs<;>rw[c3]at e6<;>simp(maxSteps:=9999999) [hJ,e1,e2,e3,e4,e5,e6,q2,q3,hm,hx,hj,nV]
theorem lI {B:Nat}(hB:B≤1048576){s:XStore}(h:s.Ok B){k:XKey}(hk:k.Ok B){r:XRecord}(hr:r.Ok B):ag Ph aC 339 [s.v,k.v,r.v]=some (mi (ln s k r)):=by
 have hM:B+1≤maxLen:=by unfold maxLen;omega
 have hl:s.items.length≤1048576:=Nat.le_trans h.2.1.1 hB
 have e1:=gh hB h
 have e2:=ph (XStore.Ok.mono (by omega) h)
 have e3:=eX (XKey.Ok.mono (by omega) hk)
 have e4:=i7 (s:=s) (by unfold maxLen;omega) k
 have e5:=qC hB hr
 have e8:=fR (XRecord.Ok.mono (show B≤maxLen by omega) hr)
 have O:=vP 4 (s.items.map XItem.e)
 unfold ln
 refine aa (fn:=fe) rfl ?_
 cases c1:fg s<;>rw[c1]at e2
 ·rcases O with⟨_,q1,q2⟩|⟨_,q1,q2⟩<;>rw[q1]at e1<;>simp(maxSteps:=9999999) [fe,e1,e2,q2]
 cases c2:fA k<;>rw[c2]at e3
 ·rcases O with⟨_,q1,q2⟩|⟨_,q1,q2⟩<;>rw[q1]at e1<;>simp(maxSteps:=9999999) [fe,e1,e2,e3,q2]
 cases c3:db r.fs<;>rw[c3]at e8
 ·rcases O with⟨_,q1,q2⟩|⟨_,q1,q2⟩<;>rw[q1]at e1<;>simp(maxSteps:=9999999) [fe,e1,e2,e3,e8,q2]
 have l0:cw (-1) 0=true:=rfl
 rcases yt (n9 k) s.items with hf|⟨j,hj,hf,hq⟩<;>rw[hf]at e4⊢
 ·by_cases h16:16≤s.items.length
  ·have l16:cw (s.items.length:Int) 16=false:=fB (by omega)
   rcases O with⟨q,q1,q2⟩|⟨_,q1,q2⟩
   ·have:=congrArg List.length q;simp only[List.length_map,List.length_nil]at this;omega
   rw[q1]at e1
   simp(maxSteps:=9999999) [fe,e1,e2,e3,e4,e8,l0,l16,h16,q2]
  have l16:cw (s.items.length:Int) 16=true:=eJ (by omega)
  rw[if_neg (by decide),if_neg h16]
  have hA:=I6 s k
  obtain⟨g1,h1⟩:∃g,(k.kind==1)=g:=⟨_,rfl⟩
  rw[h1]at hA
  have hr1:cw s.auto 0=false∧cw 1000000 s.auto=false:=by
   simp only[fg,rg,Bool.and_eq_true,Bool.not_eq_true']at c1
   exact c1.2.2.2
  have ha1:IntKind.i64.wrap (s.auto+1)=s.auto+1:=by
   have q1:=of_decide_eq_false hr1.1
   have q2:=of_decide_eq_false hr1.2
   rw[IntKind.wrap_i64];omega
  have ha2:cw k.n (s.auto+1)= !(cw s.auto k.n):=by unfold cw;rw[Bool.eq_iff_iff];simp;omega
  have e9:=gI k.n (s.auto+1) 1000000
  rw[rg,ha2]at e9
  have hins:=JW s k r
  have hp:=yP s.items k
  have b1:= @H9 s.items k
  have b2:= @H8 s.items k
  have O2:=vP 4 ((pE s k r).map XItem.e)
  rcases O2 with⟨q,_⟩|⟨_,_,q3⟩
  ·rw[hins]at q;simp at q
  generalize pE s k r=F at hins q3⊢
  generalize we s.items k=p at hins hp b1 b2
  have m1:=gV (m:=s.items.length+1) (z:=56) (by omega) (by omega)
  have m2:=gV (m:=p) (z:=56) (by omega) (by omega)
  have m3:=gV (m:=p+1) (z:=56) (by omega) (by omega)
  have w2:((s.items.map XItem.e).take p).all (fun e=>e.length==4)=true:=by rw[←List.map_take];exact fj (e:=XItem.e) (z:=4) (fun _=>rfl) _
  have w3:((s.items.map XItem.e).drop p).all (fun e=>e.length==4)=true:=by rw[←List.map_drop];exact fj (e:=XItem.e) (z:=4) (fun _=>rfl) _
  have t1:List.take (s.items.length-p) ((s.items.map XItem.e).drop p)=(s.items.map XItem.e).drop p:=List.take_of_length_le (by simp)
  have t2:p+1+(s.items.length-p)=s.items.length+1:=by omega
  have w4:=fj (e:=XItem.e) (z:=4) (fun _=>rfl) s.items
  rcases O with⟨q0,q1,q2⟩|⟨q0,q1,q2⟩<;>rw[q1]at e1
  ·have hnil:s.items=[]:=by simpa using q0
   rw[hnil]at hins hp
   have hp0:p=0:=by simpa using hp
   subst hp0
   simp only[List.map_nil,List.take_nil,List.drop_nil,List.nil_append]at hins
   simp(maxSteps:=9999999) [fe,e1,e2,e3,e4,e8,l0,l16]
   rw[jA]
   have l00:cw 0 0=false:=rfl
   have hF:F.length=1:=by have:=congrArg List.length hins;simpa using this
   have wF:∀x:XItem,x.e.length=4:=fun _=>rfl
   simp +contextual (maxSteps:=9999999) [gS,e5,hnil,l00,hF,wF,←hins,hA,h1,q3,ha1,e9]<;>(cases g1<;>cases cw s.auto k.n<;>cases cw 1000000 k.n<;>simp)
  ·simp(maxSteps:=9999999) [fe,e1,e2,e3,e4,e8,l0,l16]
   refine aL bG Cl.fin [.f,.f,.f,.t,.t,.t,.t,.f,.t,.f,.t,.f,.f,.f,.f,.f,.f,.f,.f,.f,.f,.f,.f,.f,.f,.f,.f,.f,.f,.f,.f,.f,.f,.f,.f,.f,.f,.f,.f,.f,.f,.f,.f,.f,.f,.f,.f,.f,.f,.f,.f,.f,.f,.f,.f,.f,.f,.f,.f,.f,.f,.f,.f,.f,.f,.f,.f,.f,.f,.f,.f,.f,.f,.f,.f,.f,.f,.f,.f,.f,.f,.f,.f,.f,.f,.f,.f,.f,.f,.f,.f,.f,.f,.f,.f,.f,.f,.f,.f,.f] (fun k=>[(10,ai .i64 k)]) p (fun _=>false) rfl (by simp) (fun j hj _=> ?_) (fun _ _=> ?_)
   ·have hj2:j<s.items.length:=by omega
    have l1:=eJ (b1 hj hj2)
    have e7:=fu (XKey.Ok.mono (show B≤maxLen by omega) (h.2.1.2 _ (List.getElem_mem hj2)).1) (XKey.Ok.mono (by omega) hk)
    simp +contextual (maxSteps:=9999999) [gS,hj2,l1,e7,aU (n:=s.items.length) (by unfold maxLen;omega) hj2,a8 hj2,XItem.e.eq_1 s.items[j]]
   ·by_cases hlt:p<s.items.length
    ·have l1:=fB (Int.not_lt.1 (b2 hlt))
     have hx:=XItem.e.eq_1 s.items[p]
     have e7:=fu (XKey.Ok.mono (show B≤maxLen by omega) (h.2.1.2 _ (List.getElem_mem hlt)).1) (XKey.Ok.mono (by omega) hk)
     simp +contextual (maxSteps:=9999999) [gS,hlt,hx,l1,e7,hp,m1,m2,m3,w2,w3,w4,t1,t2,a8 hlt,e5,←hins,hA,h1,q3,ha1,e9]<;>(cases g1<;>cases cw s.auto k.n<;>cases cw 1000000 k.n<;>simp)
    ·obtain rfl:p=s.items.length:=by omega
     have hm2:(s.items.map XItem.e).take s.items.length++[[.int .i64 k.kind, .int .i64 k.n, .str k.text, .lst (r.fs.map XField.e)]]=F.map XItem.e:=by rw[hins];simp
     have hd:(s.items.map XItem.e).drop s.items.length=[]:=List.drop_eq_nil_of_le (by simp)
     have hF:F.length=s.items.length+1:=by have:=congrArg List.length hm2;simpa using this.symm
     simp +contextual (maxSteps:=9999999) [gS,m1,m2,m3,w2,w3,w4,e5,hd, ↓hm2,hF,hA,h1,q3,ha1,e9]<;>(cases g1<;>cases cw s.auto k.n<;>cases cw 1000000 k.n<;>simp)
 ·have hkj:=LU.1 hq
  have hx:=XItem.e.eq_1 s.items[j]
  have hm:(s.items.map XItem.e).set j [.int .i64 s.items[j].key.kind, .int .i64 s.items[j].key.n, .str s.items[j].key.text, .lst (r.fs.map XField.e)]=(s.items.set j ⟨k,r⟩).map XItem.e:=by rw[List.map_set,hkj];rfl
  have hne:s.items.map XItem.e≠[]:=by intro e;have:=congrArg List.length e;simp only[List.length_map,List.length_nil]at this;omega
  have O2:=vP 4 ((s.items.set j ⟨k,r⟩).map XItem.e)
  rw[←hm]at O2
  rcases O with⟨q,_⟩|⟨_,q1,q2⟩
  ·exact absurd q hne
  rcases O2 with⟨q,_⟩|⟨_,_,q3⟩
  ·exact absurd (by simpa using q) hne
  rw[hm]at q3
  rw[q1]at e1
  simp only[Int.toNat_natCast]
  generalize s.items.set j ⟨k,r⟩=F at hm q3⊢
  simp(maxSteps:=9999999) [fe,e1,e2,e3,e4,e5,e8,q2,q3,hm,hx,hj,nV]
def BB (s:XStore)(k:XKey)(r:XRecord):XStore×Bool:=if 0≤dM (n9 k) s.items then(s,false)else ln s k r
def sQ (s:XStore):List L:=[.pv (.str s.name),lL (s.items.map XItem.e), .pv (.int .i64 s.auto)]
theorem oM (x:XStore×Bool):cZ (mi x)= .tup [(true,sQ x.1),(false,[.pv (.bool x.2)])]:=by simp[cZ, ↓aR,cV,sQ]
theorem pI (s:XStore):cZ (.agg [.pv (.str s.name),nd 4 (s.items.map XItem.e), .pv (.int .i64 s.auto)])= .agg (sQ s):=by simp[cZ, ↓bw,cV,sQ]
theorem Cd {B:Nat}(hB:B≤1048576){s:XStore}(h:s.Ok B){k:XKey}(hk:k.Ok B){r:XRecord}(hr:r.Ok B):ag Ph aC 604 [s.v,k.v,r.v]=some (.tup [(true,sQ (BB s k r).1),(false,[.pv (.bool (BB s k r).2)])]):=by
 have hl:s.items.length≤1048576:=Nat.le_trans h.2.1.1 hB
 have e1:=ff hB h
 have e2:=kO (s:=s) (by unfold maxLen;omega) k
 have e3:=lF hB h hk hr
 have e4:=oM (ln s k r)
 have e5:=pI s
 have b1:(!(cw (dM (n9 k) s.items) 0))=decide (0≤dM (n9 k) s.items):=by unfold cw;by_cases q:0≤dM (n9 k) s.items<;>simp[q];omega
 unfold BB
 generalize mi (ln s k r)=pr at*
 generalize ln s k r=p at*
 generalize dM (n9 k) s.items=i at*
 generalize hn:(V.agg [.pv (.str s.name),nd 4 (s.items.map XItem.e), .pv (.int .i64 s.auto)])=nv at*
 simp only[sQ]at e4 e5⊢
 by_cases q:0≤i
 ·refine aa (fn:=j6) rfl ?_
  simp(maxSteps:=9999999) [j6,e1,e2,b1,q, ↓e5, ↓aq, ↓aj]
 ·refine aa (fn:=j6) rfl ?_
  simp(maxSteps:=9999999) [j6,e2,e3,b1,q, ↓e4, ↓aq, ↓aj]
theorem Cp {B:Nat}(hB:B≤1048576){s:XStore}(h:s.Ok B){k:XKey}(hk:k.Ok B){r:XRecord}(hr:r.Ok B):ag Ph aC 601 [s.v,k.v,r.v]=some (.tup [(true,sQ (BB s k r).1),(false,[.pv (.bool (BB s k r).2)])]):=by
 have hl:s.items.length≤1048576:=Nat.le_trans h.2.1.1 hB
 have e1:=gh hB h
 have e2:=i7 (s:=s) (by unfold maxLen;omega) k
 have e3:=lI hB h hk hr
 have e4:=oM (ln s k r)
 have e5:=pI s
 have b1:(!(cw (dM (n9 k) s.items) 0))=decide (0≤dM (n9 k) s.items):=by unfold cw;by_cases q:0≤dM (n9 k) s.items<;>simp[q];omega
 unfold BB
 generalize mi (ln s k r)=pr at*
 generalize ln s k r=p at*
 generalize dM (n9 k) s.items=i at*
 generalize hn:(V.agg [.pv (.str s.name),nd 4 (s.items.map XItem.e), .pv (.int .i64 s.auto)])=nv at*
 simp only[sQ]at e4 e5⊢
 by_cases q:0≤i
 ·refine aa (fn:=kh) rfl ?_
  simp(maxSteps:=9999999) [kh,e1,e2,b1,q, ↓e5, ↓aq, ↓aj]
 ·refine aa (fn:=kh) rfl ?_
  simp(maxSteps:=9999999) [kh,e2,e3,b1,q, ↓e4, ↓aq, ↓aj]
def dZ (s:XStore)(k:XKey):XRecord:=match s.items[(dM (n9 k) s.items).toNat]? with
 |some x=>if 0≤dM (n9 k) s.items then x.rcd else⟨[]⟩
 |none=>⟨[]⟩
theorem M8 {α:Type}{p:α→Bool}{xs:List α}(h:0≤dM p xs):(dM p xs).toNat<xs.length:=by
 rcases yt p xs with e|⟨k,hk,e,_⟩
 ·rw[e]at h;omega
 ·rw[e];simpa using hk
theorem yT {s:XStore}{k:XKey}(h:0≤dM (n9 k) s.items):∃x,s.items[(dM (n9 k) s.items).toNat]? =some x∧dZ s k=x.rcd:=by
 refine⟨_,List.getElem?_eq_getElem (M8 h),?_⟩
 unfold dZ;rw[List.getElem?_eq_getElem (M8 h)];simp only[if_pos h]
theorem CC {s:XStore}{k:XKey}(h:¬0≤dM (n9 k) s.items):dZ s k=⟨[]⟩:=by
 unfold dZ;split<;>simp[h]
theorem sJ {B:Nat}{s:XStore}(h:s.Ok B)(k:XKey):(dZ s k).Ok B:=by
 unfold dZ
 split
 ·rename_i x e
  split
  ·exact(h.2.1.2 x (List.mem_of_getElem? e)).2
  ·exact⟨Nat.zero_le _,fun f m=>by simp at m⟩
 ·exact⟨Nat.zero_le _,fun f m=>by simp at m⟩
theorem QC {B:Nat}(hB:16≤B){fs:List XField}(h:db fs=true):(⟨fs⟩:XRecord).Ok B:=by
 obtain⟨h1,h2⟩:=pU (r:=⟨fs⟩) h
 simp only at h1 h2
 refine⟨by simp only;omega,fun f m=> ?_⟩
 obtain⟨q1,q2,q3⟩:=h2 f m
 exact⟨by omega,by unfold jt;omega⟩
theorem vT {B:Nat}(hB:16≤B){r:XRecord}(h:r.Ok B)(nm:List UInt8)(n:Int):(⟨(setR r.fs nm n).1⟩:XRecord).Ok B:=by
 unfold setR
 cases c:db r.fs&&db (tQ r.fs nm n)with
 |false=>exact h
 |true=>
  rw[Bool.and_eq_true]at c
  exact QC hB c.2
theorem CB {B:Nat}(hB:17≤B){s:XStore}(h:s.Ok B){k:XKey}(hk:k.Ok B){r:XRecord}(hr:r.Ok B):(ln s k r).1.Ok B:=by
 unfold ln
 cases fg s&&(fA k&&db r.fs)with
 |false=>exact h
 |true=>
  simp only[cond_true]
  split
  ·exact⟨h.1,Ig h hk hr _,h.2.2⟩
  ·split
   ·exact h
   ·rename_i hl
    have hin:=HV h hk hr
    have hlen:(pE s k r).length=s.items.length+1:=by
     have:=yP s.items k
     simp[pE];omega
    refine⟨h.1,⟨by simp only;omega,fun x m=> ?_⟩,I7 h.2.2 hk.2.1⟩
    simp only[pE,List.mem_append,List.mem_cons]at m
    rcases m with m|rfl|m
    ·exact h.2.1.2 x (List.mem_of_mem_take m)
    ·exact⟨hk,hr⟩
    ·exact h.2.1.2 x (List.mem_of_mem_drop m)
def xD (s:XStore)(w:XWrite):XStore×Bool:=cond (setR (dZ s w.key).fs w.field w.n).2 (ln s w.key ⟨(setR (dZ s w.key).fs w.field w.n).1⟩) (s,false)
theorem Sv {B:Nat}(hB:17≤B){s:XStore}(h:s.Ok B){w:XWrite}(hw:w.Ok B):(xD s w).1.Ok B:=by
 unfold xD
 cases(setR (dZ s w.key).fs w.field w.n).2 with
 |false=>exact h
 |true=>exact CB hB h hw.2.2.1 (vT (by omega) (sJ h _) _ _)
theorem Ra {s:XStore}{w:XWrite}(h:(xD s w).2=false):(xD s w).1=s:=by
 unfold xD at h⊢
 cases c:(setR (dZ s w.key).fs w.field w.n).2 with
 |false=>rfl
 |true=>
  rw[c]at h
  simp only[cond_true]at h⊢
  unfold ln at h⊢
  cases d:fg s&&(fA w.key&&db (setR (dZ s w.key).fs w.field w.n).1)with
  |false=>rw[cond_false]
  |true=>
   rw[d]at h
   simp only[cond_true]at h⊢
   split at h
   ·cases h
   ·split at h
    ·rename_i h1 h2;rw[if_neg h1,if_pos h2]
    ·cases h
theorem zb (x:List XField×Bool):cZ (qx x)= .tup [(true,[.pv (.lst (x.1.map XField.e))]),(false,[.pv (.bool x.2)])]:=by simp[cZ,cV]
theorem uK {B:Nat}(hB0:17≤B)(hB:B≤1048576){s:XStore}(h:s.Ok B){w:XWrite}(hw:w.Ok B):ag Ph aC 326 [s.v, .agg (w.e.map .pv)]=some (.tup [(true,sQ (xD s w).1),(false,[.pv (.bool (xD s w).2)])]):=by
 have hl:s.items.length≤1048576:=Nat.le_trans h.2.1.1 hB
 have hrc:=sJ h w.key
 have e1:=ff hB h
 have e2:=kO (s:=s) (by unfold maxLen;omega) w.key
 have e3:ag Ph aC 341 [.agg [.pv (.lst ((dZ s w.key).fs.map XField.e))],di w.field,ai .i64 w.n]=some (qx (setR (dZ s w.key).fs w.field w.n)):=sB hB hrc hw.2.2.2.1 hw.2.2.2.2
 have e4:ag Ph aC 342 [s.v,w.key.v, .agg [.pv (.lst ((setR (dZ s w.key).fs w.field w.n).1.map XField.e))]]=some (mi (ln s w.key ⟨(setR (dZ s w.key).fs w.field w.n).1⟩)):=lF hB h hw.2.2.1 (vT (by omega) hrc _ _)
 have e5:=oM (ln s w.key ⟨(setR (dZ s w.key).fs w.field w.n).1⟩)
 have e6:=pI s
 have e7:=zb (setR (dZ s w.key).fs w.field w.n)
 have b1:(!(cw (dM (n9 w.key) s.items) 0))=decide (0≤dM (n9 w.key) s.items):=by unfold cw;by_cases q:0≤dM (n9 w.key) s.items<;>simp[q];omega
 have ht:=yT (s:=s) (k:=w.key)
 have hf:=CC (s:=s) (k:=w.key)
 unfold xD
 generalize mi (ln s w.key ⟨(setR (dZ s w.key).fs w.field w.n).1⟩)=pr at*
 generalize ln s w.key ⟨(setR (dZ s w.key).fs w.field w.n).1⟩=p at*
 generalize qx (setR (dZ s w.key).fs w.field w.n)=rr at*
 generalize setR (dZ s w.key).fs w.field w.n=sr at*
 generalize hn:(V.agg [.pv (.str s.name),nd 4 (s.items.map XItem.e), .pv (.int .i64 s.auto)])=nv at*
 generalize dZ s w.key=rc at*
 generalize dM (n9 w.key) s.items=i at*
 simp only[sQ]at e5 e6⊢
 clear hn
 obtain⟨fs1,b⟩:=sr
 simp only at e3 e4 e7
 by_cases q:0≤i
 ·obtain⟨x,hi,hx⟩:=ht q
  have hw0:=XItem.e.eq_1 x
  rw[←hx]at hw0
  have hm:(s.items.map XItem.e)[i.toNat]? =some x.e:=by rw[List.getElem?_map,hi];rfl
  refine aa (fn:=gB) rfl ?_
  cases b<;>simp(maxSteps:=9999999) [gB,XWrite.e.eq_1,e1,e2,e3,e4,b1,q,hm,hw0, ↓e5, ↓e6, ↓e7, ↓aq, ↓aj, ↓ar, ↓ah]
 ·have hx:=hf q
  rw[hx]at e3
  simp only[List.map_nil]at e3
  refine aa (fn:=gB) rfl ?_
  cases b<;>simp(maxSteps:=9999999) [gB,XWrite.e.eq_1,e1,e2,e3,e4,b1,q, ↓e5, ↓e6, ↓e7, ↓aq, ↓aj, ↓ar, ↓ah]
theorem vg {B:Nat}(hB0:17≤B)(hB:B≤1048576){s:XStore}(h:s.Ok B){w:XWrite}(hw:w.Ok B):ag Ph aC 323 [s.v, .agg (w.e.map .pv)]=some (.tup [(true,sQ (xD s w).1),(false,[.pv (.bool (xD s w).2)])]):=by
 have hl:s.items.length≤1048576:=Nat.le_trans h.2.1.1 hB
 have hrc:=sJ h w.key
 have e1:=gh hB h
 have e2:=i7 (s:=s) (by unfold maxLen;omega) w.key
 have e3:ag Ph aC 338 [.agg [.pv (.lst ((dZ s w.key).fs.map XField.e))],di w.field,ai .i64 w.n]=some (qx (setR (dZ s w.key).fs w.field w.n)):=sP hB hrc hw.2.2.2.1 hw.2.2.2.2
 have e4:ag Ph aC 339 [s.v,w.key.v, .agg [.pv (.lst ((setR (dZ s w.key).fs w.field w.n).1.map XField.e))]]=some (mi (ln s w.key ⟨(setR (dZ s w.key).fs w.field w.n).1⟩)):=lI hB h hw.2.2.1 (vT (by omega) hrc _ _)
 have e5:=oM (ln s w.key ⟨(setR (dZ s w.key).fs w.field w.n).1⟩)
 have e6:=pI s
 have e7:=zb (setR (dZ s w.key).fs w.field w.n)
 have b1:(!(cw (dM (n9 w.key) s.items) 0))=decide (0≤dM (n9 w.key) s.items):=by unfold cw;by_cases q:0≤dM (n9 w.key) s.items<;>simp[q];omega
 have ht:=yT (s:=s) (k:=w.key)
 have hf:=CC (s:=s) (k:=w.key)
 unfold xD
 generalize mi (ln s w.key ⟨(setR (dZ s w.key).fs w.field w.n).1⟩)=pr at*
 generalize ln s w.key ⟨(setR (dZ s w.key).fs w.field w.n).1⟩=p at*
 generalize qx (setR (dZ s w.key).fs w.field w.n)=rr at*
 generalize setR (dZ s w.key).fs w.field w.n=sr at*
 generalize hn:(V.agg [.pv (.str s.name),nd 4 (s.items.map XItem.e), .pv (.int .i64 s.auto)])=nv at*
 generalize dZ s w.key=rc at*
 generalize dM (n9 w.key) s.items=i at*
 simp only[sQ]at e5 e6⊢
 clear hn
 obtain⟨fs1,b⟩:=sr
 simp only at e3 e4 e7
 by_cases q:0≤i
 ·obtain⟨x,hi,hx⟩:=ht q
  have hw0:=XItem.e.eq_1 x
  rw[←hx]at hw0
  have hm:(s.items.map XItem.e)[i.toNat]? =some x.e:=by rw[List.getElem?_map,hi];rfl
  refine aa (fn:=gC) rfl ?_
  cases b<;>simp(maxSteps:=9999999) [gC,XWrite.e.eq_1,e1,e2,e3,e4,b1,q,hm,hw0, ↓e5, ↓e6, ↓e7, ↓aq, ↓aj, ↓ar, ↓ah]
 ·have hx:=hf q
  rw[hx]at e3
  simp only[List.map_nil]at e3
  refine aa (fn:=gC) rfl ?_
  cases b<;>simp(maxSteps:=9999999) [gC,XWrite.e.eq_1,e1,e2,e3,e4,b1,q, ↓e5, ↓e6, ↓e7, ↓aq, ↓aj, ↓ar, ↓ah]
def BC (s:XStore)(ws:List XWrite):XStore:=ws.foldl (fun s w=>(xD s w).1) s
theorem IZ {s:XStore}{ws:List XWrite}{k:Nat}(h:k<ws.length):BC s (ws.take (k+1))=(xD (BC s (ws.take k)) ws[k]).1:=by
 unfold BC;rw[List.take_succ_eq_append_getElem h,List.foldl_append];rfl
theorem PW {B:Nat}(hB:17≤B){s:XStore}(h:s.Ok B):∀{ws:List XWrite},(∀w∈ws,w.Ok B)→(BC s ws).Ok B:=by
 intro ws
 induction ws generalizing s with
 |nil=>exact fun _=>h
 |cons w ws ih=>exact fun hw=>ih (Sv hB h (hw w (by simp))) fun x m=>hw x (by simp[m])
theorem Cj {B:Nat}(hB0:17≤B)(hB:B≤1048576){s:XStore}(h:s.Ok B){ws:List XWrite}(hw:∀w∈ws,w.Ok B)(hl:ws.length≤maxLen):ag Ph aC 313 [s.v,bi (ws.map XWrite.e)]=some (.agg (sQ (BC s ws))):=by
 have e1:=ff hB h
 have e2:=pI s
 generalize hn:(V.agg [.pv (.str s.name),nd 4 (s.items.map XItem.e), .pv (.int .i64 s.auto)])=nv at*
 simp only[sQ]at e2⊢
 refine aa (fn:=qg) rfl ?_
 simp(maxSteps:=9999999) [qg,e1, ↓e2, ↓aj, ↓aq]
 refine iB bG Cl.fin ws.length [.f,.f,.f,.f,.t,.t,.f,.f,.f,.f,.t,.t,.t,.f,.f,.f,.f,.f,.f,.f,.f,.f,.f,.f] (fun k=>[(12,ai .i64 k)]) (fun k=>[.box [.pv (.str s.name), .pv (.lst (s.items.map XItem.e)), .pv (.int .i64 s.auto)], .box [.pv (.str []), .nil, .pv (.int .i64 0)], .box (sQ (BC s (ws.take k)))]) rfl (Kn.of [0,1,2] (by decide) (by simp[BC,sQ, ↓aO]) (by simp)) (fun k hk=> ?_) ?_
 ·have hx:=XWrite.e.eq_1 ws[k]
  have hk0:=PW hB0 h (ws:=ws.take k) fun w m=>hw w (List.mem_of_mem_take m)
  have e3:=uK hB0 hB hk0 (hw _ (List.getElem_mem hk))
  rw[XWrite.e.eq_1]at e3
  have e4:=Ra (s:=BC s (ws.take k)) (w:=ws[k])
  rw[IZ hk]
  generalize BC s (ws.take k)=a at*
  generalize hsx:xD a ws[k]=sx at*
  obtain⟨a',b⟩:=sx
  simp only[sQ,List.map_cons,List.map_nil]at e3 e4⊢
  cases b
  ·obtain rfl:=e4 rfl
   simp(maxSteps:=9999999) [iR,hk,hx,e3,aU hl hk,a8 hk, ↓aA, ↓aj, ↓ar, ↓ah, ↓aE,-cd]
   exact Kn.of [0,1,2] (by decide) (by simp[↓aO]) (by simp)
  ·simp(maxSteps:=9999999) [iR,hk,hx,e3,aU hl hk,a8 hk, ↓aA, ↓aj, ↓ar, ↓ah, ↓aE,-cd]
   exact Kn.of [0,1,2] (by decide) (by simp[↓aO]) (by simp)
 ·rw[List.take_length]
  simp only[sQ]
  simp(maxSteps:=9999999) [iR, ↓aj, ↓aq]
theorem AY {B:Nat}(hB0:17≤B)(hB:B≤1048576){s:XStore}(h:s.Ok B){ws:List XWrite}(hw:∀w∈ws,w.Ok B)(hl:ws.length≤maxLen):ag Ph aC 311 [s.v,bi (ws.map XWrite.e)]=some (.agg (sQ (BC s ws))):=by
 have e1:=gh hB h
 have e2:=pI s
 generalize hn:(V.agg [.pv (.str s.name),nd 4 (s.items.map XItem.e), .pv (.int .i64 s.auto)])=nv at*
 simp only[sQ]at e2⊢
 refine aa (fn:=pg) rfl ?_
 simp(maxSteps:=9999999) [pg,e1, ↓e2, ↓aj, ↓aq]
 refine iB bG Cl.fin ws.length [.f,.t,.f,.f,.t,.t,.t,.f,.f,.f,.f,.f,.f,.f,.f,.f,.f,.f,.f,.f,.f,.f,.f,.f,.f,.f,.f,.f,.f] (fun k=>[(6,ai .i64 k)]) (fun k=>[.box [.pv (.str s.name), .pv (.lst (s.items.map XItem.e)), .pv (.int .i64 s.auto)], .box [.pv (.str []), .nil, .pv (.int .i64 0)], .box (sQ (BC s (ws.take k)))]) rfl (Kn.of [0,1,2] (by decide) (by simp[BC,sQ, ↓aO]) (by simp)) (fun k hk=> ?_) ?_
 ·have hx:=XWrite.e.eq_1 ws[k]
  have hk0:=PW hB0 h (ws:=ws.take k) fun w m=>hw w (List.mem_of_mem_take m)
  have e3:=vg hB0 hB hk0 (hw _ (List.getElem_mem hk))
  rw[XWrite.e.eq_1]at e3
  have e4:=Ra (s:=BC s (ws.take k)) (w:=ws[k])
  rw[IZ hk]
  generalize BC s (ws.take k)=a at*
  generalize hsx:xD a ws[k]=sx at*
  obtain⟨a',b⟩:=sx
  simp only[sQ,List.map_cons,List.map_nil]at e3 e4⊢
  cases b
  ·obtain rfl:=e4 rfl
   simp(maxSteps:=9999999) [iu,hk,hx,e3,aU hl hk,a8 hk, ↓aA, ↓aj, ↓ar, ↓ah, ↓aE,-cd]
   exact Kn.of [0,1,2] (by decide) (by simp[↓aO]) (by simp)
  ·simp(maxSteps:=9999999) [iu,hk,hx,e3,aU hl hk,a8 hk, ↓aA, ↓aj, ↓ar, ↓ah, ↓aE,-cd]
   exact Kn.of [0,1,2] (by decide) (by simp[↓aO]) (by simp)
 ·rw[List.take_length]
  simp only[sQ]
  simp(maxSteps:=9999999) [iu, ↓aj, ↓aq]
theorem xg {B:Nat}(hB0:17≤B)(hB:B≤1048576){r:XReplica}(h:r.Ok B):ag Ph aC 309 [.agg (r.e.map .pv)]=some (.agg (sQ (BC r.base r.sync.outbox.writes))):=by
 have hw:=h.2.2.1.2.2
 have e1:=Cj hB0 hB h.1 hw.2 (by have:=hw.1;unfold maxLen;omega)
 generalize BC r.base r.sync.outbox.writes=a at*
 simp only[sQ]at e1⊢
 refine aa (fn:=mM) rfl ?_
 simp(maxSteps:=9999999) [mM,XReplica.e,e1, ↓aA, ↓aj, ↓ar, ↓aq, ↓ah]
theorem xG {B:Nat}(hB0:17≤B)(hB:B≤1048576){r:XReplica}(h:r.Ok B):ag Ph aC 308 [.agg (r.e.map .pv)]=some (.agg (sQ (BC r.base r.sync.outbox.writes))):=by
 have hw:=h.2.2.1.2.2
 have e1:=AY hB0 hB h.1 hw.2 (by have:=hw.1;unfold maxLen;omega)
 generalize BC r.base r.sync.outbox.writes=a at*
 simp only[sQ]at e1⊢
 refine aa (fn:=mY) rfl ?_
 simp(maxSteps:=9999999) [mY,XReplica.e,e1, ↓aA, ↓aj, ↓ar, ↓aq, ↓ah]
def FX (s:XStore)(k:XKey)(f:List UInt8):Int:=IntKind.i64.wrap ((m8 (dZ s k).fs f).1+1)
def xk (s:XStore)(k:XKey)(f:List UInt8):List XField×Bool:=setR (dZ s k).fs f (FX s k f)
def yI (s:XStore)(k:XKey)(f:List UInt8):XStore×Bool:=ln s k ⟨(xk s k f).1⟩
theorem JU (n:Int):jt (IntKind.i64.wrap n):=by rw[IntKind.wrap_i64];unfold jt;omega
theorem F2 {B:Nat}(hB0:17≤B)(hB:B≤1048576){s:XStore}(h:s.Ok B){k:XKey}(hk:k.Ok B){f:List UInt8}(hf0:f.length≤B):ag Ph aC 603 [s.v,k.v,di f]=some (.tup [(true,sQ (yI s k f).1),(false,[.pv (.int .i64 (FX s k f))]),(false,[.pv (.bool ((xk s k f).2&&(yI s k f).2))])]):=by
 have hl:s.items.length≤1048576:=Nat.le_trans h.2.1.1 hB
 have hrc:=sJ h k
 have e2:=i7 (s:=s) (by unfold maxLen;omega) k
 have e8:ag Ph aC 186 [.agg [.pv (.lst ((dZ s k).fs.map XField.e))],di f]=some (Sx (m8 (dZ s k).fs f)):=gX (r:=dZ s k) (by have:=hrc.1;unfold maxLen;omega) f
 have e3:ag Ph aC 338 [.agg [.pv (.lst ((dZ s k).fs.map XField.e))],di f,ai .i64 (FX s k f)]=some (qx (xk s k f)):=sP hB hrc hf0 (JU _)
 have e4:ag Ph aC 339 [s.v,k.v, .agg [.pv (.lst ((xk s k f).1.map XField.e))]]=some (mi (yI s k f)):=lI hB h hk (vT (by omega) hrc _ _)
 have e5:=oM (yI s k f)
 have e7:=zb (xk s k f)
 have hw:IntKind.i64.wrap ((m8 (dZ s k).fs f).1+1)=FX s k f:=rfl
 have b1:(!(cw (dM (n9 k) s.items) 0))=decide (0≤dM (n9 k) s.items):=by unfold cw;by_cases q:0≤dM (n9 k) s.items<;>simp[q];omega
 have ht:=yT (s:=s) (k:=k)
 have hf:=CC (s:=s) (k:=k)
 generalize mi (yI s k f)=pr at*
 generalize yI s k f=p at*
 generalize qx (xk s k f)=rr at*
 generalize xk s k f=sr at*
 generalize FX s k f=n1 at*
 generalize dZ s k=rc at*
 generalize m8 rc.fs f=g at*
 generalize dM (n9 k) s.items=i at*
 simp only[sQ]at e5⊢
 obtain⟨fs1,b⟩:=sr
 obtain⟨p1,pb⟩:=p
 obtain⟨gn,gb⟩:=g
 simp only at e3 e4 e5 e7 e8 hw⊢
 by_cases q:0≤i
 ·obtain⟨x,hi,hx⟩:=ht q
  have hw0:=XItem.e.eq_1 x
  rw[←hx]at hw0
  have hm:(s.items.map XItem.e)[i.toNat]? =some x.e:=by rw[List.getElem?_map,hi];rfl
  refine aa (fn:=m5) rfl ?_
  cases b<;>simp(maxSteps:=600000) [m5,e2,e3,e4,e8,hw,b1,q,hm,hw0, ↓e5, ↓e7, ↓aq, ↓aj, ↓ar, ↓ah]
 ·have hx:=hf q
  rw[hx]at e3 e8
  simp only[List.map_nil]at e3 e8
  refine aa (fn:=m5) rfl ?_
  cases b<;>simp(maxSteps:=600000) [m5,e2,e3,e4,e8,hw,b1,q, ↓e5, ↓e7, ↓aq, ↓aj, ↓ar, ↓ah]
end Gi
