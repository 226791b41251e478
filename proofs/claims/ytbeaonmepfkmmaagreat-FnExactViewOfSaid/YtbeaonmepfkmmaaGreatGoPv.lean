/- Of this proof. -/
import Derived.Test.YtbeaonmepfkmmaaGreatGkhv
import Derived.Test.YtbeaonmepfkmmaaGreatGoEv
set_option linter.unusedSimpArgs false
set_option linter.unusedVariables false
namespace Gi
open Go Go.RowKit
set_option maxHeartbeats 8000000
set_option maxRecDepth 4000
attribute [local simp] start nY bo cj cE dE cD dD dJ dI pa pp pd pq pe pt pf pw pg px ph py pj pz pk pA pm pB V.cells plain bi fT isInt isStr isBool bin bK fR bL fS dF un asList L.view az V.view viewL aS aA bO bg bJ comp aM bA cz bI bc a9 ba av aj aE ai au aQ aq aY bC aD bd bf V.flat L.flat cT cS bq putAt thaw thawL thawT V.ow dH cG cH bM dG bN cF freezeVs freezeLs freezeL V.mut L.mut aI bY fu aZ bB aP dL cf bE cy L.ren aO cX bR cZ bG bD wp_seq wp_block aT cJ bP bh bQ wp_skip wp_exit wp_ret ca b7 ce cd cr ct cq bH aL L.notArr bu br bt cI b6 storeD aV ep a8 bW aU lV L.mov L.closed V.closed PV.bare PV.flat
theorem k7 {B:Nat}(hB:B≤1048576){s:XStore}(h:s.Ok B){k:XKey}(hk:k.Ok B){r:XRecord}(hr:r.Ok B):ah Ph aH 339 [s.v,k.v,r.v]=some (lL (kN s k r)):=by
 have hM:B+1≤maxLen:=by unfold maxLen;omega
 have hl:s.items.length≤1048576:=Zc h.2.1.1 hB
 have e1:=fB hB h
 have e2:=oB (XStore.Ok.mono (by omega) h)
 have e3:=ez (XKey.Ok.mono (by omega) hk)
 have e4:=iH (s:=s) (by unfold maxLen;omega) k
 have e5:=qd hB hr
 have e8:=fj (XRecord.Ok.mono (show B≤maxLen by omega) hr)
 have O:=uS 4 (s.items.map XItem.e)
 unfold kN
 refine aa (fn:=eE) rfl ?_
 cases c1:eG s<;>rw[c1]at e2
 ·rcases O with⟨_,q1,q2⟩|⟨_,q1,q2⟩<;>rw[q1]at e1<;>simp(maxSteps:=9999999) [eE,e1,e2,q2]
 cases c2:eW k<;>rw[c2]at e3
 ·rcases O with⟨_,q1,q2⟩|⟨_,q1,q2⟩<;>rw[q1]at e1<;>simp(maxSteps:=9999999) [eE,e1,e2,e3,q2]
 cases c3:cP r.fs<;>rw[c3]at e8
 ·rcases O with⟨_,q1,q2⟩|⟨_,q1,q2⟩<;>rw[q1]at e1<;>simp(maxSteps:=9999999) [eE,e1,e2,e3,e8,q2]
 have l0:b9 (-1) 0=true:=rfl
 rcases xD (nF k) s.items with hf|⟨j,hj,hf,hq⟩<;>rw[hf]at e4⊢
 ·by_cases h16:16≤s.items.length
  ·have l16:b9 (s.items.length:Int) 16=false:=fG (by omega)
   rcases O with⟨q,q1,q2⟩|⟨_,q1,q2⟩
   ·have:=congrArg List.length q;simp only[Zv,List.length_nil]at this;omega
   rw[q1]at e1
   simp(maxSteps:=9999999) [eE,e1,e2,e3,e4,e8,l0,l16,h16,q2]
  have l16:b9 (s.items.length:Int) 16=true:=d6 (by omega)
  rw[if_neg (by decide),if_neg h16]
  have hA:=Jn s k
  obtain⟨g1,h1⟩:∃g,(k.kind==1)=g:=⟨_,rfl⟩
  rw[h1]at hA
  have hr1:b9 s.auto 0=false∧b9 1000000 s.auto=false:=by
   simp only[eG,rg,Zg,Bool.not_eq_true']at c1
   exact c1.2.2.2
  have ha1:IntKind.i64.wrap (s.auto+1)=s.auto+1:=by
   have q1:=of_decide_eq_false hr1.1
   have q2:=of_decide_eq_false hr1.2
   rw[IntKind.wrap_i64];omega
  have ha2:b9 k.n (s.auto+1)= !(b9 s.auto k.n):=by unfold b9;rw[Bool.eq_iff_iff];simp;omega
  have e9:=fY k.n (s.auto+1) 1000000
  rw[rg,ha2]at e9
  have hins:=Ke s k r
  have hp:=ya s.items k
  have b1:= @Io s.items k
  have b2:= @Im s.items k
  have O2:=uS 4 ((oP s k r).map XItem.e)
  rcases O2 with⟨q,_⟩|⟨_,_,q3⟩
  ·rw[hins]at q;simp at q
  generalize oP s k r=F at hins q3⊢
  generalize vi s.items k=p at hins hp b1 b2
  have m1:=gx (m:=s.items.length+1) (z:=56) (by omega) (by omega)
  have m2:=gx (m:=p) (z:=56) (by omega) (by omega)
  have m3:=gx (m:=p+1) (z:=56) (by omega) (by omega)
  have w2:((s.items.map XItem.e).take p).all (fun e=>e.length==4)=true:=by rw[←List.map_take];exact eM (e:=XItem.e) (z:=4) (fun _=>rfl) _
  have w3:((s.items.map XItem.e).drop p).all (fun e=>e.length==4)=true:=by rw[←List.map_drop];exact eM (e:=XItem.e) (z:=4) (fun _=>rfl) _
  have t1:List.take (s.items.length-p) ((s.items.map XItem.e).drop p)=(s.items.map XItem.e).drop p:=Zz (by simp)
  have t2:p+1+(s.items.length-p)=s.items.length+1:=by omega
  have w4:=eM (e:=XItem.e) (z:=4) (fun _=>rfl) s.items
  rcases O with⟨q0,q1,q2⟩|⟨q0,q1,q2⟩<;>rw[q1]at e1
  ·have hnil:s.items=[]:=by simpa using q0
   rw[hnil]at hins hp
   have hp0:p=0:=by simpa using hp
   subst hp0
   simp only[Z4,List.take_nil,List.drop_nil,Zt]at hins
   simp(maxSteps:=9999999) [eE,e1,e2,e3,e4,e8,l0,l16]
   rw[jj]
   have l00:b9 0 0=false:=rfl
   have hF:F.length=1:=by have:=congrArg List.length hins;simpa using this
   have wF:∀x:XItem,x.e.length=4:=fun _=>rfl
   simp +contextual (maxSteps:=9999999) [gr,e5,hnil,l00,hF,wF,←hins,hA,h1,q3,ha1,e9]<;>(cases g1<;>cases b9 s.auto k.n<;>cases b9 1000000 k.n<;>simp)
  ·simp(maxSteps:=9999999) [eE,e1,e2,e3,e4,e8,l0,l16]
   refine bm bX Cl.fin [.f,.f,.f,.t,.t,.t,.t,.f,.t,.f,.t,.f,.f,.f,.f,.f,.f,.f,.f,.f,.f,.f,.f,.f,.f,.f,.f,.f,.f,.f,.f,.f,.f,.f,.f,.f,.f,.f,.f,.f,.f,.f,.f,.f,.f,.f,.f,.f,.f,.f,.f,.f,.f,.f,.f,.f,.f,.f,.f,.f,.f,.f,.f,.f,.f,.f,.f,.f,.f,.f,.f,.f,.f,.f,.f,.f,.f,.f,.f,.f,.f,.f,.f,.f,.f,.f,.f,.f,.f,.f,.f,.f,.f,.f,.f,.f,.f,.f,.f,.f] (fun k=>[(10,ae .i64 k)]) p (fun _=>false) rfl (by simp) (fun j hj _=> ?_) (fun _ _=> ?_)
   ·have hj2:j<s.items.length:=by omega
    have l1:=d6 (b1 hj hj2)
    have e7:=eR (XKey.Ok.mono (show B≤maxLen by omega) (h.2.1.2 _ (Zf hj2)).1) (XKey.Ok.mono (by omega) hk)
    simp +contextual (maxSteps:=9999999) [gr,hj2,l1,e7,bw (n:=s.items.length) (by unfold maxLen;omega) hj2,bU hj2,XItem.e.eq_1 s.items[j]]
   ·by_cases hlt:p<s.items.length
    ·have l1:=fG (Int.not_lt.1 (b2 hlt))
     have hx:=XItem.e.eq_1 s.items[p]
     have e7:=eR (XKey.Ok.mono (show B≤maxLen by omega) (h.2.1.2 _ (Zf hlt)).1) (XKey.Ok.mono (by omega) hk)
     simp +contextual (maxSteps:=9999999) [gr,hlt,hx,l1,e7,hp,m1,m2,m3,w2,w3,w4,t1,t2,bU hlt,e5,←hins,hA,h1,q3,ha1,e9]<;>(cases g1<;>cases b9 s.auto k.n<;>cases b9 1000000 k.n<;>simp)
    ·obtain rfl:p=s.items.length:=by omega
     have hm2:(s.items.map XItem.e).take s.items.length++[[.int .i64 k.kind, .int .i64 k.n, .str k.text, .lst (r.fs.map XField.e)]]=F.map XItem.e:=by rw[hins];simp
     have hd:(s.items.map XItem.e).drop s.items.length=[]:=List.drop_eq_nil_of_le (by simp)
     have hF:F.length=s.items.length+1:=by have:=congrArg List.length hm2;simpa using this.symm
     simp +contextual (maxSteps:=9999999) [gr,m1,m2,m3,w2,w3,w4,e5,hd, ↓hm2,hF,hA,h1,q3,ha1,e9]<;>(cases g1<;>cases b9 s.auto k.n<;>cases b9 1000000 k.n<;>simp)
 ·have hkj:=Mg.1 hq
  have hx:=XItem.e.eq_1 s.items[j]
  have hm:(s.items.map XItem.e).set j [.int .i64 s.items[j].key.kind, .int .i64 s.items[j].key.n, .str s.items[j].key.text, .lst (r.fs.map XField.e)]=(s.items.set j ⟨k,r⟩).map XItem.e:=by rw[List.map_set,hkj];rfl
  have hne:s.items.map XItem.e≠[]:=by intro e;have:=congrArg List.length e;simp only[Zv,List.length_nil]at this;omega
  have O2:=uS 4 ((s.items.set j ⟨k,r⟩).map XItem.e)
  rw[←hm]at O2
  rcases O with⟨q,_⟩|⟨_,q1,q2⟩
  ·exact absurd q hne
  rcases O2 with⟨q,_⟩|⟨_,_,q3⟩
  ·exact absurd (by simpa using q) hne
  rw[hm]at q3
  rw[q1]at e1
  simp only[Int.toNat_natCast]
  generalize s.items.set j ⟨k,r⟩=F at hm q3⊢
  simp(maxSteps:=9999999) [eE,e1,e2,e3,e4,e5,e8,q2,q3,hm,hx,hj,nu]
def Bc (s:XStore)(k:XKey)(r:XRecord):XStore×Bool:=if 0≤dv (nF k) s.items then(s,false)else kN s k r
def sk (s:XStore):List L:=[.pv (.str s.name),lf (s.items.map XItem.e), .pv (.int .i64 s.auto)]
theorem nO (x:XStore×Bool):cT (lL x)= .tup [(true,sk x.1),(false,[.pv (.bool x.2)])]:=by simp[cT, ↓aY,cS,sk]
theorem oT (s:XStore):cT (.agg [.pv (.str s.name),nd 4 (s.items.map XItem.e), .pv (.int .i64 s.auto)])= .agg (sk s):=by simp[cT, ↓bC,cS,sk]
theorem BP {B:Nat}(hB:B≤1048576){s:XStore}(h:s.Ok B){k:XKey}(hk:k.Ok B){r:XRecord}(hr:r.Ok B):ah Ph aH 604 [s.v,k.v,r.v]=some (.tup [(true,sk (Bc s k r).1),(false,[.pv (.bool (Bc s k r).2)])]):=by
 have hl:s.items.length≤1048576:=Zc h.2.1.1 hB
 have e1:=eF hB h
 have e2:=kd (s:=s) (by unfold maxLen;omega) k
 have e3:=kX hB h hk hr
 have e4:=nO (kN s k r)
 have e5:=oT s
 have b1:(!(b9 (dv (nF k) s.items) 0))=decide (0≤dv (nF k) s.items):=by unfold b9;by_cases q:0≤dv (nF k) s.items<;>simp[q];omega
 unfold Bc
 generalize lL (kN s k r)=pr at*
 generalize kN s k r=p at*
 generalize dv (nF k) s.items=i at*
 generalize hn:(V.agg [.pv (.str s.name),nd 4 (s.items.map XItem.e), .pv (.int .i64 s.auto)])=nv at*
 simp only[sk]at e4 e5⊢
 by_cases q:0≤i
 ·refine aa (fn:=jI) rfl ?_
  simp(maxSteps:=9999999) [jI,e1,e2,b1,q, ↓e5, ↓au, ↓aj]
 ·refine aa (fn:=jI) rfl ?_
  simp(maxSteps:=9999999) [jI,e2,e3,b1,q, ↓e4, ↓au, ↓aj]
theorem B2 {B:Nat}(hB:B≤1048576){s:XStore}(h:s.Ok B){k:XKey}(hk:k.Ok B){r:XRecord}(hr:r.Ok B):ah Ph aH 601 [s.v,k.v,r.v]=some (.tup [(true,sk (Bc s k r).1),(false,[.pv (.bool (Bc s k r).2)])]):=by
 have hl:s.items.length≤1048576:=Zc h.2.1.1 hB
 have e1:=fB hB h
 have e2:=iH (s:=s) (by unfold maxLen;omega) k
 have e3:=k7 hB h hk hr
 have e4:=nO (kN s k r)
 have e5:=oT s
 have b1:(!(b9 (dv (nF k) s.items) 0))=decide (0≤dv (nF k) s.items):=by unfold b9;by_cases q:0≤dv (nF k) s.items<;>simp[q];omega
 unfold Bc
 generalize lL (kN s k r)=pr at*
 generalize kN s k r=p at*
 generalize dv (nF k) s.items=i at*
 generalize hn:(V.agg [.pv (.str s.name),nd 4 (s.items.map XItem.e), .pv (.int .i64 s.auto)])=nv at*
 simp only[sk]at e4 e5⊢
 by_cases q:0≤i
 ·refine aa (fn:=jM) rfl ?_
  simp(maxSteps:=9999999) [jM,e1,e2,b1,q, ↓e5, ↓au, ↓aj]
 ·refine aa (fn:=jM) rfl ?_
  simp(maxSteps:=9999999) [jM,e2,e3,b1,q, ↓e4, ↓au, ↓aj]
def dK (s:XStore)(k:XKey):XRecord:=match s.items[(dv (nF k) s.items).toNat]? with
 |some x=>if 0≤dv (nF k) s.items then x.rcd else⟨[]⟩
 |none=>⟨[]⟩
theorem ND {α:Type}{p:α→Bool}{xs:List α}(h:0≤dv p xs):(dv p xs).toNat<xs.length:=by
 rcases xD p xs with e|⟨k,hk,e,_⟩
 ·rw[e]at h;omega
 ·rw[e];simpa using hk
theorem ye {s:XStore}{k:XKey}(h:0≤dv (nF k) s.items):∃x,s.items[(dv (nF k) s.items).toNat]? =some x∧dK s k=x.rcd:=by
 refine⟨_,Zl (ND h),?_⟩
 unfold dK;rw[Zl (ND h)];simp only[if_pos h]
theorem Cm {s:XStore}{k:XKey}(h:¬0≤dv (nF k) s.items):dK s k=⟨[]⟩:=by
 unfold dK;split<;>simp[h]
theorem sa {B:Nat}{s:XStore}(h:s.Ok B)(k:XKey):(dK s k).Ok B:=by
 unfold dK
 split
 ·rename_i x e
  split
  ·exact(h.2.1.2 x (Zi e)).2
  ·exact⟨Nat.zero_le _,fun f m=>by simp at m⟩
 ·exact⟨Nat.zero_le _,fun f m=>by simp at m⟩
theorem Rm {B:Nat}(hB:16≤B){fs:List XField}(h:cP fs=true):(⟨fs⟩:XRecord).Ok B:=by
 obtain⟨h1,h2⟩:=o9 (r:=⟨fs⟩) h
 simp only at h1 h2
 refine⟨by simp only;omega,fun f m=> ?_⟩
 obtain⟨q1,q2,q3⟩:=h2 f m
 exact⟨by omega,by unfold ii;omega⟩
theorem uV {B:Nat}(hB:16≤B){r:XRecord}(h:r.Ok B)(nm:List UInt8)(n:Int):(⟨(setR r.fs nm n).1⟩:XRecord).Ok B:=by
 unfold setR
 cases c:cP r.fs&&cP (s7 r.fs nm n)with
 |false=>exact h
 |true=>
  rw[Zg]at c
  exact Rm hB c.2
theorem Ck {B:Nat}(hB:17≤B){s:XStore}(h:s.Ok B){k:XKey}(hk:k.Ok B){r:XRecord}(hr:r.Ok B):(kN s k r).1.Ok B:=by
 unfold kN
 cases eG s&&(eW k&&cP r.fs)with
 |false=>exact h
 |true=>
  simp only[cond_true]
  split
  ·exact⟨h.1,Iu h hk hr _,h.2.2⟩
  ·split
   ·exact h
   ·rename_i hl
    have hin:=H5 h hk hr
    have hlen:(oP s k r).length=s.items.length+1:=by
     have:=ya s.items k
     simp[oP];omega
    refine⟨h.1,⟨by simp only;omega,fun x m=> ?_⟩,Jo h.2.2 hk.2.1⟩
    simp only[oP,List.mem_append,Z6]at m
    rcases m with m|rfl|m
    ·exact h.2.1.2 x (Zy m)
    ·exact⟨hk,hr⟩
    ·exact h.2.1.2 x (List.mem_of_mem_drop m)
def wJ (s:XStore)(w:XWrite):XStore×Bool:=cond (setR (dK s w.key).fs w.field w.n).2 (kN s w.key ⟨(setR (dK s w.key).fs w.field w.n).1⟩) (s,false)
theorem Tv {B:Nat}(hB:17≤B){s:XStore}(h:s.Ok B){w:XWrite}(hw:w.Ok B):(wJ s w).1.Ok B:=by
 unfold wJ
 cases(setR (dK s w.key).fs w.field w.n).2 with
 |false=>exact h
 |true=>exact Ck hB h hw.2.2.1 (uV (by omega) (sa h _) _ _)
theorem R3 {s:XStore}{w:XWrite}(h:(wJ s w).2=false):(wJ s w).1=s:=by
 unfold wJ at h⊢
 cases c:(setR (dK s w.key).fs w.field w.n).2 with
 |false=>rfl
 |true=>
  rw[c]at h
  simp only[cond_true]at h⊢
  unfold kN at h⊢
  cases d:eG s&&(eW w.key&&cP (setR (dK s w.key).fs w.field w.n).1)with
  |false=>rw[cond_false]
  |true=>
   rw[d]at h
   simp only[cond_true]at h⊢
   split at h
   ·cases h
   ·split at h
    ·rename_i h1 h2;rw[if_neg h1,if_pos h2]
    ·cases h
theorem ym (x:List XField×Bool):cT (p7 x)= .tup [(true,[.pv (.lst (x.1.map XField.e))]),(false,[.pv (.bool x.2)])]:=by simp[cT,cS]
theorem tR {B:Nat}(hB0:17≤B)(hB:B≤1048576){s:XStore}(h:s.Ok B){w:XWrite}(hw:w.Ok B):ah Ph aH 326 [s.v, .agg (w.e.map .pv)]=some (.tup [(true,sk (wJ s w).1),(false,[.pv (.bool (wJ s w).2)])]):=by
 have hl:s.items.length≤1048576:=Zc h.2.1.1 hB
 have hrc:=sa h w.key
 have e1:=eF hB h
 have e2:=kd (s:=s) (by unfold maxLen;omega) w.key
 have e3:ah Ph aH 341 [.agg [.pv (.lst ((dK s w.key).fs.map XField.e))],cU w.field,ae .i64 w.n]=some (p7 (setR (dK s w.key).fs w.field w.n)):=rU hB hrc hw.2.2.2.1 hw.2.2.2.2
 have e4:ah Ph aH 342 [s.v,w.key.v, .agg [.pv (.lst ((setR (dK s w.key).fs w.field w.n).1.map XField.e))]]=some (lL (kN s w.key ⟨(setR (dK s w.key).fs w.field w.n).1⟩)):=kX hB h hw.2.2.1 (uV (by omega) hrc _ _)
 have e5:=nO (kN s w.key ⟨(setR (dK s w.key).fs w.field w.n).1⟩)
 have e6:=oT s
 have e7:=ym (setR (dK s w.key).fs w.field w.n)
 have b1:(!(b9 (dv (nF w.key) s.items) 0))=decide (0≤dv (nF w.key) s.items):=by unfold b9;by_cases q:0≤dv (nF w.key) s.items<;>simp[q];omega
 have ht:=ye (s:=s) (k:=w.key)
 have hf:=Cm (s:=s) (k:=w.key)
 unfold wJ
 generalize lL (kN s w.key ⟨(setR (dK s w.key).fs w.field w.n).1⟩)=pr at*
 generalize kN s w.key ⟨(setR (dK s w.key).fs w.field w.n).1⟩=p at*
 generalize p7 (setR (dK s w.key).fs w.field w.n)=rr at*
 generalize setR (dK s w.key).fs w.field w.n=sr at*
 generalize hn:(V.agg [.pv (.str s.name),nd 4 (s.items.map XItem.e), .pv (.int .i64 s.auto)])=nv at*
 generalize dK s w.key=rc at*
 generalize dv (nF w.key) s.items=i at*
 simp only[sk]at e5 e6⊢
 clear hn
 obtain⟨fs1,b⟩:=sr
 simp only at e3 e4 e7
 by_cases q:0≤i
 ·obtain⟨x,hi,hx⟩:=ht q
  have hw0:=XItem.e.eq_1 x
  rw[←hx]at hw0
  have hm:(s.items.map XItem.e)[i.toNat]? =some x.e:=by rw[Zm,hi];rfl
  refine aa (fn:=fU) rfl ?_
  cases b<;>simp(maxSteps:=9999999) [fU,XWrite.e.eq_1,e1,e2,e3,e4,b1,q,hm,hw0, ↓e5, ↓e6, ↓e7, ↓au, ↓aj, ↓av, ↓ai]
 ·have hx:=hf q
  rw[hx]at e3
  simp only[Z4]at e3
  refine aa (fn:=fU) rfl ?_
  cases b<;>simp(maxSteps:=9999999) [fU,XWrite.e.eq_1,e1,e2,e3,e4,b1,q, ↓e5, ↓e6, ↓e7, ↓au, ↓aj, ↓av, ↓ai]
theorem uj {B:Nat}(hB0:17≤B)(hB:B≤1048576){s:XStore}(h:s.Ok B){w:XWrite}(hw:w.Ok B):ah Ph aH 323 [s.v, .agg (w.e.map .pv)]=some (.tup [(true,sk (wJ s w).1),(false,[.pv (.bool (wJ s w).2)])]):=by
 have hl:s.items.length≤1048576:=Zc h.2.1.1 hB
 have hrc:=sa h w.key
 have e1:=fB hB h
 have e2:=iH (s:=s) (by unfold maxLen;omega) w.key
 have e3:ah Ph aH 338 [.agg [.pv (.lst ((dK s w.key).fs.map XField.e))],cU w.field,ae .i64 w.n]=some (p7 (setR (dK s w.key).fs w.field w.n)):=sj hB hrc hw.2.2.2.1 hw.2.2.2.2
 have e4:ah Ph aH 339 [s.v,w.key.v, .agg [.pv (.lst ((setR (dK s w.key).fs w.field w.n).1.map XField.e))]]=some (lL (kN s w.key ⟨(setR (dK s w.key).fs w.field w.n).1⟩)):=k7 hB h hw.2.2.1 (uV (by omega) hrc _ _)
 have e5:=nO (kN s w.key ⟨(setR (dK s w.key).fs w.field w.n).1⟩)
 have e6:=oT s
 have e7:=ym (setR (dK s w.key).fs w.field w.n)
 have b1:(!(b9 (dv (nF w.key) s.items) 0))=decide (0≤dv (nF w.key) s.items):=by unfold b9;by_cases q:0≤dv (nF w.key) s.items<;>simp[q];omega
 have ht:=ye (s:=s) (k:=w.key)
 have hf:=Cm (s:=s) (k:=w.key)
 unfold wJ
 generalize lL (kN s w.key ⟨(setR (dK s w.key).fs w.field w.n).1⟩)=pr at*
 generalize kN s w.key ⟨(setR (dK s w.key).fs w.field w.n).1⟩=p at*
 generalize p7 (setR (dK s w.key).fs w.field w.n)=rr at*
 generalize setR (dK s w.key).fs w.field w.n=sr at*
 generalize hn:(V.agg [.pv (.str s.name),nd 4 (s.items.map XItem.e), .pv (.int .i64 s.auto)])=nv at*
 generalize dK s w.key=rc at*
 generalize dv (nF w.key) s.items=i at*
 simp only[sk]at e5 e6⊢
 clear hn
 obtain⟨fs1,b⟩:=sr
 simp only at e3 e4 e7
 by_cases q:0≤i
 ·obtain⟨x,hi,hx⟩:=ht q
  have hw0:=XItem.e.eq_1 x
  rw[←hx]at hw0
  have hm:(s.items.map XItem.e)[i.toNat]? =some x.e:=by rw[Zm,hi];rfl
  refine aa (fn:=fV) rfl ?_
  cases b<;>simp(maxSteps:=9999999) [fV,XWrite.e.eq_1,e1,e2,e3,e4,b1,q,hm,hw0, ↓e5, ↓e6, ↓e7, ↓au, ↓aj, ↓av, ↓ai]
 ·have hx:=hf q
  rw[hx]at e3
  simp only[Z4]at e3
  refine aa (fn:=fV) rfl ?_
  cases b<;>simp(maxSteps:=9999999) [fV,XWrite.e.eq_1,e1,e2,e3,e4,b1,q, ↓e5, ↓e6, ↓e7, ↓au, ↓aj, ↓av, ↓ai]
def Bd (s:XStore)(ws:List XWrite):XStore:=ws.foldl (fun s w=>(wJ s w).1) s
theorem Jg {s:XStore}{ws:List XWrite}{k:Nat}(h:k<ws.length):Bd s (ws.take (k+1))=(wJ (Bd s (ws.take k)) ws[k]).1:=by
 unfold Bd;rw[Zx h,List.foldl_append];rfl
theorem LH {B:Nat}(hB:17≤B){s:XStore}(h:s.Ok B):∀{ws:List XWrite},(∀w∈ws,w.Ok B)→(Bd s ws).Ok B:=by
 intro ws
 induction ws generalizing s with
 |nil=>exact fun _=>h
 |cons w ws ih=>exact fun hw=>ih (Tv hB h (hw w (by simp))) fun x m=>hw x (by simp[m])
theorem BV {B:Nat}(hB0:17≤B)(hB:B≤1048576){s:XStore}(h:s.Ok B){ws:List XWrite}(hw:∀w∈ws,w.Ok B)(hl:ws.length≤maxLen):ah Ph aH 313 [s.v,aR (ws.map XWrite.e)]=some (.agg (sk (Bd s ws))):=by
 have e1:=eF hB h
 have e2:=oT s
 generalize hn:(V.agg [.pv (.str s.name),nd 4 (s.items.map XItem.e), .pv (.int .i64 s.auto)])=nv at*
 simp only[sk]at e2⊢
 refine aa (fn:=pO) rfl ?_
 simp(maxSteps:=9999999) [pO,e1, ↓e2, ↓aj, ↓au]
 refine hJ bX Cl.fin ws.length [.f,.f,.f,.f,.t,.t,.f,.f,.f,.f,.t,.t,.t,.f,.f,.f,.f,.f,.f,.f,.f,.f,.f,.f] (fun k=>[(12,ae .i64 k)]) (fun k=>[.box [.pv (.str s.name), .pv (.lst (s.items.map XItem.e)), .pv (.int .i64 s.auto)], .box [.pv (.str []), .nil, .pv (.int .i64 0)], .box (sk (Bd s (ws.take k)))]) rfl (Kn.of [0,1,2] (by decide) (by simp[Bd,sk, ↓aQ]) (by simp)) (fun k hk=> ?_) ?_
 ·have hx:=XWrite.e.eq_1 ws[k]
  have hk0:=LH hB0 h (ws:=ws.take k) fun w m=>hw w (Zy m)
  have e3:=tR hB0 hB hk0 (hw _ (Zf hk))
  rw[XWrite.e.eq_1]at e3
  have e4:=R3 (s:=Bd s (ws.take k)) (w:=ws[k])
  rw[Jg hk]
  generalize Bd s (ws.take k)=a at*
  generalize hsx:wJ a ws[k]=sx at*
  obtain⟨a',b⟩:=sx
  simp only[sk,Zu,Z4]at e3 e4⊢
  cases b
  ·obtain rfl:=e4 rfl
   simp(maxSteps:=9999999) [ix,hk,hx,e3,bw hl hk,bU hk, ↓aD, ↓aj, ↓av, ↓ai, ↓aE,-bY]
   exact Kn.of [0,1,2] (by decide) (by simp[↓aQ]) (by simp)
  ·simp(maxSteps:=9999999) [ix,hk,hx,e3,bw hl hk,bU hk, ↓aD, ↓aj, ↓av, ↓ai, ↓aE,-bY]
   exact Kn.of [0,1,2] (by decide) (by simp[↓aQ]) (by simp)
 ·rw[List.take_length]
  simp only[sk]
  simp(maxSteps:=9999999) [ix, ↓aj, ↓au]
theorem Ar {B:Nat}(hB0:17≤B)(hB:B≤1048576){s:XStore}(h:s.Ok B){ws:List XWrite}(hw:∀w∈ws,w.Ok B)(hl:ws.length≤maxLen):ah Ph aH 311 [s.v,aR (ws.map XWrite.e)]=some (.agg (sk (Bd s ws))):=by
 have e1:=fB hB h
 have e2:=oT s
 generalize hn:(V.agg [.pv (.str s.name),nd 4 (s.items.map XItem.e), .pv (.int .i64 s.auto)])=nv at*
 simp only[sk]at e2⊢
 refine aa (fn:=oA) rfl ?_
 simp(maxSteps:=9999999) [oA,e1, ↓e2, ↓aj, ↓au]
 refine hJ bX Cl.fin ws.length [.f,.t,.f,.f,.t,.t,.t,.f,.f,.f,.f,.f,.f,.f,.f,.f,.f,.f,.f,.f,.f,.f,.f,.f,.f,.f,.f,.f,.f] (fun k=>[(6,ae .i64 k)]) (fun k=>[.box [.pv (.str s.name), .pv (.lst (s.items.map XItem.e)), .pv (.int .i64 s.auto)], .box [.pv (.str []), .nil, .pv (.int .i64 0)], .box (sk (Bd s (ws.take k)))]) rfl (Kn.of [0,1,2] (by decide) (by simp[Bd,sk, ↓aQ]) (by simp)) (fun k hk=> ?_) ?_
 ·have hx:=XWrite.e.eq_1 ws[k]
  have hk0:=LH hB0 h (ws:=ws.take k) fun w m=>hw w (Zy m)
  have e3:=uj hB0 hB hk0 (hw _ (Zf hk))
  rw[XWrite.e.eq_1]at e3
  have e4:=R3 (s:=Bd s (ws.take k)) (w:=ws[k])
  rw[Jg hk]
  generalize Bd s (ws.take k)=a at*
  generalize hsx:wJ a ws[k]=sx at*
  obtain⟨a',b⟩:=sx
  simp only[sk,Zu,Z4]at e3 e4⊢
  cases b
  ·obtain rfl:=e4 rfl
   simp(maxSteps:=9999999) [gT,hk,hx,e3,bw hl hk,bU hk, ↓aD, ↓aj, ↓av, ↓ai, ↓aE,-bY]
   exact Kn.of [0,1,2] (by decide) (by simp[↓aQ]) (by simp)
  ·simp(maxSteps:=9999999) [gT,hk,hx,e3,bw hl hk,bU hk, ↓aD, ↓aj, ↓av, ↓ai, ↓aE,-bY]
   exact Kn.of [0,1,2] (by decide) (by simp[↓aQ]) (by simp)
 ·rw[List.take_length]
  simp only[sk]
  simp(maxSteps:=9999999) [gT, ↓aj, ↓au]
theorem wi {B:Nat}(hB0:17≤B)(hB:B≤1048576){r:XReplica}(h:r.Ok B):ah Ph aH 309 [.agg (r.e.map .pv)]=some (.agg (sk (Bd r.base r.sync.outbox.writes))):=by
 have hw:=h.2.2.1.2.2
 have e1:=BV hB0 hB h.1 hw.2 (by have:=hw.1;unfold maxLen;omega)
 generalize Bd r.base r.sync.outbox.writes=a at*
 simp only[sk]at e1⊢
 refine aa (fn:=me) rfl ?_
 simp(maxSteps:=9999999) [me,XReplica.e,e1, ↓aD, ↓aj, ↓av, ↓au, ↓ai]
theorem wL {B:Nat}(hB0:17≤B)(hB:B≤1048576){r:XReplica}(h:r.Ok B):ah Ph aH 308 [.agg (r.e.map .pv)]=some (.agg (sk (Bd r.base r.sync.outbox.writes))):=by
 have hw:=h.2.2.1.2.2
 have e1:=Ar hB0 hB h.1 hw.2 (by have:=hw.1;unfold maxLen;omega)
 generalize Bd r.base r.sync.outbox.writes=a at*
 simp only[sk]at e1⊢
 refine aa (fn:=mn) rfl ?_
 simp(maxSteps:=9999999) [mn,XReplica.e,e1, ↓aD, ↓aj, ↓av, ↓au, ↓ai]
def FU (s:XStore)(k:XKey)(f:List UInt8):Int:=IntKind.i64.wrap ((mB (dK s k).fs f).1+1)
def wq (s:XStore)(k:XKey)(f:List UInt8):List XField×Bool:=setR (dK s k).fs f (FU s k f)
def xR (s:XStore)(k:XKey)(f:List UInt8):XStore×Bool:=kN s k ⟨(wq s k f).1⟩
theorem D0 (n:Int):ii (IntKind.i64.wrap n):=by rw[IntKind.wrap_i64];unfold ii;omega
theorem F4 {B:Nat}(hB0:17≤B)(hB:B≤1048576){s:XStore}(h:s.Ok B){k:XKey}(hk:k.Ok B){f:List UInt8}(hf0:f.length≤B):ah Ph aH 603 [s.v,k.v,cU f]=some (.tup [(true,sk (xR s k f).1),(false,[.pv (.int .i64 (FU s k f))]),(false,[.pv (.bool ((wq s k f).2&&(xR s k f).2))])]):=by
 have hl:s.items.length≤1048576:=Zc h.2.1.1 hB
 have hrc:=sa h k
 have e2:=iH (s:=s) (by unfold maxLen;omega) k
 have e8:ah Ph aH 186 [.agg [.pv (.lst ((dK s k).fs.map XField.e))],cU f]=some (Tz (mB (dK s k).fs f)):=gy (r:=dK s k) (by have:=hrc.1;unfold maxLen;omega) f
 have e3:ah Ph aH 338 [.agg [.pv (.lst ((dK s k).fs.map XField.e))],cU f,ae .i64 (FU s k f)]=some (p7 (wq s k f)):=sj hB hrc hf0 (D0 _)
 have e4:ah Ph aH 339 [s.v,k.v, .agg [.pv (.lst ((wq s k f).1.map XField.e))]]=some (lL (xR s k f)):=k7 hB h hk (uV (by omega) hrc _ _)
 have e5:=nO (xR s k f)
 have e7:=ym (wq s k f)
 have hw:IntKind.i64.wrap ((mB (dK s k).fs f).1+1)=FU s k f:=rfl
 have b1:(!(b9 (dv (nF k) s.items) 0))=decide (0≤dv (nF k) s.items):=by unfold b9;by_cases q:0≤dv (nF k) s.items<;>simp[q];omega
 have ht:=ye (s:=s) (k:=k)
 have hf:=Cm (s:=s) (k:=k)
 generalize lL (xR s k f)=pr at*
 generalize xR s k f=p at*
 generalize p7 (wq s k f)=rr at*
 generalize wq s k f=sr at*
 generalize FU s k f=n1 at*
 generalize dK s k=rc at*
 generalize mB rc.fs f=g at*
 generalize dv (nF k) s.items=i at*
 simp only[sk]at e5⊢
 obtain⟨fs1,b⟩:=sr
 obtain⟨p1,pb⟩:=p
 obtain⟨gn,gb⟩:=g
 simp only at e3 e4 e5 e7 e8 hw⊢
 by_cases q:0≤i
 ·obtain⟨x,hi,hx⟩:=ht q
  have hw0:=XItem.e.eq_1 x
  rw[←hx]at hw0
  have hm:(s.items.map XItem.e)[i.toNat]? =some x.e:=by rw[Zm,hi];rfl
  refine aa (fn:=mr) rfl ?_
  cases b<;>simp(maxSteps:=600000) [mr,e2,e3,e4,e8,hw,b1,q,hm,hw0, ↓e5, ↓e7, ↓au, ↓aj, ↓av, ↓ai]
 ·have hx:=hf q
  rw[hx]at e3 e8
  simp only[Z4]at e3 e8
  refine aa (fn:=mr) rfl ?_
  cases b<;>simp(maxSteps:=600000) [mr,e2,e3,e4,e8,hw,b1,q, ↓e5, ↓e7, ↓au, ↓aj, ↓av, ↓ai]
def Ah (s t:List UInt8)(p:XPage):Bool:=p.site==s&&p.top==t
theorem zQ {α:Type}{p:α→Bool}{xs:List α}{k:Nat}(h:k<xs.length):(xs.take (k+1)).filter p=(xs.take k).filter p++(if p xs[k]then [xs[k]]else []):=by
 rw[Zx h,List.filter_append];congr 1;simp[List.filter_cons]
theorem BR {B:Nat}(hB:B≤1048576){c0 c1 c2 c3 c5 c6 c7 c8 c9:PV}{ps:List XPage}(hl:ps.length≤B)(h:∀p∈ps,p.Ok B)(s t:List UInt8):ah Ph aH 551 [.agg [.pv c0, .pv c1, .pv c2, .pv c3, .pv (.lst (ps.map XPage.e)), .pv c5, .pv c6, .pv c7, .pv c8, .pv c9],cU s,cU t]=some (.one (.own 11 ((ps.filter (Ah s t)).map XPage.e))):=by
 have hlm:ps.length≤maxLen:=by unfold maxLen;omega
 refine aa (fn:=pK) rfl ?_
 simp(maxSteps:=9999999) [pK]
 refine hJ bX Cl.fin ps.length [.f,.t,.t,.f,.f,.f,.f,.t,.f,.f,.f,.f,.t,.t,.t,.f,.f,.f,.f,.f,.f,.f,.f,.f,.f,.f,.f,.f,.f,.f,.f,.f,.f,.f,.f] (fun k=>[(7, .one (.arr 0)),(14,ae .i64 k)]) (fun k=>[.arr 11 (((ps.take k).filter (Ah s t)).map XPage.e)]) rfl (Kn.of [1] (by decide) (by simp) (by simp)) (fun k hk=> ?_) ?_
 ·have hx:=XPage.e.eq_1 ps[k]
  have e1:=zV hB (h _ (Zf hk))
  have hf:=zQ (p:=Ah s t) hk
  have hlen:((ps.take k).filter (Ah s t)).length≤k:=Zc (List.length_filter_le _ _) (by rw[Zw];omega)
  have m1:=gx (m:=((ps.take k).filter (Ah s t)).length+1) (z:=144) (by omega) (by omega)
  rw[hf,List.map_append]
  have hW:(((ps.take k).filter (Ah s t)).map XPage.e).length=((ps.take k).filter (Ah s t)).length:=by simp
  generalize ((ps.take k).filter (Ah s t)).length=m at*
  generalize ((ps.take k).filter (Ah s t)).map XPage.e=W at*
  have hp:Ah s t ps[k]=(ps[k].site==s&&ps[k].top==t):=rfl
  cases q1:(ps[k].site==s)<;>cases q2:(ps[k].top==t)<;>rw[q1,q2]at hp<;>simp only[hp]<;>simp(maxSteps:=9999999) [j4,hk,hx,q1,q2,e1,m1,hW,bw hlm hk,bU hk, ↓bC, ↓aD, ↓aj, ↓av, ↓ai, ↓aE, ↓aq,-bY]
  ·exact Kn.of [0] (by decide) (by simp) (by simp)
  ·exact Kn.of [0] (by decide) (by simp) (by simp)
  ·exact Kn.of [0] (by decide) (by simp) (by simp)
  ·exact Kn.of [3] (by decide) (by simp) (by simp)
 ·rw[List.take_length]
  simp(maxSteps:=9999999) [j4]
theorem B4 {B:Nat}(hB:B≤1048576){c0 c1 c2 c3 c5 c6 c7 c8 c9:PV}{ps:List XPage}(hl:ps.length≤B)(h:∀p∈ps,p.Ok B)(s t:List UInt8):ah Ph aH 549 [.agg [.pv c0, .pv c1, .pv c2, .pv c3, .pv (.lst (ps.map XPage.e)), .pv c5, .pv c6, .pv c7, .pv c8, .pv c9],cU s,cU t]=some (.one (.own 11 ((ps.filter (Ah s t)).map XPage.e))):=by
 have hlm:ps.length≤maxLen:=by unfold maxLen;omega
 refine aa (fn:=pS) rfl ?_
 simp(maxSteps:=9999999) [pS]
 refine hJ bX Cl.fin ps.length [.f,.t,.t,.t,.f,.f,.f,.t,.t,.f,.f,.f,.f,.f,.f,.f,.f,.f,.f,.f,.f,.f,.f,.f,.f,.f,.f,.f,.f,.f,.f,.f,.f,.f,.f,.f,.f,.f,.f,.f,.f,.f,.f,.f,.f] (fun k=>[(7, .one (.arr 1)),(8,ae .i64 k)]) (fun k=>[.box [.pv c0, .pv c1, .pv c2, .pv c3, .pv (.lst (ps.map XPage.e)), .pv c5, .pv c6, .pv c7, .pv c8, .pv c9], .arr 11 (((ps.take k).filter (Ah s t)).map XPage.e)]) rfl (Kn.of [0,1] (by decide) (by simp) (by simp)) (fun k hk=> ?_) ?_
 ·have hx:=XPage.e.eq_1 ps[k]
  have e1:=B8 hB (h _ (Zf hk))
  have hf:=zQ (p:=Ah s t) hk
  have hlen:((ps.take k).filter (Ah s t)).length≤k:=Zc (List.length_filter_le _ _) (by rw[Zw];omega)
  have m1:=gx (m:=((ps.take k).filter (Ah s t)).length+1) (z:=144) (by omega) (by omega)
  rw[hf,List.map_append]
  have hW:(((ps.take k).filter (Ah s t)).map XPage.e).length=((ps.take k).filter (Ah s t)).length:=by simp
  generalize ((ps.take k).filter (Ah s t)).length=m at*
  generalize ((ps.take k).filter (Ah s t)).map XPage.e=W at*
  have hp:Ah s t ps[k]=(ps[k].site==s&&ps[k].top==t):=rfl
  cases q1:(ps[k].site==s)<;>cases q2:(ps[k].top==t)<;>rw[q1,q2]at hp<;>simp only[hp]<;>simp(maxSteps:=9999999) [j6,hk,hx,q1,q2,e1,m1,hW,bw hlm hk,bU hk, ↓bC, ↓aD, ↓aj, ↓av, ↓ai, ↓aE, ↓aq,-bY]
  ·exact Kn.of [0,1] (by decide) (by simp) (by simp)
  ·exact Kn.of [0,1] (by decide) (by simp) (by simp)
  ·exact Kn.of [0,1] (by decide) (by simp) (by simp)
  ·exact Kn.of [0,3] (by decide) (by simp) (by simp)
 ·rw[List.take_length]
  simp(maxSteps:=9999999) [j6]
def sU (r:XRange)(x:XItem):Bool:= !(Kd x.key r)
def rH (s:XStore)(r:XRange):XStore×Int:=bif eG s then(⟨s.name,s.items.filter (sU r),s.auto⟩,(s.items.length:Int)-((s.items.filter (sU r)).length:Nat))else(s,0)
theorem TP {call:Nat→List V→Option V}{c:Nat}{caps:List V}{p:XItem→Bool}:∀{xs:List XItem},(∀x∈xs,call c (.agg (x.e.map .pv)::caps)=some (aF (p x)))→eH call c caps (xs.map XItem.e)=some ((xs.filter fun x=> !p x).map XItem.e)
 |[],_=>rfl
 |x::xs,h=>by
  have ih:=TP (xs:=xs) fun y hy=>h y (List.mem_cons_of_mem _ hy)
  have hx:=h x List.mem_cons_self
  rw[Zu,eH,hx,ih]
  cases hp:p x<;>simp[aF,List.filter_cons,hp]
def UX (z:Nat)(l:L)(rows:List (List PV)):Prop:=l= .own z rows∨(l= .nil∧rows=[])
theorem HL (r:XRange)(xs:List XItem):(xs.filter (sU r)).length≤xs.length:=List.length_filter_le _ _
theorem oF {B:Nat}(hB:B≤1048576){s:XStore}(h:s.Ok B){r:XRange}(hr:r.Ok):∃l,UX 4 l ((rH s r).1.items.map XItem.e)∧ah Ph aH 605 [s.v,r.v]=some (.tup [(true,[.pv (.str (rH s r).1.name),l, .pv (.int .i64 (rH s r).1.auto)]),(false,[.pv (.int .i64 (rH s r).2)])]):=by
 have hl:s.items.length≤1048576:=Zc h.2.1.1 hB
 have e1:=eF hB h
 have e2:=jh (XStore.Ok.mono (show B≤maxLen by unfold maxLen;omega) h)
 have O:=AS 4 (s.items.map XItem.e)
 have c2:eH (ah Ph aH) 608 [tD [.bool r.hasLow, .bool r.hasHigh, .int .i64 r.low.kind, .int .i64 r.low.n, .str r.low.text, .int .i64 r.high.kind, .int .i64 r.high.n, .str r.high.text]] (s.items.map XItem.e)=some ((s.items.filter (sU r)).map XItem.e):=TP (p:=fun x=>Kd x.key r) fun x hx=>by
  have e4:=xO (XKey.Ok.mono (show B≤maxLen by unfold maxLen;omega) (h.2.1.2 x hx).1) hr
  refine aa (fn:=jK) rfl ?_
  simp(maxSteps:=600000) [jK,XItem.e.eq_1 x,tD,e4]
 have hf:=HL r s.items
 have w1:IntKind.i64.wrap ((s.items.length:Int)-((s.items.filter (sU r)).length:Nat))=(s.items.length:Int)-((s.items.filter (sU r)).length:Nat):=by rw[IntKind.wrap_i64];omega
 have w2:IntKind.i64.wrap (s.items.length:Int)=(s.items.length:Int):=by rw[IntKind.wrap_i64];omega
 unfold rH
 cases c1:eG s<;>rw[c1]at e2
 ·simp only[cond_false]
  rcases O with⟨q0,q1⟩|⟨q0,q1⟩<;>rw[q1]at e1
  ·refine⟨_, .inr ⟨rfl,q0⟩,?_⟩
   refine aa (fn:=dq) rfl ?_
   simp(maxSteps:=600000) [dq,e1,e2]
  ·refine⟨_, .inl rfl,?_⟩
   refine aa (fn:=dq) rfl ?_
   simp(maxSteps:=600000) [dq,e1,e2]
 ·simp only[cond_true]
  rcases O with⟨q0,q1⟩|⟨q0,q1⟩<;>rw[q1]at e1
  ·have q2:s.items=[]:=by simpa using q0
   refine⟨_, .inr ⟨rfl,by rw[q2];rfl⟩,?_⟩
   refine aa (fn:=dq) rfl ?_
   have hfl:(s.items.filter (sU r)).length=0:=by rw[q2];rfl
   simp(maxSteps:=600000) [dq,e1,e2,lc,qA,n5,hfl,w2]
  ·refine⟨_, .inl rfl,?_⟩
   refine aa (fn:=dq) rfl ?_
   simp(maxSteps:=600000) [dq,e1,e2,c2,lc,qA,Am,n5,w1]
def J7 (b0 b1 b2:AObj)(y0 y2:L):List (List PV)→List AObj
 |[]=>[b0,b1,b2, .box [y0, .nil,y2]]
 |q::qs=>[b0,b1,b2, .box [y0, .arr 4,y2], .arr 4 (q::qs)]
theorem oH {B:Nat}(hB:B≤1048576){s:XStore}(h:s.Ok B){r:XRange}(hr:r.Ok):∃l,UX 4 l ((rH s r).1.items.map XItem.e)∧ah Ph aH 602 [s.v,r.v]=some (.tup [(true,[.pv (.str (rH s r).1.name),l, .pv (.int .i64 (rH s r).1.auto)]),(false,[.pv (.int .i64 (rH s r).2)])]):=by
 have hl:s.items.length≤1048576:=Zc h.2.1.1 hB
 have hlm:s.items.length≤maxLen:=by unfold maxLen;omega
 have e1:=fB hB h
 have e2:=oB (XStore.Ok.mono (show B≤maxLen by unfold maxLen;omega) h)
 have O:=AS 4 (s.items.map XItem.e)
 have hi:=h.2.1.2
 have hf:=HL r s.items
 have w1:IntKind.i64.wrap ((s.items.length:Int)-((s.items.filter (sU r)).length:Nat))=(s.items.length:Int)-((s.items.filter (sU r)).length:Nat):=by rw[IntKind.wrap_i64];omega
 unfold rH
 cases c1:eG s<;>rw[c1]at e2
 ·simp only[cond_false]
  rcases O with⟨q0,q1⟩|⟨q0,q1⟩<;>rw[q1]at e1
  ·refine⟨_, .inr ⟨rfl,q0⟩,?_⟩
   refine aa (fn:=d9) rfl ?_
   simp(maxSteps:=600000) [d9,e1,e2]
  ·refine⟨_, .inl rfl,?_⟩
   refine aa (fn:=d9) rfl ?_
   simp(maxSteps:=600000) [d9,e1,e2]
 simp only[cond_true]
 refine⟨oR 4 ((s.items.filter (sU r)).map XItem.e),(by cases(s.items.filter (sU r)).map XItem.e with|nil=>exact .inr ⟨rfl,rfl⟩|cons q qs=>exact .inl rfl),?_⟩
 refine aa (fn:=d9) rfl ?_
 simp(maxSteps:=600000) [d9,e2]
 refine hJ bX Cl.fin s.items.length [.f,.f,.t,.t,.t,.f,.t,.t,.f,.f,.f,.f,.f,.f,.f,.f,.f,.f,.f,.f,.f,.f,.f,.f,.f,.f,.f,.f,.f,.f,.f,.f,.f,.f,.f,.f,.f,.f,.f,.f,.f,.f,.f,.f,.f,.f,.f,.f,.f,.f,.f,.f,.f] (fun k=>[(7,ae .i64 k)]) (fun k=>J7 (.box [.pv (.str s.name), .pv (.lst (s.items.map XItem.e)), .pv (.int .i64 s.auto)]) (.box [.pv (.bool r.hasLow), .pv (.bool r.hasHigh), .pv (.int .i64 r.low.kind), .pv (.int .i64 r.low.n), .pv (.str r.low.text), .pv (.int .i64 r.high.kind), .pv (.int .i64 r.high.n), .pv (.str r.high.text)]) (.box [.pv (.str []), .nil, .pv (.int .i64 0)]) (.pv (.str s.name)) (.pv (.int .i64 s.auto)) (((s.items.take k).filter (sU r)).map XItem.e)) rfl (Kn.of [0,1,2,3] (by decide) (by simp[J7]) (by simp)) (fun k hk=> ?_) ?_
 ·have hx:=XItem.e.eq_1 s.items[k]
  have hxo:=hi _ (Zf hk)
  have e3:=qe hB hxo
  have e4:=yr (XKey.Ok.mono (show B≤maxLen by unfold maxLen;omega) hxo.1) hr
  have hf:=zQ (p:=sU r) hk
  have hlen:((s.items.take k).filter (sU r)).length≤k:=Zc (List.length_filter_le _ _) (by rw[Zw];omega)
  have hp:sU r s.items[k]= !(Kd s.items[k].key r):=rfl
  rw[hf,List.map_append,hp]
  generalize hW:((s.items.take k).filter (sU r)).map XItem.e=W
  have hWl:W.length≤k:=by rw[←hW,Zv];exact hlen
  have m1:=gx (m:=W.length+1) (z:=56) (by omega) (by omega)
  clear hW hlen hf w1
  cases q1:Kd s.items[k].key r<;>rw[q1]at e4
  ·cases W with
   |nil=>
    simp(maxSteps:=600000) [J7,dh,hk,hx,e3,e4,m1,bw hlm hk,bU hk,-bY]
    exact Kn.of [0,1,2,3,5] (by decide) (by simp) (by simp)
   |cons w ws=>
    simp only[Zo]at m1
    simp(maxSteps:=600000) [J7,dh,hk,hx,e3,e4,m1,bw hlm hk,bU hk,-bY]
    exact Kn.of [0,1,2,3,6] (by decide) (by simp) (by simp)
  ·cases W with
   |nil=>simp(maxSteps:=600000) [J7,dh,hk,hx,e4,bw hlm hk,bU hk]
   |cons w ws=>simp(maxSteps:=600000) [J7,dh,hk,hx,e4,bw hlm hk,bU hk]
 ·rw[List.take_length]
  have hW:((s.items.filter (sU r)).map XItem.e).length=(s.items.filter (sU r)).length:=by simp
  rw[←hW]at w1⊢
  generalize (s.items.filter (sU r)).map XItem.e=W at w1⊢
  cases W with
  |nil=>
   have w2:IntKind.i64.wrap (s.items.length:Int)=(s.items.length:Int):=by rw[IntKind.wrap_i64];omega
   simp(maxSteps:=600000) [J7,dh,n5,w2,oR]
  |cons w ws=>
   simp only[Zo]at w1
   push_cast at w1
   simp(maxSteps:=600000) [J7,dh,n5,w1,oR]
end Gi
