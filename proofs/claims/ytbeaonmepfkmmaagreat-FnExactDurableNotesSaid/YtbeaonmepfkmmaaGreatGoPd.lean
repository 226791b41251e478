/- Of this proof. -/
import Derived.Test.YtbeaonmepfkmmaaGreatGkgd
set_option linter.unusedSimpArgs false
set_option linter.unusedVariables false
namespace Gi
open Go Go.RowKit
set_option maxHeartbeats 8000000
set_option maxRecDepth 4000
attribute [local simp] start pa a9 b6 cP dS cO dR d5 dZ pR p5 pS p6 pT p7 pU p8 pV p9 pW qa pX qb pY qc pZ qd V.cells plain bf fO isInt isStr isBool bin bN gA bO gB dV un asList L.view av V.view viewL aR aw bS bq bE comp aK bv cL bK bj bh bi aB aq aH am az aW ap aY bH aI bm bo V.flat L.flat cX cN br putAt thaw thawL thawT V.ow dY cR cS bQ dX bR cQ freezeVs freezeLs freezeL V.mut L.mut aJ cy fQ aX bu aP dN co bG cJ L.ren aM dd bP dq bF bB wp_seq wp_block aV cV bT bt bU wp_skip wp_exit wp_ret ce b9 ct cf cF cG cE bJ aL L.notArr bA bw bz cT b8 storeD aT eS bc bZ aU mf L.mov L.closed V.closed PV.bare PV.flat
theorem mL {j:Nat}:bX (j:Int) 0=false:=fK (by omega)
theorem HS (s:XStore)(k:XKey):t8 s k=cond (k.kind==1&&(bX s.auto k.n&& !(bX 1000000 k.n))) k.n s.auto:=by
 have e3:decide (1000000<k.n)= !(decide (k.n≤1000000)):=by rw[Bool.eq_iff_iff];simp
 have e4:(k.kind==1)=decide (k.kind=1):=by rw[Bool.eq_iff_iff];simp
 unfold t8 bX
 rw[e3,e4]
 by_cases h1:k.kind=1<;>by_cases h2:s.auto<k.n<;>by_cases h3:k.n≤1000000<;>simp[h1,h2,h3]
abbrev oQ (x:XStore×Bool):V:= .tup [(true,[.pv (.str x.1.name),m9 4 (x.1.items.map XItem.e), .pv (.int .i64 x.1.auto)]),(false,[.pv (.bool x.2)])]
theorem IQ (s:XStore)(k:XKey)(r:XRecord):(nW s k r).map XItem.e=(s.items.map XItem.e).take (tV s.items k)++([.int .i64 k.kind, .int .i64 k.n, .str k.text, .lst (r.fs.map XField.e)]::(s.items.map XItem.e).drop (tV s.items k)):=by simp[nW,XItem.e]
theorem Gq {B:Nat}{s:XStore}(h:s.Ok B){k:XKey}(hk:k.Ok B){r:XRecord}(hr:r.Ok B):(nW s k r).length≤B+1∧∀x∈nW s k r,x.Ok (B+1):=by
 obtain⟨_,⟨h1,h2⟩,_⟩:=h
 have:=wH s.items k
 refine⟨by simp[nW];omega,fun x hx=>XItem.Ok.mono (A:=B) (by omega) ?_⟩
 unfold nW at hx
 rw[List.mem_append,List.mem_cons]at hx
 rcases hx with hx|rfl|hx
 ·exact h2 x (List.mem_of_mem_take hx)
 ·exact⟨hk,hr⟩
 ·exact h2 x (List.mem_of_mem_drop hx)
theorem GV {B:Nat}{s:XStore}(h:s.Ok B){k:XKey}(hk:k.Ok B){r:XRecord}(hr:r.Ok B)(j:Nat):(s.items.set j ⟨k,r⟩).length≤B∧∀x∈s.items.set j ⟨k,r⟩,x.Ok B:=by
 obtain⟨_,⟨h1,h2⟩,_⟩:=h
 refine⟨by simpa using h1,fun x hx=> ?_⟩
 rcases List.mem_or_eq_of_mem_set hx with hx|rfl
 ·exact h2 x hx
 ·exact⟨hk,hr⟩
theorem HU {s:XStore}{k:XKey}(h1:iy s.auto)(h2:iy k.n):iy (t8 s k):=by unfold t8;split<;>assumption
theorem nG {B:Nat}(hB:B≤1048576){s:XStore}(h:s.Ok B){k:XKey}(hk:k.Ok B){r:XRecord}(hr:r.Ok B):ah Ph aN 342 [s.v,k.v,r.v]=some (oQ (ph s k r)):=by
 have hM:B+1≤maxLen:=by unfold maxLen;omega
 have hl:s.items.length≤1048576:=Nat.le_trans h.2.1.1 hB
 have e1:=gL hB h
 have e2:=iS (XStore.Ok.mono (by omega) h)
 have e3:=fT (XKey.Ok.mono (by omega) hk)
 have e4:=mK (s:=s) (by unfold maxLen;omega) k
 have e5:=kW hB hr
 have O:=tH 4 (s.items.map XItem.e)
 unfold ph
 refine ae (fn:=gq) rfl ?_
 cases c1:d7 s<;>rw[c1]at e2
 ·rcases O with⟨_,q1,q2⟩|⟨_,q1,q2⟩<;>rw[q1]at e1<;>simp(maxSteps:=9999999) [gq,e1,e2,q2]
 cases c2:eZ k<;>rw[c2]at e3
 ·rcases O with⟨_,q1,q2⟩|⟨_,q1,q2⟩<;>rw[q1]at e1<;>simp(maxSteps:=9999999) [gq,e1,e2,e3,q2]
 rcases wa (pd k) s.items with hf|⟨j,hj,hf,hq⟩<;>rw[hf]at e4⊢
 ·have e6:∀a,a=t8 s k→ah Ph aN 354 [XStore.v ⟨s.name,nW s k r,a⟩]=some (aD (cI r.fs&&decide (s.items.length+1≤16))):=fun a ha=>by
   subst ha
   rw[←IS (r:=r) c1 c2 hf]
   exact iS (s:=⟨s.name,nW s k r,t8 s k⟩) ⟨Nat.le_trans h.1 (by omega),⟨Nat.le_trans (Gq h hk hr).1 (by omega),fun x hx=>XItem.Ok.mono (by omega) ((Gq h hk hr).2 x hx)⟩,HU h.2.2 hk.2.1⟩
  have hA:=HS s k
  obtain⟨g1,h1⟩:∃g,(k.kind==1)=g:=⟨_,rfl⟩
  rw[h1]at hA
  have hL:(16≤s.items.length)=(decide (s.items.length+1≤16)=false):=by simp;omega
  have hins:=IQ s k r
  have hp:=wH s.items k
  have b1:= @GI s.items k
  have b2:= @GH s.items k
  have m1:=iz (m:=s.items.length+1) (z:=56) (by omega) (by omega)
  have O2:=tH 4 ((nW s k r).map XItem.e)
  rcases O2 with⟨q,_⟩|⟨_,_,q3⟩
  ·rw[hins]at q;simp at q
  simp only[hL]
  generalize nW s k r=F at e6 hins q3⊢
  generalize tV s.items k=p at hins hp b1 b2
  generalize decide (s.items.length+1≤16)=d at e6 hL⊢
  have l0:bX (-1) 0=true:=rfl
  have l00:bX 0 0=false:=rfl
  rcases O with⟨q0,q1,q2⟩|⟨q0,q1,q2⟩<;>rw[q1]at e1
  ·have hnil:s.items=[]:=by simpa using q0
   rw[hnil]at hins hp
   have hp0:p=0:=by simpa using hp
   subst hp0
   simp only[List.map_nil,List.take_nil,List.drop_nil,List.nil_append]at hins
   simp(maxSteps:=9999999) [gq,e1,e2,e3,e4,l0]
   rw[iU]
   have e1':=e1
   rw[hnil,List.map_nil]at e1'
   have q2':m9 4 []= .nil:=rfl
   have hF:F.length=1:=by have:=congrArg List.length hins;simpa using this
   cases c4:cI r.fs<;>rw[c4]at e6<;>cases d<;>simp +contextual (maxSteps:=9999999) [fV,e1,e1',q2',e2,e3,e4,e5,hnil,l00,q2,hF,←hins,e6,hA,h1,q3]
  ·simp(maxSteps:=9999999) [gq,e1,e2,e3,e4,l0]
   refine bD cC Cl.fin [.f,.f,.f,.t,.t,.t,.t,.f,.t,.f,.t,.f,.f,.f,.f,.f,.f,.f,.f,.f,.f,.f,.f,.f,.f,.f,.f,.f,.f,.f,.f,.f,.f,.f,.f,.f,.f,.f,.f,.f,.f,.f,.f,.f,.f,.f,.f,.f,.f,.f,.f,.f,.f,.f,.f,.f,.f,.f,.f,.f,.f,.f,.f,.f,.f,.f,.f,.f,.f,.f,.f,.f,.f,.f,.f,.f,.f,.f,.f,.f,.f,.f,.f,.f,.f,.f,.f] (fun k=>[(10,aa .i64 k)]) p (fun _=>false) rfl (by simp) (fun j hj _=> ?_) (fun _ _=> ?_)
   ·have hj2:j<s.items.length:=by omega
    have l1:=dW (b1 hj hj2)
    have e7:=eM (XKey.Ok.mono (by omega) (h.2.1.2 _ (List.getElem_mem hj2)).1) (XKey.Ok.mono (by omega) hk)
    simp +contextual (maxSteps:=9999999) [fV,hj2,l1,e7,bW (n:=s.items.length) (by unfold maxLen;omega) hj2,cB hj2,XItem.e.eq_1 s.items[j]]
   ·by_cases hlt:p<s.items.length
    ·have l1:=fK (Int.not_lt.1 (b2 hlt))
     have hx:=XItem.e.eq_1 s.items[p]
     have e7:=eM (XKey.Ok.mono (by omega) (h.2.1.2 _ (List.getElem_mem hlt)).1) (XKey.Ok.mono (by omega) hk)
     cases c4:cI r.fs<;>rw[c4]at e6<;>cases d<;>simp +contextual (maxSteps:=9999999) [fV,hlt,hx,l1,e7,hp,m1,cB hlt,e1,e2,e3,e4,e5,q2,←hins,e6,hA,h1,q3]
    ·obtain rfl:p=s.items.length:=by omega
     have hm2:(s.items.map XItem.e).take s.items.length++[[.int .i64 k.kind, .int .i64 k.n, .str k.text, .lst (r.fs.map XField.e)]]=F.map XItem.e:=by rw[hins];simp
     have hd:(s.items.map XItem.e).drop s.items.length=[]:=List.drop_eq_nil_of_le (by simp)
     cases c4:cI r.fs<;>rw[c4]at e6<;>cases d<;>simp +contextual (maxSteps:=9999999) [fV,m1,e1,e2,e3,e4,e5,q2,hd, ↓hm2,e6,hA,h1,q3]
 ·have hkj:=KP.1 hq
  have hx:=XItem.e.eq_1 s.items[j]
  have hm:(s.items.map XItem.e).set j [.int .i64 s.items[j].key.kind, .int .i64 s.items[j].key.n, .str s.items[j].key.text, .lst (r.fs.map XField.e)]=(s.items.set j ⟨k,r⟩).map XItem.e:=by rw[List.map_set,hkj];rfl
  have e6:=iS (s:=⟨s.name,s.items.set j ⟨k,r⟩,s.auto⟩) ⟨Nat.le_trans h.1 (by omega),⟨Nat.le_trans (GV h hk hr j).1 (by omega),fun x hx=>XItem.Ok.mono (by omega) ((GV h hk hr j).2 x hx)⟩,h.2.2⟩
  rw[IT c1 hj hkj]at e6
  have hne:s.items.map XItem.e≠[]:=by intro e;have:=congrArg List.length e;simp only[List.length_map,List.length_nil]at this;omega
  have O2:=tH 4 ((s.items.set j ⟨k,r⟩).map XItem.e)
  rw[←hm]at O2
  rcases O with⟨q,_⟩|⟨_,q1,q2⟩
  ·exact absurd q hne
  rcases O2 with⟨q,_⟩|⟨_,_,q3⟩
  ·exact absurd (by simpa using q) hne
  rw[hm]at q3
  rw[q1]at e1
  simp only[Int.toNat_natCast]
  generalize s.items.set j ⟨k,r⟩=F at hm e6 q3⊢
  cases c3:cI r.fs<;>rw[c3]at e6<;>simp(maxSteps:=9999999) [gq,e1,e2,e3,e4,e5,e6,q2,q3,hm,hx,hj,mL]
theorem nJ {B:Nat}(hB:B≤1048576){s:XStore}(h:s.Ok B){k:XKey}(hk:k.Ok B){r:XRecord}(hr:r.Ok B):ah Ph aN 339 [s.v,k.v,r.v]=some (oQ (ph s k r)):=by
 have hM:B+1≤maxLen:=by unfold maxLen;omega
 have hl:s.items.length≤1048576:=Nat.le_trans h.2.1.1 hB
 have e1:=iv hB h
 have e2:=nI (XStore.Ok.mono (by omega) h)
 have e3:=eu (XKey.Ok.mono (by omega) hk)
 have e4:=jQ (s:=s) (by unfold maxLen;omega) k
 have e5:=oU hB hr
 have e8:=fj (XRecord.Ok.mono (show B≤maxLen by omega) hr)
 have O:=tH 4 (s.items.map XItem.e)
 unfold ph
 refine ae (fn:=eD) rfl ?_
 cases c1:d7 s<;>rw[c1]at e2
 ·rcases O with⟨_,q1,q2⟩|⟨_,q1,q2⟩<;>rw[q1]at e1<;>simp(maxSteps:=9999999) [eD,e1,e2,q2]
 cases c2:eZ k<;>rw[c2]at e3
 ·rcases O with⟨_,q1,q2⟩|⟨_,q1,q2⟩<;>rw[q1]at e1<;>simp(maxSteps:=9999999) [eD,e1,e2,e3,q2]
 cases c3:cI r.fs<;>rw[c3]at e8
 ·rcases O with⟨_,q1,q2⟩|⟨_,q1,q2⟩<;>rw[q1]at e1<;>simp(maxSteps:=9999999) [eD,e1,e2,e3,e8,q2]
 have l0:bX (-1) 0=true:=rfl
 rcases wa (pd k) s.items with hf|⟨j,hj,hf,hq⟩<;>rw[hf]at e4⊢
 ·by_cases h16:16≤s.items.length
  ·have l16:bX (s.items.length:Int) 16=false:=fK (by omega)
   rcases O with⟨q,q1,q2⟩|⟨_,q1,q2⟩
   ·have:=congrArg List.length q;simp only[List.length_map,List.length_nil]at this;omega
   rw[q1]at e1
   simp(maxSteps:=9999999) [eD,e1,e2,e3,e4,e8,l0,l16,h16,q2]
  have l16:bX (s.items.length:Int) 16=true:=dW (by omega)
  rw[if_neg (by decide),if_neg h16]
  have hA:=HS s k
  obtain⟨g1,h1⟩:∃g,(k.kind==1)=g:=⟨_,rfl⟩
  rw[h1]at hA
  have hr1:bX s.auto 0=false∧bX 1000000 s.auto=false:=by
   simp only[d7,rg,Bool.and_eq_true,Bool.not_eq_true']at c1
   exact c1.2.2.2
  have ha1:IntKind.i64.wrap (s.auto+1)=s.auto+1:=by
   have q1:=of_decide_eq_false hr1.1
   have q2:=of_decide_eq_false hr1.2
   rw[IntKind.wrap_i64];omega
  have ha2:bX k.n (s.auto+1)= !(bX s.auto k.n):=by unfold bX;rw[Bool.eq_iff_iff];simp;omega
  have e9:=fP k.n (s.auto+1) 1000000
  rw[rg,ha2]at e9
  have hins:=IQ s k r
  have hp:=wH s.items k
  have b1:= @GI s.items k
  have b2:= @GH s.items k
  have O2:=tH 4 ((nW s k r).map XItem.e)
  rcases O2 with⟨q,_⟩|⟨_,_,q3⟩
  ·rw[hins]at q;simp at q
  generalize nW s k r=F at hins q3⊢
  generalize tV s.items k=p at hins hp b1 b2
  have m1:=iz (m:=s.items.length+1) (z:=56) (by omega) (by omega)
  have m2:=iz (m:=p) (z:=56) (by omega) (by omega)
  have m3:=iz (m:=p+1) (z:=56) (by omega) (by omega)
  have w2:((s.items.map XItem.e).take p).all (fun e=>e.length==4)=true:=by rw[←List.map_take];exact gS (e:=XItem.e) (z:=4) (fun _=>rfl) _
  have w3:((s.items.map XItem.e).drop p).all (fun e=>e.length==4)=true:=by rw[←List.map_drop];exact gS (e:=XItem.e) (z:=4) (fun _=>rfl) _
  have t1:List.take (s.items.length-p) ((s.items.map XItem.e).drop p)=(s.items.map XItem.e).drop p:=List.take_of_length_le (by simp)
  have t2:p+1+(s.items.length-p)=s.items.length+1:=by omega
  have w4:=gS (e:=XItem.e) (z:=4) (fun _=>rfl) s.items
  rcases O with⟨q0,q1,q2⟩|⟨q0,q1,q2⟩<;>rw[q1]at e1
  ·have hnil:s.items=[]:=by simpa using q0
   rw[hnil]at hins hp
   have hp0:p=0:=by simpa using hp
   subst hp0
   simp only[List.map_nil,List.take_nil,List.drop_nil,List.nil_append]at hins
   simp(maxSteps:=9999999) [eD,e1,e2,e3,e4,e8,l0,l16]
   rw[iU]
   have l00:bX 0 0=false:=rfl
   have hF:F.length=1:=by have:=congrArg List.length hins;simpa using this
   have wF:∀x:XItem,x.e.length=4:=fun _=>rfl
   simp +contextual (maxSteps:=9999999) [fY,e5,hnil,l00,hF,wF,←hins,hA,h1,q3,ha1,e9]<;>(cases g1<;>cases bX s.auto k.n<;>cases bX 1000000 k.n<;>simp)
  ·simp(maxSteps:=9999999) [eD,e1,e2,e3,e4,e8,l0,l16]
   refine bD cC Cl.fin [.f,.f,.f,.t,.t,.t,.t,.f,.t,.f,.t,.f,.f,.f,.f,.f,.f,.f,.f,.f,.f,.f,.f,.f,.f,.f,.f,.f,.f,.f,.f,.f,.f,.f,.f,.f,.f,.f,.f,.f,.f,.f,.f,.f,.f,.f,.f,.f,.f,.f,.f,.f,.f,.f,.f,.f,.f,.f,.f,.f,.f,.f,.f,.f,.f,.f,.f,.f,.f,.f,.f,.f,.f,.f,.f,.f,.f,.f,.f,.f,.f,.f,.f,.f,.f,.f,.f,.f,.f,.f,.f,.f,.f,.f,.f,.f,.f,.f,.f,.f] (fun k=>[(10,aa .i64 k)]) p (fun _=>false) rfl (by simp) (fun j hj _=> ?_) (fun _ _=> ?_)
   ·have hj2:j<s.items.length:=by omega
    have l1:=dW (b1 hj hj2)
    have e7:=eN (XKey.Ok.mono (show B≤maxLen by omega) (h.2.1.2 _ (List.getElem_mem hj2)).1) (XKey.Ok.mono (by omega) hk)
    simp +contextual (maxSteps:=9999999) [fY,hj2,l1,e7,bW (n:=s.items.length) (by unfold maxLen;omega) hj2,cB hj2,XItem.e.eq_1 s.items[j]]
   ·by_cases hlt:p<s.items.length
    ·have l1:=fK (Int.not_lt.1 (b2 hlt))
     have hx:=XItem.e.eq_1 s.items[p]
     have e7:=eN (XKey.Ok.mono (show B≤maxLen by omega) (h.2.1.2 _ (List.getElem_mem hlt)).1) (XKey.Ok.mono (by omega) hk)
     simp +contextual (maxSteps:=9999999) [fY,hlt,hx,l1,e7,hp,m1,m2,m3,w2,w3,w4,t1,t2,cB hlt,e5,←hins,hA,h1,q3,ha1,e9]<;>(cases g1<;>cases bX s.auto k.n<;>cases bX 1000000 k.n<;>simp)
    ·obtain rfl:p=s.items.length:=by omega
     have hm2:(s.items.map XItem.e).take s.items.length++[[.int .i64 k.kind, .int .i64 k.n, .str k.text, .lst (r.fs.map XField.e)]]=F.map XItem.e:=by rw[hins];simp
     have hd:(s.items.map XItem.e).drop s.items.length=[]:=List.drop_eq_nil_of_le (by simp)
     have hF:F.length=s.items.length+1:=by have:=congrArg List.length hm2;simpa using this.symm
     simp +contextual (maxSteps:=9999999) [fY,m1,m2,m3,w2,w3,w4,e5,hd, ↓hm2,hF,hA,h1,q3,ha1,e9]<;>(cases g1<;>cases bX s.auto k.n<;>cases bX 1000000 k.n<;>simp)
 ·have hkj:=KP.1 hq
  have hx:=XItem.e.eq_1 s.items[j]
  have hm:(s.items.map XItem.e).set j [.int .i64 s.items[j].key.kind, .int .i64 s.items[j].key.n, .str s.items[j].key.text, .lst (r.fs.map XField.e)]=(s.items.set j ⟨k,r⟩).map XItem.e:=by rw[List.map_set,hkj];rfl
  have hne:s.items.map XItem.e≠[]:=by intro e;have:=congrArg List.length e;simp only[List.length_map,List.length_nil]at this;omega
  have O2:=tH 4 ((s.items.set j ⟨k,r⟩).map XItem.e)
  rw[←hm]at O2
  rcases O with⟨q,_⟩|⟨_,q1,q2⟩
  ·exact absurd q hne
  rcases O2 with⟨q,_⟩|⟨_,_,q3⟩
  ·exact absurd (by simpa using q) hne
  rw[hm]at q3
  rw[q1]at e1
  simp only[Int.toNat_natCast]
  generalize s.items.set j ⟨k,r⟩=F at hm q3⊢
  simp(maxSteps:=9999999) [eD,e1,e2,e3,e4,e5,e8,q2,q3,hm,hx,hj,mL]
def zQ (s:XStore)(k:XKey)(r:XRecord):XStore×Bool:=if 0≤dE (pd k) s.items then(s,false)else ph s k r
def Jx (s:XStore):List L:=[.pv (.str s.name),kI (s.items.map XItem.e), .pv (.int .i64 s.auto)]
theorem qH (x:XStore×Bool):cX (oQ x)= .tup [(true,Jx x.1),(false,[.pv (.bool x.2)])]:=by simp[cX, ↓aY,cN,Jx]
theorem GU (s:XStore):cX (.agg [.pv (.str s.name),nd 4 (s.items.map XItem.e), .pv (.int .i64 s.auto)])= .agg (Jx s):=by simp[cX, ↓bH,cN,Jx]
theorem AC {B:Nat}(hB:B≤1048576){s:XStore}(h:s.Ok B){k:XKey}(hk:k.Ok B){r:XRecord}(hr:r.Ok B):ah Ph aN 604 [s.v,k.v,r.v]=some (.tup [(true,Jx (zQ s k r).1),(false,[.pv (.bool (zQ s k r).2)])]):=by
 have hl:s.items.length≤1048576:=Nat.le_trans h.2.1.1 hB
 have e1:=gL hB h
 have e2:=mK (s:=s) (by unfold maxLen;omega) k
 have e3:=nG hB h hk hr
 have e4:=qH (ph s k r)
 have e5:=GU s
 have b1:(!(bX (dE (pd k) s.items) 0))=decide (0≤dE (pd k) s.items):=by unfold bX;by_cases q:0≤dE (pd k) s.items<;>simp[q];omega
 unfold zQ
 generalize oQ (ph s k r)=pr at*
 generalize ph s k r=p at*
 generalize dE (pd k) s.items=i at*
 generalize hn:(V.agg [.pv (.str s.name),nd 4 (s.items.map XItem.e), .pv (.int .i64 s.auto)])=nv at*
 simp only[Jx]at e4 e5⊢
 by_cases q:0≤i
 ·refine ae (fn:=jr) rfl ?_
  simp(maxSteps:=9999999) [jr,e1,e2,b1,q, ↓e5, ↓az, ↓aq]
 ·refine ae (fn:=jr) rfl ?_
  simp(maxSteps:=9999999) [jr,e2,e3,b1,q, ↓e4, ↓az, ↓aq]
theorem AL {B:Nat}(hB:B≤1048576){s:XStore}(h:s.Ok B){k:XKey}(hk:k.Ok B){r:XRecord}(hr:r.Ok B):ah Ph aN 601 [s.v,k.v,r.v]=some (.tup [(true,Jx (zQ s k r).1),(false,[.pv (.bool (zQ s k r).2)])]):=by
 have hl:s.items.length≤1048576:=Nat.le_trans h.2.1.1 hB
 have e1:=iv hB h
 have e2:=jQ (s:=s) (by unfold maxLen;omega) k
 have e3:=nJ hB h hk hr
 have e4:=qH (ph s k r)
 have e5:=GU s
 have b1:(!(bX (dE (pd k) s.items) 0))=decide (0≤dE (pd k) s.items):=by unfold bX;by_cases q:0≤dE (pd k) s.items<;>simp[q];omega
 unfold zQ
 generalize oQ (ph s k r)=pr at*
 generalize ph s k r=p at*
 generalize dE (pd k) s.items=i at*
 generalize hn:(V.agg [.pv (.str s.name),nd 4 (s.items.map XItem.e), .pv (.int .i64 s.auto)])=nv at*
 simp only[Jx]at e4 e5⊢
 by_cases q:0≤i
 ·refine ae (fn:=jv) rfl ?_
  simp(maxSteps:=9999999) [jv,e1,e2,b1,q, ↓e5, ↓az, ↓aq]
 ·refine ae (fn:=jv) rfl ?_
  simp(maxSteps:=9999999) [jv,e2,e3,b1,q, ↓e4, ↓az, ↓aq]
def kd (s:XStore)(k:XKey):XRecord:=match s.items[(dE (pd k) s.items).toNat]? with
 |some x=>if 0≤dE (pd k) s.items then x.rcd else⟨[]⟩
 |none=>⟨[]⟩
theorem Ma {α:Type}{p:α→Bool}{xs:List α}(h:0≤dE p xs):(dE p xs).toNat<xs.length:=by
 rcases wa p xs with e|⟨k,hk,e,_⟩
 ·rw[e]at h;omega
 ·rw[e];simpa using hk
theorem GM {s:XStore}{k:XKey}(h:0≤dE (pd k) s.items):∃x,s.items[(dE (pd k) s.items).toNat]? =some x∧kd s k=x.rcd:=by
 refine⟨_,List.getElem?_eq_getElem (Ma h),?_⟩
 unfold kd;rw[List.getElem?_eq_getElem (Ma h)];simp only[if_pos h]
theorem MH {s:XStore}{k:XKey}(h:¬0≤dE (pd k) s.items):kd s k=⟨[]⟩:=by
 unfold kd;split<;>simp[h]
theorem CW {B:Nat}{s:XStore}(h:s.Ok B)(k:XKey):(kd s k).Ok B:=by
 unfold kd
 split
 ·rename_i x e
  split
  ·exact(h.2.1.2 x (List.mem_of_getElem? e)).2
  ·exact⟨Nat.zero_le _,fun f m=>by simp at m⟩
 ·exact⟨Nat.zero_le _,fun f m=>by simp at m⟩
theorem P7 {B:Nat}(hB:16≤B){fs:List XField}(h:cI fs=true):(⟨fs⟩:XRecord).Ok B:=by
 obtain⟨h1,h2⟩:=mP (r:=⟨fs⟩) h
 simp only at h1 h2
 refine⟨by simp only;omega,fun f m=> ?_⟩
 obtain⟨q1,q2,q3⟩:=h2 f m
 exact⟨by omega,by unfold iy;omega⟩
theorem GR {B:Nat}(hB:16≤B){r:XRecord}(h:r.Ok B)(nm:List UInt8)(n:Int):(⟨(setR r.fs nm n).1⟩:XRecord).Ok B:=by
 unfold setR
 cases c:cI r.fs&&cI (rR r.fs nm n)with
 |false=>exact h
 |true=>
  rw[Bool.and_eq_true]at c
  exact P7 hB c.2
theorem GL {B:Nat}(hB:17≤B){s:XStore}(h:s.Ok B){k:XKey}(hk:k.Ok B){r:XRecord}(hr:r.Ok B):(ph s k r).1.Ok B:=by
 unfold ph
 cases d7 s&&(eZ k&&cI r.fs)with
 |false=>exact h
 |true=>
  simp only[cond_true]
  split
  ·exact⟨h.1,GV h hk hr _,h.2.2⟩
  ·split
   ·exact h
   ·rename_i hl
    have hin:=Gq h hk hr
    have hlen:(nW s k r).length=s.items.length+1:=by
     have:=wH s.items k
     simp[nW];omega
    refine⟨h.1,⟨by simp only;omega,fun x m=> ?_⟩,HU h.2.2 hk.2.1⟩
    simp only[nW,List.mem_append,List.mem_cons]at m
    rcases m with m|rfl|m
    ·exact h.2.1.2 x (List.mem_of_mem_take m)
    ·exact⟨hk,hr⟩
    ·exact h.2.1.2 x (List.mem_of_mem_drop m)
theorem Jw (x:List XField×Bool):cX (vi x)= .tup [(true,[.pv (.lst (x.1.map XField.e))]),(false,[.pv (.bool x.2)])]:=by simp[cX,cN]
def Ed (s:XStore)(k:XKey)(f:List UInt8):Int:=IntKind.i64.wrap ((lI (kd s k).fs f).1+1)
def uW (s:XStore)(k:XKey)(f:List UInt8):List XField×Bool:=setR (kd s k).fs f (Ed s k f)
def wy (s:XStore)(k:XKey)(f:List UInt8):XStore×Bool:=ph s k ⟨(uW s k f).1⟩
theorem IN (n:Int):iy (IntKind.i64.wrap n):=by rw[IntKind.wrap_i64];unfold iy;omega
theorem El {B:Nat}(hB0:17≤B)(hB:B≤1048576){s:XStore}(h:s.Ok B){k:XKey}(hk:k.Ok B){f:List UInt8}(hf0:f.length≤B):ah Ph aN 603 [s.v,k.v,dv f]=some (.tup [(true,Jx (wy s k f).1),(false,[.pv (.int .i64 (Ed s k f))]),(false,[.pv (.bool ((uW s k f).2&&(wy s k f).2))])]):=by
 have hl:s.items.length≤1048576:=Nat.le_trans h.2.1.1 hB
 have hrc:=CW h k
 have e2:=jQ (s:=s) (by unfold maxLen;omega) k
 have e8:ah Ph aN 186 [.agg [.pv (.lst ((kd s k).fs.map XField.e))],dv f]=some (Se (lI (kd s k).fs f)):=gh (r:=kd s k) (by have:=hrc.1;unfold maxLen;omega) f
 have e3:ah Ph aN 338 [.agg [.pv (.lst ((kd s k).fs.map XField.e))],dv f,aa .i64 (Ed s k f)]=some (vi (uW s k f)):=yT hB hrc hf0 (IN _)
 have e4:ah Ph aN 339 [s.v,k.v, .agg [.pv (.lst ((uW s k f).1.map XField.e))]]=some (oQ (wy s k f)):=nJ hB h hk (GR (by omega) hrc _ _)
 have e5:=qH (wy s k f)
 have e7:=Jw (uW s k f)
 have hw:IntKind.i64.wrap ((lI (kd s k).fs f).1+1)=Ed s k f:=rfl
 have b1:(!(bX (dE (pd k) s.items) 0))=decide (0≤dE (pd k) s.items):=by unfold bX;by_cases q:0≤dE (pd k) s.items<;>simp[q];omega
 have ht:=GM (s:=s) (k:=k)
 have hf:=MH (s:=s) (k:=k)
 generalize oQ (wy s k f)=pr at*
 generalize wy s k f=p at*
 generalize vi (uW s k f)=rr at*
 generalize uW s k f=sr at*
 generalize Ed s k f=n1 at*
 generalize kd s k=rc at*
 generalize lI rc.fs f=g at*
 generalize dE (pd k) s.items=i at*
 simp only[Jx]at e5⊢
 obtain⟨fs1,b⟩:=sr
 obtain⟨p1,pb⟩:=p
 obtain⟨gn,gb⟩:=g
 simp only at e3 e4 e5 e7 e8 hw⊢
 by_cases q:0≤i
 ·obtain⟨x,hi,hx⟩:=ht q
  have hw0:=XItem.e.eq_1 x
  rw[←hx]at hw0
  have hm:(s.items.map XItem.e)[i.toNat]? =some x.e:=by rw[List.getElem?_map,hi];rfl
  refine ae (fn:=lF) rfl ?_
  cases b<;>simp(maxSteps:=600000) [lF,e2,e3,e4,e8,hw,b1,q,hm,hw0, ↓e5, ↓e7, ↓az, ↓aq, ↓aB, ↓am]
 ·have hx:=hf q
  rw[hx]at e3 e8
  simp only[List.map_nil]at e3 e8
  refine ae (fn:=lF) rfl ?_
  cases b<;>simp(maxSteps:=600000) [lF,e2,e3,e4,e8,hw,b1,q, ↓e5, ↓e7, ↓az, ↓aq, ↓aB, ↓am]
theorem NY {α:Type}{p:α→Bool}{xs:List α}{k:Nat}(h:k<xs.length):(xs.take (k+1)).filter p=(xs.take k).filter p++(if p xs[k]then [xs[k]]else []):=by
 rw[List.take_succ_eq_append_getElem h,List.filter_append];congr 1;simp[List.filter_cons]
def rz (r:XRange)(x:XItem):Bool:= !(IP x.key r)
def qr (s:XStore)(r:XRange):XStore×Int:=bif d7 s then(⟨s.name,s.items.filter (rz r),s.auto⟩,(s.items.length:Int)-((s.items.filter (rz r)).length:Nat))else(s,0)
theorem Su {call:Nat→List V→Option V}{c:Nat}{caps:List V}{p:XItem→Bool}:∀{xs:List XItem},(∀x∈xs,call c (.agg (x.e.map .pv)::caps)=some (aD (p x)))→eE call c caps (xs.map XItem.e)=some ((xs.filter fun x=> !p x).map XItem.e)
 |[],_=>rfl
 |x::xs,h=>by
  have ih:=Su (xs:=xs) fun y hy=>h y (List.mem_cons_of_mem _ hy)
  have hx:=h x List.mem_cons_self
  rw[List.map_cons,eE,hx,ih]
  cases hp:p x<;>simp[aD,List.filter_cons,hp]
def TM (z:Nat)(l:L)(rows:List (List PV)):Prop:=l= .own z rows∨(l= .nil∧rows=[])
theorem F6 (r:XRange)(xs:List XItem):(xs.filter (rz r)).length≤xs.length:=List.length_filter_le _ _
theorem nN {B:Nat}(hB:B≤1048576){s:XStore}(h:s.Ok B){r:XRange}(hr:r.Ok):∃l,TM 4 l ((qr s r).1.items.map XItem.e)∧ah Ph aN 605 [s.v,r.v]=some (.tup [(true,[.pv (.str (qr s r).1.name),l, .pv (.int .i64 (qr s r).1.auto)]),(false,[.pv (.int .i64 (qr s r).2)])]):=by
 have hl:s.items.length≤1048576:=Nat.le_trans h.2.1.1 hB
 have e1:=gL hB h
 have e2:=iS (XStore.Ok.mono (show B≤maxLen by unfold maxLen;omega) h)
 have O:=zx 4 (s.items.map XItem.e)
 have c2:eE (ah Ph aN) 608 [su [.bool r.hasLow, .bool r.hasHigh, .int .i64 r.low.kind, .int .i64 r.low.n, .str r.low.text, .int .i64 r.high.kind, .int .i64 r.high.n, .str r.high.text]] (s.items.map XItem.e)=some ((s.items.filter (rz r)).map XItem.e):=Su (p:=fun x=>IP x.key r) fun x hx=>by
  have e4:=wv (XKey.Ok.mono (show B≤maxLen by unfold maxLen;omega) (h.2.1.2 x hx).1) hr
  refine ae (fn:=jt) rfl ?_
  simp(maxSteps:=600000) [jt,XItem.e.eq_1 x,su,e4]
 have hf:=F6 r s.items
 have w1:IntKind.i64.wrap ((s.items.length:Int)-((s.items.filter (rz r)).length:Nat))=(s.items.length:Int)-((s.items.filter (rz r)).length:Nat):=by rw[IntKind.wrap_i64];omega
 have w2:IntKind.i64.wrap (s.items.length:Int)=(s.items.length:Int):=by rw[IntKind.wrap_i64];omega
 unfold qr
 cases c1:d7 s<;>rw[c1]at e2
 ·simp only[cond_false]
  rcases O with⟨q0,q1⟩|⟨q0,q1⟩<;>rw[q1]at e1
  ·refine⟨_, .inr ⟨rfl,q0⟩,?_⟩
   refine ae (fn:=dh) rfl ?_
   simp(maxSteps:=600000) [dh,e1,e2]
  ·refine⟨_, .inl rfl,?_⟩
   refine ae (fn:=dh) rfl ?_
   simp(maxSteps:=600000) [dh,e1,e2]
 ·simp only[cond_true]
  rcases O with⟨q0,q1⟩|⟨q0,q1⟩<;>rw[q1]at e1
  ·have q2:s.items=[]:=by simpa using q0
   refine⟨_, .inr ⟨rfl,by rw[q2];rfl⟩,?_⟩
   refine ae (fn:=dh) rfl ?_
   have hfl:(s.items.filter (rz r)).length=0:=by rw[q2];rfl
   simp(maxSteps:=600000) [dh,e1,e2,kH,pn,nk,hfl,w2]
  ·refine⟨_, .inl rfl,?_⟩
   refine ae (fn:=dh) rfl ?_
   simp(maxSteps:=600000) [dh,e1,e2,c2,kH,pn,yP,nk,w1]
def II (b0 b1 b2:AObj)(y0 y2:L):List (List PV)→List AObj
 |[]=>[b0,b1,b2, .box [y0, .nil,y2]]
 |q::qs=>[b0,b1,b2, .box [y0, .arr 4,y2], .arr 4 (q::qs)]
theorem nQ {B:Nat}(hB:B≤1048576){s:XStore}(h:s.Ok B){r:XRange}(hr:r.Ok):∃l,TM 4 l ((qr s r).1.items.map XItem.e)∧ah Ph aN 602 [s.v,r.v]=some (.tup [(true,[.pv (.str (qr s r).1.name),l, .pv (.int .i64 (qr s r).1.auto)]),(false,[.pv (.int .i64 (qr s r).2)])]):=by
 have hl:s.items.length≤1048576:=Nat.le_trans h.2.1.1 hB
 have hlm:s.items.length≤maxLen:=by unfold maxLen;omega
 have e1:=iv hB h
 have e2:=nI (XStore.Ok.mono (show B≤maxLen by unfold maxLen;omega) h)
 have O:=zx 4 (s.items.map XItem.e)
 have hi:=h.2.1.2
 have hf:=F6 r s.items
 have w1:IntKind.i64.wrap ((s.items.length:Int)-((s.items.filter (rz r)).length:Nat))=(s.items.length:Int)-((s.items.filter (rz r)).length:Nat):=by rw[IntKind.wrap_i64];omega
 unfold qr
 cases c1:d7 s<;>rw[c1]at e2
 ·simp only[cond_false]
  rcases O with⟨q0,q1⟩|⟨q0,q1⟩<;>rw[q1]at e1
  ·refine⟨_, .inr ⟨rfl,q0⟩,?_⟩
   refine ae (fn:=d8) rfl ?_
   simp(maxSteps:=600000) [d8,e1,e2]
  ·refine⟨_, .inl rfl,?_⟩
   refine ae (fn:=d8) rfl ?_
   simp(maxSteps:=600000) [d8,e1,e2]
 simp only[cond_true]
 refine⟨m9 4 ((s.items.filter (rz r)).map XItem.e),(by cases(s.items.filter (rz r)).map XItem.e with|nil=>exact .inr ⟨rfl,rfl⟩|cons q qs=>exact .inl rfl),?_⟩
 refine ae (fn:=d8) rfl ?_
 simp(maxSteps:=600000) [d8,e2]
 refine kj cC Cl.fin s.items.length [.f,.f,.t,.t,.t,.f,.t,.t,.f,.f,.f,.f,.f,.f,.f,.f,.f,.f,.f,.f,.f,.f,.f,.f,.f,.f,.f,.f,.f,.f,.f,.f,.f,.f,.f,.f,.f,.f,.f,.f,.f,.f,.f,.f,.f,.f,.f,.f,.f,.f,.f,.f,.f] (fun k=>[(7,aa .i64 k)]) (fun k=>II (.box [.pv (.str s.name), .pv (.lst (s.items.map XItem.e)), .pv (.int .i64 s.auto)]) (.box [.pv (.bool r.hasLow), .pv (.bool r.hasHigh), .pv (.int .i64 r.low.kind), .pv (.int .i64 r.low.n), .pv (.str r.low.text), .pv (.int .i64 r.high.kind), .pv (.int .i64 r.high.n), .pv (.str r.high.text)]) (.box [.pv (.str []), .nil, .pv (.int .i64 0)]) (.pv (.str s.name)) (.pv (.int .i64 s.auto)) (((s.items.take k).filter (rz r)).map XItem.e)) rfl (Kn.of [0,1,2,3] (by decide) (by simp[II]) (by simp)) (fun k hk=> ?_) ?_
 ·have hx:=XItem.e.eq_1 s.items[k]
  have hxo:=hi _ (List.getElem_mem hk)
  have e3:=oV hB hxo
  have e4:=wW (XKey.Ok.mono (show B≤maxLen by unfold maxLen;omega) hxo.1) hr
  have hf:=NY (p:=rz r) hk
  have hlen:((s.items.take k).filter (rz r)).length≤k:=Nat.le_trans (List.length_filter_le _ _) (by rw[List.length_take];omega)
  have hp:rz r s.items[k]= !(IP s.items[k].key r):=rfl
  rw[hf,List.map_append,hp]
  generalize hW:((s.items.take k).filter (rz r)).map XItem.e=W
  have hWl:W.length≤k:=by rw[←hW,List.length_map];exact hlen
  have m1:=iz (m:=W.length+1) (z:=56) (by omega) (by omega)
  clear hW hlen hf w1
  cases q1:IP s.items[k].key r<;>rw[q1]at e4
  ·cases W with
   |nil=>
    simp(maxSteps:=600000) [II,de,hk,hx,e3,e4,m1,bW hlm hk,cB hk,-cy]
    exact Kn.of [0,1,2,3,5] (by decide) (by simp) (by simp)
   |cons w ws=>
    simp only[List.length_cons]at m1
    simp(maxSteps:=600000) [II,de,hk,hx,e3,e4,m1,bW hlm hk,cB hk,-cy]
    exact Kn.of [0,1,2,3,6] (by decide) (by simp) (by simp)
  ·cases W with
   |nil=>simp(maxSteps:=600000) [II,de,hk,hx,e4,bW hlm hk,cB hk]
   |cons w ws=>simp(maxSteps:=600000) [II,de,hk,hx,e4,bW hlm hk,cB hk]
 ·rw[List.take_length]
  have hW:((s.items.filter (rz r)).map XItem.e).length=(s.items.filter (rz r)).length:=by simp
  rw[←hW]at w1⊢
  generalize (s.items.filter (rz r)).map XItem.e=W at w1⊢
  cases W with
  |nil=>
   have w2:IntKind.i64.wrap (s.items.length:Int)=(s.items.length:Int):=by rw[IntKind.wrap_i64];omega
   simp(maxSteps:=600000) [II,de,nk,w2,m9]
  |cons w ws=>
   simp only[List.length_cons]at w1
   push_cast at w1
   simp(maxSteps:=600000) [II,de,nk,w1,m9]
end Gi
