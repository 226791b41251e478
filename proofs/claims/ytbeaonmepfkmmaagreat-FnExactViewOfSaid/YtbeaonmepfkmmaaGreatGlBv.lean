/- Of this proof. -/
import Derived.Test.YtbeaonmepfkmmaaGreatGlHv
import Derived.Test.YtbeaonmepfkmmaaGreatGoRv
import Derived.Test.YtbeaonmepfkmmaaGreatGkdv
import Derived.Test.YtbeaonmepfkmmaaGreatGoEv
import Derived.Test.YtbeaonmepfkmmaaGreatGkhv
set_option linter.unusedSimpArgs false
set_option linter.unusedVariables false
namespace Gi
open Go Go.RowKit
set_option maxHeartbeats 8000000
set_option maxRecDepth 4000
attribute [local simp] start nY bo cj cE dE cD dD dJ dI pa pp pd pq pe pt pf pw pg px ph py pj pz pk pA pm pB V.cells plain bi fT isInt isStr isBool bin bK fR bL fS dF un asList L.view az V.view viewL aS aA bO bg bJ comp aM bA cz bI bc a9 ba av aj aE ai au aQ aq aY bC aD bd bf V.flat L.flat cT cS bq putAt thaw thawL thawT V.ow dH cG cH bM dG bN cF freezeVs freezeLs freezeL V.mut L.mut aI bY fu aZ bB aP dL cf bE cy L.ren aO cX bR cZ bG bD wp_seq wp_block aT cJ bP bh bQ wp_skip wp_exit wp_ret ca b7 ce cd cr ct cq bH aL L.notArr bu br bt cI b6 storeD aV ep a8 bW aU lV L.mov L.closed V.closed PV.bare PV.flat
theorem QS (b:List UInt8):(tG b).1.Ok 1048576:=by
 have z:(⟨0,0,[]⟩:XKey).Ok 1048576:=⟨by simp[ii],by simp[ii],by simp⟩
 unfold tG
 split
 ·exact z
 ·split
  ·rename_i k _ h
   obtain⟨h1,h2,h3,h4,_,h6⟩:=rY h
   exact⟨by simp only[ii];omega,by simp only[ii];omega,by simp only;omega⟩
  ·exact z
theorem QU (b:List UInt8):(u0 b).1.Ok 1048576:=by
 have z:(⟨[]⟩:XRecord).Ok 1048576:=⟨by simp,fun f h=>by simp at h⟩
 unfold u0
 split
 ·exact z
 ·split
  ·rename_i r k _ h
   obtain⟨h1,h2⟩:=o9 h.2
   refine⟨by simp only;omega,fun f m=> ?_⟩
   obtain⟨q1,q2,q3⟩:=h2 f m
   exact⟨by omega,by unfold ii;omega⟩
  ·exact z
theorem GL {m:Nat×Nat×Nat×Nat}:∀(n:Nat)(b:List UInt8)(l:List Raw),mG m n b=some l→∀r∈l,r.kind≤1000000000000
 |0,b,l,h=>by
  simp only[mG,Option.some.injEq]at h
  subst h
  simp
 |n+1,b,l,h=>by
  unfold mG at h
  split at h
  ·cases h
  ·rename_i r k e
   split at h
   ·cases h
   ·rename_i l' e2
    simp only[Option.some.injEq]at h
    subst h
    intro x q
    rcases Z6.1 q with rfl|q
    ·exact(Co e).2.2.1
    ·exact GL n _ _ e2 x q
theorem CO (b:List UInt8):(∀o∈(lh mO b).1,o.Ok 1048576)∧(lh mO b).1.length≤maxLen:=by
 unfold lh jS
 cases e:sB b with
 |none=>exact⟨by simp,by simp⟩
 |some p=>
  obtain⟨n,k⟩:=p
  simp only
  by_cases hn:n≤6
  ·rw[if_pos hn]
   cases e2:mG mO n (b.drop k)with
   |none=>exact⟨by simp,by simp⟩
   |some l=>
    simp only
    by_cases c:ku (l.map kh)=b
    ·rw[if_pos c]
     obtain⟨g1,g2,_⟩:=yf _ _ _ e2
     have g3:=GL _ _ _ e2
     refine⟨fun o ho=> ?_,by simp only[Zv];unfold maxLen;omega⟩
     obtain⟨r,hr,rfl⟩:=List.mem_map.1 ho
     obtain⟨f1,f2,f3,f4⟩:=g2 r hr
     have:=g3 r hr
     simp only at f1 f4
     exact⟨by simp only[kh,ii];omega,by simp only[kh];omega,QS _,QU _,by simp only[kh];omega⟩
    ·rw[if_neg c];exact⟨by simp,by simp⟩
  ·rw[if_neg hn];exact⟨by simp,by simp⟩
def xZ :List (List UInt8)→XDatabase→XDatabase
 |[],d=>d
 |b::L,d=>bif (lh mO b).2 then xZ L (MG d (lh mO b).1).1 else d
def Il :List (List UInt8)→Nat→Nat
 |[],n=>n
 |b::L,n=>bif (lh mO b).2 then Il L (n+1)else n
def wA (L:List (List UInt8))(a:Nat×XDatabase):Option (Nat×XDatabase):=match L[a.1]? with
 |some b=>bif (lh mO b).2 then some (a.1+1,(MG a.2 (lh mO b).1).1)else none
 |none=>none
def UH (L:List (List UInt8))(d:XDatabase)(a:Nat×XDatabase):Prop:=a.1≤L.length∧xZ L d=xZ (L.drop a.1) a.2∧Il L 0=Il (L.drop a.1) a.1
theorem TR (L:List (List UInt8))(d:XDatabase):UH L d (0,d):=⟨Nat.zero_le _,rfl,rfl⟩
theorem Ku {L:List (List UInt8)}{d:XDatabase}{k:Nat}{dk:XDatabase}{b:Nat×XDatabase}(ia:UH L d (k,dk))(h:wA L (k,dk)=some b):
 ∃hk:k<L.length,(lh mO L[k]).2=true∧b=(k+1,(MG dk (lh mO L[k]).1).1)∧L.length-b.1<L.length-k∧UH L d b:=by
 obtain⟨h1,h2,h3⟩:=ia
 simp only at h1 h2 h3
 by_cases hk:k<L.length
 ·unfold wA at h
  simp only[Zl hk]at h
  cases q:(lh mO L[k]).2<;>rw[q]at h<;>simp only[cond_true,cond_false]at h
  ·cases h
  ·cases h
   rw[List.drop_eq_getElem_cons hk]at h2 h3
   simp only[xZ,Il,q,cond_true]at h2 h3
   exact⟨hk,q,rfl,by simp only;omega,by simp only;omega,h2,h3⟩
 ·unfold wA at h
  simp only[List.getElem?_eq_none (Nat.not_lt.1 hk)]at h
  cases h
theorem NZ {L:List (List UInt8)}{d:XDatabase}{k:Nat}{dk:XDatabase}(ia:UH L d (k,dk))(h:wA L (k,dk)=none):
 (k=L.length∧xZ L d=dk∧Il L 0=L.length)∨∃hk:k<L.length,(lh mO L[k]).2=false∧xZ L d=dk∧Il L 0=k:=by
 obtain⟨h1,h2,h3⟩:=ia
 simp only at h1 h2 h3
 by_cases hk:k<L.length
 ·unfold wA at h
  simp only[Zl hk]at h
  cases q:(lh mO L[k]).2<;>rw[q]at h<;>simp only[cond_true,cond_false]at h
  ·rw[List.drop_eq_getElem_cons hk]at h2 h3
   simp only[xZ,Il,q,cond_false]at h2 h3
   exact .inr ⟨hk,q,h2,h3⟩
  ·cases h
 ·obtain rfl:k=L.length:=by omega
  rw[List.drop_length]at h2 h3
  exact .inl ⟨rfl,h2,h3⟩
theorem Cj :∀(L:List (List UInt8)){d:XDatabase},d.Ok 1048576→(xZ L d).Ok 1048576
 |[],_,h=>h
 |b::L,d,h=>by
  simp only[xZ]
  cases(lh mO b).2<;>simp only[cond_true,cond_false]
  ·exact h
  ·exact Cj L (MH (by omega) h (CO b).1)
theorem zT {k:XDisk}(h:k.Ok 1048576):ah Ph aH 548 [k.v]=some (.tup [(true,Be (xZ (qw k.log).2 k.base)),(false,[.pv (.int .i64 (Il (qw k.log).2 0:Nat))])]):=by
 obtain⟨hb,hlog,hcnt⟩:=h
 have e1:=jQ (Zk 1048576) hb
 have e2:=yl k.base
 have e3:=BS hlog
 obtain⟨v1,v2,v3⟩:=NR k.log
 unfold PM at e3
 simp only[Be]at e2⊢
 generalize hL:(qw k.log).2=L at*
 generalize (qw k.log).1=lend at*
 generalize V.agg [.pv (.str k.base.name), .pv (.int .i64 k.base.version),nd 3 (k.base.stores.map XStore.e), .down 2 (k.base.unique.map XIndexDef.e)]=nv at*
 have hLm:L.length≤maxLen:=by unfold maxLen;omega
 refine aa (fn:=od) rfl ?_
 simp(maxSteps:=600000) [od,e1, ↓e2,e3, ↓au, ↓aj, ↓av, ↓ai, ↓aE, ↓aq]
 refine oC bX Cl.fin [.f,.f,.t,.f,.t,.t,.f,.f,.f,.f,.f,.f,.f,.f,.f,.f,.f,.f,.f,.f,.t,.t,.t,.f,.f,.f,.f,.f,.f,.f,.f,.f,.f,.f,.f,.f,.f,.f,.f,.f,.f,.f,.f,.f,.f,.f,.f] (fun a=>[(22,ae .i64 (a.1:Nat))]) (fun a=>[.box [.pv (.str k.base.name), .pv (.int .i64 k.base.version), .pv (.lst (k.base.stores.map XStore.e)), .pv (.lst (k.base.unique.map XIndexDef.e)), .pv (.lst (ag k.log)), .pv (.int .i64 k.count)], .box [.pv (.str []), .pv (.int .i64 0), .nil, .nil], .box [.pv (.str a.2.name), .pv (.int .i64 a.2.version),lf (a.2.stores.map XStore.e), .pv (.lst (a.2.unique.map XIndexDef.e))]]) (wA L) (fun a=>L.length-a.1) (fun a=>UH L k.base a∧a.2.Ok 1048576) (0,k.base) ⟨TR L k.base,hb⟩ rfl ?_ (fun a a' ia ha=> ?_) (fun a ia ha=> ?_)
 ·exact Kn.of [0,1,2] (by decide) (by simp[↓aQ]) (by simp)
 ·obtain⟨j,dk⟩:=a
  obtain⟨ia,iok⟩:=ia
  obtain⟨hk,q1,rfl,q2,q3⟩:=Ku ia ha
  simp only at iok q1 hk⊢
  have hd:=CO L[j]
  refine⟨q2,⟨q3,MH (by omega) iok hd.1⟩,?_⟩
  have e5:=qE (b:=L[j]) (by have:=v3 _ (Zf hk);omega)
  have e6:=DW (by omega) (Zk 1048576) iok hd.1 hd.2
  unfold mX at e5
  rw[q1]at e5
  simp only[cond_true]at e5
  simp only[Qw,Be]at e6
  generalize (MG dk (lh mO L[j]).1).1=d1 at*
  generalize (MG dk (lh mO L[j]).1).2.1=n1 at*
  generalize (MG dk (lh mO L[j]).1).2.2=b1 at*
  generalize (lh mO L[j]).1=ops at*
  have hx:Hg L[j]=[.lst (ag L[j])]:=rfl
  have wk:=bw hLm hk
  have lk:=bU hk
  clear ia ha q1 q2 q3 hd v3
  simp(maxSteps:=600000) [gQ,hk,hx,e5,e6,wk,lk, ↓aD, ↓au, ↓aj, ↓av, ↓ai, ↓aE, ↓aq,-bY]
  exact Kn.of [0,1,2] (by decide) (by simp[↓aQ]) (by simp)
 ·obtain⟨j,dk⟩:=a
  obtain⟨ia,iok⟩:=ia
  simp only at iok⊢
  rcases NZ ia ha with⟨hk,q1,q2⟩|⟨hk,q0,q1,q2⟩
  ·rw[q1,q2]
   subst hk
   have lk:b9 (L.length:Int) (L.length:Int)=false:=fG (by omega)
   simp(maxSteps:=600000) [gQ,lk, ↓aD, ↓au, ↓aj, ↓av, ↓ai, ↓aE, ↓aq]
  ·rw[q1,q2]
   have e5:=qE (b:=L[j]) (by have:=v3 _ (Zf hk);omega)
   unfold mX at e5
   rw[q0]at e5
   simp only[cond_false]at e5
   have hx:Hg L[j]=[.lst (ag L[j])]:=rfl
   have lk:=bU hk
   clear ia ha q0 q1 q2 v3
   simp(maxSteps:=600000) [gQ,hk,hx,e5,lk, ↓aD, ↓au, ↓aj, ↓av, ↓ai, ↓aE, ↓aq]
theorem Ap {k:XDisk}(h:k.Ok 1048576):ah Ph aH 547 [k.v]=some (.tup [(true,Be (xZ (qw k.log).2 k.base)),(false,[.pv (.int .i64 (Il (qw k.log).2 0:Nat))])]):=by
 obtain⟨hb,hlog,hcnt⟩:=h
 have e1:=qg (Zk 1048576) hb
 have e2:=yl k.base
 have e3:=B5 hlog
 obtain⟨v1,v2,v3⟩:=NR k.log
 unfold PM at e3
 simp only[Be]at e2⊢
 generalize hL:(qw k.log).2=L at*
 generalize (qw k.log).1=lend at*
 generalize V.agg [.pv (.str k.base.name), .pv (.int .i64 k.base.version),nd 3 (k.base.stores.map XStore.e), .down 2 (k.base.unique.map XIndexDef.e)]=nv at*
 have hLm:L.length≤maxLen:=by unfold maxLen;omega
 refine aa (fn:=ou) rfl ?_
 simp(maxSteps:=600000) [ou,e1, ↓e2,e3, ↓au, ↓aj, ↓av, ↓ai, ↓aE, ↓aq]
 refine oC bX Cl.fin [.f,.f,.t,.f,.t,.t,.f,.t,.f,.f,.f,.f,.f,.f,.f,.f,.f,.f,.f,.f,.f,.f,.f,.f,.f,.f,.f,.f,.f,.f,.f,.f,.f,.f,.f,.f,.f,.f,.f,.f,.f,.f,.f,.f,.f,.f,.f,.f,.f,.f,.f] (fun a=>[(7,ae .i64 (a.1:Nat))]) (fun a=>[.box [.pv (.str k.base.name), .pv (.int .i64 k.base.version), .pv (.lst (k.base.stores.map XStore.e)), .pv (.lst (k.base.unique.map XIndexDef.e)), .pv (.lst (ag k.log)), .pv (.int .i64 k.count)], .box [.pv (.str []), .pv (.int .i64 0), .nil, .nil], .box [.pv (.str a.2.name), .pv (.int .i64 a.2.version),lf (a.2.stores.map XStore.e), .pv (.lst (a.2.unique.map XIndexDef.e))]]) (wA L) (fun a=>L.length-a.1) (fun a=>UH L k.base a∧a.2.Ok 1048576) (0,k.base) ⟨TR L k.base,hb⟩ rfl ?_ (fun a a' ia ha=> ?_) (fun a ia ha=> ?_)
 ·exact Kn.of [0,1,2] (by decide) (by simp[↓aQ]) (by simp)
 ·obtain⟨j,dk⟩:=a
  obtain⟨ia,iok⟩:=ia
  obtain⟨hk,q1,rfl,q2,q3⟩:=Ku ia ha
  simp only at iok q1 hk⊢
  have hd:=CO L[j]
  refine⟨q2,⟨q3,MH (by omega) iok hd.1⟩,?_⟩
  have e5:=qI (b:=L[j]) (by have:=v3 _ (Zf hk);omega)
  have e6:=EA (by omega) (Zk 1048576) iok hd.1 hd.2
  unfold mX at e5
  rw[q1]at e5
  simp only[cond_true]at e5
  simp only[Qw,Be]at e6
  generalize (MG dk (lh mO L[j]).1).1=d1 at*
  generalize (MG dk (lh mO L[j]).1).2.1=n1 at*
  generalize (MG dk (lh mO L[j]).1).2.2=b1 at*
  generalize (lh mO L[j]).1=ops at*
  have hx:Hg L[j]=[.lst (ag L[j])]:=rfl
  have wk:=bw hLm hk
  have lk:=bU hk
  clear ia ha q1 q2 q3 hd v3
  simp(maxSteps:=600000) [gS,hk,hx,e5,e6,wk,lk, ↓aD, ↓au, ↓aj, ↓av, ↓ai, ↓aE, ↓aq,-bY]
  exact Kn.of [0,1,2] (by decide) (by simp[↓aQ]) (by simp)
 ·obtain⟨j,dk⟩:=a
  obtain⟨ia,iok⟩:=ia
  simp only at iok⊢
  rcases NZ ia ha with⟨hk,q1,q2⟩|⟨hk,q0,q1,q2⟩
  ·rw[q1,q2]
   subst hk
   have lk:b9 (L.length:Int) (L.length:Int)=false:=fG (by omega)
   simp(maxSteps:=600000) [gS,lk, ↓aD, ↓au, ↓aj, ↓av, ↓ai, ↓aE, ↓aq]
  ·rw[q1,q2]
   have e5:=qI (b:=L[j]) (by have:=v3 _ (Zf hk);omega)
   unfold mX at e5
   rw[q0]at e5
   simp only[cond_false]at e5
   have hx:Hg L[j]=[.lst (ag L[j])]:=rfl
   have lk:=bU hk
   clear ia ha q0 q1 q2 v3
   simp(maxSteps:=600000) [gS,hk,hx,e5,lk, ↓aD, ↓au, ↓aj, ↓av, ↓ai, ↓aE, ↓aq]
def Cc :List L:=[.pv (.str []), .pv (.str []), .pv (.str []), .pv (.int .i64 0), .pv (.int .i64 0), .pv (.int .i64 0), .nil, .pv (.str []), .pv (.int .i64 0), .nil, .nil, .nil, .pv (.int .i64 0), .pv (.str []), .nil, .pv (.int .i64 0), .pv (.int .i64 0), .pv (.int .i64 0), .pv (.int .i64 0), .nil, .pv (.int .i64 0), .pv (.int .i64 0), .pv (.int .i64 0), .pv (.bool false)]
theorem rV {c0 c1 c2 c4 c5 c6 c7 c8 c9:PV}{bs:List XBucket}(h:bs.length≤maxLen)(s t:List UInt8):ah Ph aH 146 [.agg [.pv c0, .pv c1, .pv c2, .pv (.lst (bs.map XBucket.e)), .pv c4, .pv c5, .pv c6, .pv c7, .pv c8, .pv c9],cU s,cU t]=some (match bs.find? (Ja s t)with
 |some x=> .tup [(true,x.e.map .pv),(false,[.pv (.bool true)])]
 |none=> .tup [(true,Cc),(false,[.pv (.bool false)])]):=by
 have e1:=wh h s t
 have hff:(dv (Ja s t) bs= -1∧bs.find? (Ja s t)=none)∨∃j,∃hj:j<bs.length,dv (Ja s t) bs=(j:Int)∧bs.find? (Ja s t)=some bs[j]:=by
  unfold dv
  cases h:bs.findIdx? (Ja s t)with
  |none=>exact .inl ⟨rfl,by rw[List.findIdx?_eq_none_iff]at h;rw[List.find?_eq_none];exact fun x hx=>by simp[h x hx]⟩
  |some i=>
   rw[List.findIdx?_eq_some_iff_getElem]at h
   obtain⟨h1,h2,h3⟩:=h
   exact .inr ⟨i,h1,rfl,by rw[List.find?_eq_some_iff_getElem];exact⟨h2,i,h1,rfl,fun j hj=>by simpa using h3 j hj⟩⟩
 refine aa (fn:=kV) rfl ?_
 rcases hff with⟨h1,h2⟩|⟨j,hj,h1,h2⟩<;>rw[h1]at e1<;>rw[h2]
 ·simp(maxSteps:=9999999) [kV,e1,Cc,show b9 (-1) 0=true from rfl]
 ·have hx:=XBucket.e.eq_1 bs[j]
  simp(maxSteps:=9999999) [kV,e1,hj,hx,show b9 (j:Int) 0=false from fG (by omega)]
def R9 :XStore:=⟨[],[],0⟩
def LW (b:XBucket):XStore:=match(xZ (qw b.disk.log).2 b.disk.base).stores.find? (H6 [110,111,116,101,115])with
 |some st=>st
 |none=>R9
def CU (w:XWorld)(s t:List UInt8):XStore:=match w.storage.buckets.find? (Ja s t)with
 |some b=>LW b
 |none=>R9
abbrev UL (x:XStore):V:= .agg [.pv (.str x.name),nd 4 (x.items.map XItem.e), .pv (.int .i64 x.auto)]
theorem Gx {rows:List (List PV)}(h:rows≠[]):lf rows= .pv (.lst rows):=by
 cases rows with
 |nil=>exact absurd rfl h
 |cons r rs=>rfl
theorem Sa :R9.Ok 1048576:=⟨by simp[R9],⟨by simp[R9],fun x h=>by simp[R9]at h⟩,by simp[R9,ii]⟩
theorem SO {b:XBucket}(h:b.Ok 1048576):(LW b).Ok 1048576:=by
 unfold LW
 have:=Cj (qw b.disk.log).2 h.2.2.2.2.1.1
 split
 ·rename_i st hst
  exact this.2.2.1.2 _ (List.mem_of_find?_eq_some hst)
 ·exact Sa
theorem SP {w:XWorld}(h:w.Ok 1048576)(s t:List UInt8):(CU w s t).Ok 1048576:=by
 unfold CU
 split
 ·rename_i b hb
  exact SO (h.2.2.1.2 _ (List.mem_of_find?_eq_some hb))
 ·exact Sa
theorem tQ {w:XWorld}(h:w.Ok 1048576)(s t:List UInt8):ah Ph aH 538 [w.v,cU s,cU t]=some (UL (CU w s t)):=by
 have hbl:w.storage.buckets.length≤maxLen:=Zc h.2.2.1.1 (by unfold maxLen;omega)
 have e1:ah Ph aH 146 [w.v,cU s,cU t]=some _:=rV (bs:=w.storage.buckets) hbl s t
 unfold CU
 cases hb:w.storage.buckets.find? (Ja s t)with
 |none=>
  rw[hb]at e1
  simp only[Cc]at e1
  refine aa (fn:=df) rfl ?_
  simp(maxSteps:=9999999) [df,e1,R9,nd]
 |some b=>
  rw[hb]at e1
  have hbo:=h.2.2.1.2 _ (List.mem_of_find?_eq_some hb)
  have hx:=XBucket.e.eq_1 b
  simp only[hx,Zu,Z4]at e1
  have e2:=zT hbo.2.2.2.2.1
  have hd:=Cj (qw b.disk.log).2 hbo.2.2.2.2.1.1
  show ah Ph aH 538 [w.v,cU s,cU t]=some (UL (LW b))
  unfold LW
  simp only[Be]at e2
  generalize xZ (qw b.disk.log).2 b.disk.base=d at*
  have e3:=mC (d:=d) (Zc hd.2.2.1.1 (by unfold maxLen;omega)) [110,111,116,101,115]
  rcases o6 (H6 [110,111,116,101,115]) d.stores with⟨q1,q2⟩|⟨j,hj,q1,q2⟩<;>rw[q1]at e3<;>rw[q2]
  ·have l0:b9 (-1) 0=true:=rfl
   refine aa (fn:=df) rfl ?_
   simp(maxSteps:=9999999) [df,e1,e2,e3,l0,R9,nd, ↓aD, ↓au, ↓aj, ↓av, ↓ai, ↓aE, ↓aq]
  ·show ah Ph aH 538 [w.v,cU s,cU t]=some (.agg [.pv (.str d.stores[j].name),nd 4 (d.stores[j].items.map XItem.e), .pv (.int .i64 d.stores[j].auto)])
   have e4:=eF (Zk 1048576) (hd.2.2.1.2 _ (Zf hj))
   have hs:=XStore.e.eq_1 d.stores[j]
   rw[Gx (rows:=d.stores.map XStore.e) (fun e=>by have:=congrArg List.length e;simp at this;simp[this]at hj)]at e2
   have N:=AS 4 (d.stores[j].items.map XItem.e)
   generalize nd 4 (d.stores[j].items.map XItem.e)=nn at*
   have l0:b9 (j:Int) 0=false:=fG (by omega)
   rcases N with⟨_,rfl⟩|⟨_,rfl⟩
   ·refine aa (fn:=df) rfl ?_
    simp(maxSteps:=9999999) [df,e1,e2,e3,e4,hj,hs,l0]
   ·refine aa (fn:=df) rfl ?_
    simp(maxSteps:=9999999) [df,e1,e2,e3,e4,hj,hs,l0]
theorem uh {w:XWorld}(h:w.Ok 1048576)(s t:List UInt8):ah Ph aH 537 [w.v,cU s,cU t]=some (UL (CU w s t)):=by
 have hbl:w.storage.buckets.length≤maxLen:=Zc h.2.2.1.1 (by unfold maxLen;omega)
 have e1:=qc (bs:=w.storage.buckets) hbl s t
 unfold CU
 rcases o6 (Ja s t) w.storage.buckets with⟨p1,p2⟩|⟨i,hi,p1,p2⟩<;>rw[p1]at e1<;>rw[p2]
 ·have l0:b9 (-1) 0=true:=rfl
  refine aa (fn:=dg) rfl ?_
  simp(maxSteps:=9999999) [dg,e1,l0,R9,nd]
 ·have hbo:=h.2.2.1.2 _ (Zf hi)
  have hx:=XBucket.e.eq_1 w.storage.buckets[i]
  have e2:=Ap hbo.2.2.2.2.1
  have hd:=Cj (qw w.storage.buckets[i].disk.log).2 hbo.2.2.2.2.1.1
  have li:b9 (i:Int) 0=false:=fG (by omega)
  show ah Ph aH 537 [w.v,cU s,cU t]=some (UL (LW w.storage.buckets[i]))
  unfold LW
  simp only[Be]at e2
  generalize xZ (qw w.storage.buckets[i].disk.log).2 w.storage.buckets[i].disk.base=d at*
  have e3:=mJ (d:=d) (Zc hd.2.2.1.1 (by unfold maxLen;omega)) [110,111,116,101,115]
  rcases o6 (H6 [110,111,116,101,115]) d.stores with⟨q1,q2⟩|⟨j,hj,q1,q2⟩<;>rw[q1]at e3<;>rw[q2]
  ·have l0:b9 (-1) 0=true:=rfl
   refine aa (fn:=dg) rfl ?_
   simp(maxSteps:=9999999) [dg,e1,e2,e3,hi,hx,li,l0,R9,nd, ↓aD, ↓au, ↓aj, ↓av, ↓ai, ↓aE, ↓aq]
  ·show ah Ph aH 537 [w.v,cU s,cU t]=some (.agg [.pv (.str d.stores[j].name),nd 4 (d.stores[j].items.map XItem.e), .pv (.int .i64 d.stores[j].auto)])
   have e4:=fB (Zk 1048576) (hd.2.2.1.2 _ (Zf hj))
   have hs:=XStore.e.eq_1 d.stores[j]
   rw[Gx (rows:=d.stores.map XStore.e) (fun e=>by have:=congrArg List.length e;simp at this;simp[this]at hj)]at e2
   have N:=AS 4 (d.stores[j].items.map XItem.e)
   generalize nd 4 (d.stores[j].items.map XItem.e)=nn at*
   have l0:b9 (j:Int) 0=false:=fG (by omega)
   rcases N with⟨_,rfl⟩|⟨_,rfl⟩
   ·refine aa (fn:=dg) rfl ?_
    simp(maxSteps:=9999999) [dg,e1,e2,e3,e4,hi,hx,li,hj,hs,l0]
   ·refine aa (fn:=dg) rfl ?_
    simp(maxSteps:=9999999) [dg,e1,e2,e3,e4,hi,hx,li,hj,hs,l0]
theorem GQ {z:Nat}{r:List (List PV)}:cT (.one (.own z r))=aR r:=rfl
def iK {α:Type}(f:α→Nat)(xs:List α):Nat:=(xs.map f).sum
theorem nR {α:Type}{f:α→Nat}{xs:List α}{k:Nat}(hk:k<xs.length):iK f (xs.take (k+1))=iK f (xs.take k)+f xs[k]:=by
 unfold iK;rw[Zx hk,List.map_append,List.sum_append];simp
theorem rj {α:Type}{f:α→Nat}{c:Nat}(h:∀x,f x≤c):∀(xs:List α),iK f xs≤c*xs.length
 |[]=>by simp[iK]
 |x::xs=>by
  have:=rj h xs
  have:=h x
  simp only[iK,Zu,List.sum_cons,Zo,Nat.mul_add]at*
  omega
def ud (x:XItem):Nat:=(ik x.key).length+(kA x.rcd).length
theorem mI (x:XItem):ud x≤110:=by have:=rI x.key;have:=tH x.rcd;unfold ud;omega
def lU (s:XStore):Nat:=iK ud s.items
theorem qF {s:XStore}(h:s.Ok 1048576):ah Ph aH 197 [s.v]=some (ae .i64 (lU s:Nat)):=by
 refine aa (fn:=m9) rfl ?_
 simp +contextual (maxSteps:=9999999) [m9]
 refine bm bX Cl.fin [.f,.f,.f,.t,.f,.f,.f,.t,.t,.t,.f,.f,.f,.f,.f,.f,.f,.f,.f,.f,.f,.f,.f,.f,.f,.f] (fun k=>[(3,ae .i64 (iK ud (s.items.take k):Nat)),(9,ae .i64 k)]) s.items.length (fun _=>false) rfl (by simp[iK]) (fun k hk _=> ?_) (fun _ _=> ?_)
 ·have hx:=XItem.e.eq_1 s.items[k]
  have hi:=XItem.Ok.mono (B:=maxLen) (by unfold maxLen;omega) (h.2.1.2 _ (Zf hk))
  have e1:=jA hi.1
  have e2:=jP hi.2
  have l1:=rI s.items[k].key
  have l2:=tH s.items[k].rcd
  have l3:=rj mI (s.items.take k)
  have l4:(s.items.take k).length≤1048576:=by rw[Zw];have:=h.2.1.1;omega
  have ht:iK ud (s.items.take (k+1))=iK ud (s.items.take k)+((ik s.items[k].key).length+(kA s.items[k].rcd).length):=nR hk
  rw[ht]
  generalize iK ud (s.items.take k)=A at l3⊢
  have g:=qb s.items[k].rcd
  generalize tg s.items[k].rcd=W at e2 g
  have q1:(ag (ik s.items[k].key)).length=(ik s.items[k].key).length:=al
  have q2:(ag (kA s.items[k].rcd)).length=(kA s.items[k].rcd).length:=al
  generalize (ik s.items[k].key).length=a at l1 q1⊢
  generalize (kA s.items[k].rcd).length=b at l2 q2⊢
  have w1:IntKind.i64.wrap ((a:Int)+(b:Int))=(a:Int)+(b:Int):=by rw[IntKind.wrap_i64];omega
  have w2:IntKind.i64.wrap ((A:Int)+((a:Int)+(b:Int)))=(A:Int)+((a:Int)+(b:Int)):=by rw[IntKind.wrap_i64];omega
  have w3:IntKind.i64.wrap ((A:Int)+(a:Int))=(A:Int)+(a:Int):=by rw[IntKind.wrap_i64];omega
  have w4:IntKind.i64.wrap ((A:Int)+(a:Int)+(b:Int))=(A:Int)+((a:Int)+(b:Int)):=by rw[IntKind.wrap_i64];omega
  simp(maxSteps:=9999999) [iU,hk,hx,e1,e2,GQ, ↓g,q1,q2,w1,w2,w3,w4,bw (n:=s.items.length) (by have:=h.2.1.1;unfold maxLen;omega) hk,bU hk,-cT]
 ·rw[List.take_length]
  simp(maxSteps:=9999999) [iU,lU]
theorem qK {s:XStore}(h:s.Ok 1048576):ah Ph aH 194 [s.v]=some (ae .i64 (lU s:Nat)):=by
 refine aa (fn:=nk) rfl ?_
 simp +contextual (maxSteps:=9999999) [nk]
 refine bm bX Cl.fin [.f,.t,.f,.t,.t,.f,.f,.f,.f,.f,.f,.f,.f,.f,.f,.f,.f,.f,.f,.f,.f,.f,.f,.f,.f,.f,.f,.f,.f,.f,.f,.f] (fun k=>[(3,ae .i64 (iK ud (s.items.take k):Nat)),(4,ae .i64 k)]) s.items.length (fun _=>false) rfl (by simp[iK]) (fun k hk _=> ?_) (fun _ _=> ?_)
 ·have hx:=XItem.e.eq_1 s.items[k]
  have hi:=XItem.Ok.mono (B:=maxLen) (by unfold maxLen;omega) (h.2.1.2 _ (Zf hk))
  have e1:=qJ hi.1
  have e2:=nP hi.2
  have l1:=rI s.items[k].key
  have l2:=tH s.items[k].rcd
  have l3:=rj mI (s.items.take k)
  have l4:(s.items.take k).length≤1048576:=by rw[Zw];have:=h.2.1.1;omega
  have ht:iK ud (s.items.take (k+1))=iK ud (s.items.take k)+((ik s.items[k].key).length+(kA s.items[k].rcd).length):=nR hk
  rw[ht]
  generalize iK ud (s.items.take k)=A at l3⊢
  have g:=qb s.items[k].rcd
  generalize tg s.items[k].rcd=W at e2 g
  have q1:(ag (ik s.items[k].key)).length=(ik s.items[k].key).length:=al
  have q2:(ag (kA s.items[k].rcd)).length=(kA s.items[k].rcd).length:=al
  generalize (ik s.items[k].key).length=a at l1 q1⊢
  generalize (kA s.items[k].rcd).length=b at l2 q2⊢
  have w1:IntKind.i64.wrap ((a:Int)+(b:Int))=(a:Int)+(b:Int):=by rw[IntKind.wrap_i64];omega
  have w2:IntKind.i64.wrap ((A:Int)+((a:Int)+(b:Int)))=(A:Int)+((a:Int)+(b:Int)):=by rw[IntKind.wrap_i64];omega
  have w3:IntKind.i64.wrap ((A:Int)+(a:Int))=(A:Int)+(a:Int):=by rw[IntKind.wrap_i64];omega
  have w4:IntKind.i64.wrap ((A:Int)+(a:Int)+(b:Int))=(A:Int)+((a:Int)+(b:Int)):=by rw[IntKind.wrap_i64];omega
  simp(maxSteps:=9999999) [iZ,hk,hx,e1,e2,GQ, ↓g,q1,q2,w1,w2,w3,w4,bw (n:=s.items.length) (by have:=h.2.1.1;unfold maxLen;omega) hk,bU hk,-cT]
 ·rw[List.take_length]
  simp(maxSteps:=9999999) [iZ,lU]
theorem nG {α:Type}{f:α→Nat}{c:Nat}:∀{xs:List α},(∀x∈xs,f x≤c)→iK f xs≤c*xs.length
 |[],_=>by simp[iK]
 |x::xs,h=>by
  have h1:=nG (xs:=xs) (fun y hy=>h y (by simp[hy]))
  have h2:=h x (by simp)
  simp only[iK,Zu,List.sum_cons,Zo,Nat.mul_add]at*
  omega
def tm (d:XDatabase):Nat:=iK lU d.stores
theorem yn {d:XDatabase}(h:d.Ok 1048576):tm d≤115343360*1048576:=Zc (nG (c:=115343360) fun s hs=>Zc (rj mI _) (by have:=(h.2.2.1.2 s hs).2.1.1;omega)) (Nat.mul_le_mul_left _ h.2.2.1.1)
theorem tT {d:XDatabase}(h:d.Ok 1048576):ah Ph aH 224 [d.v]=some (ae .i64 (tm d:Nat)):=by
 refine aa (fn:=kC) rfl ?_
 simp +contextual (maxSteps:=9999999) [kC]
 refine bm bX Cl.fin [.f,.f,.f,.t,.f,.f,.f,.t,.t,.t,.f,.f,.f,.f,.f,.f,.f,.f,.f] (fun k=>[(3,ae .i64 (iK lU (d.stores.take k):Nat)),(9,ae .i64 k)]) d.stores.length (fun _=>false) rfl (by simp[iK]) (fun k hk _=> ?_) (fun _ _=> ?_)
 ·have hx:=XStore.e.eq_1 d.stores[k]
  have hi:=h.2.2.1.2 _ (Zf hk)
  have e1:=qF hi
  have l1:lU d.stores[k]≤115343360:=Zc (rj mI _) (by have:=hi.2.1.1;omega)
  have l3:=nG (f:=lU) (c:=115343360) (xs:=d.stores.take k) (fun s hs=>Zc (rj mI _) (by have:=(h.2.2.1.2 s (Zy hs)).2.1.1;omega))
  have l4:(d.stores.take k).length≤1048576:=by rw[Zw];have:=h.2.2.1.1;omega
  rw[nR hk]
  generalize iK lU (d.stores.take k)=A at l3⊢
  generalize lU d.stores[k]=a at l1 e1⊢
  have w1:IntKind.i64.wrap ((A:Int)+(a:Int))=(A:Int)+(a:Int):=by rw[IntKind.wrap_i64];omega
  simp(maxSteps:=9999999) [gF,hk,hx,e1,w1,bw (n:=d.stores.length) (by have:=h.2.2.1.1;unfold maxLen;omega) hk,bU hk]
 ·rw[List.take_length]
  simp(maxSteps:=9999999) [gF,tm]
theorem zU {x:XDisk}(h:x.Ok 1048576):ah Ph aH 196 [x.v]=some (ae .i64 (tm x.base+x.log.length:Nat)):=by
 have e1:=tT h.1
 have l1:=yn h.1
 have l2:=h.2.1
 generalize tm x.base=A at e1 l1⊢
 have w1:IntKind.i64.wrap ((A:Int)+(x.log.length:Int))=(A:Int)+(x.log.length:Int):=by rw[IntKind.wrap_i64];omega
 refine aa (fn:=oe) rfl ?_
 simp +contextual (maxSteps:=9999999) [oe,e1,w1,al]
theorem uk {d:XDatabase}(h:d.Ok 1048576):ah Ph aH 220 [d.v]=some (ae .i64 (tm d:Nat)):=by
 refine aa (fn:=kE) rfl ?_
 simp +contextual (maxSteps:=9999999) [kE]
 refine bm bX Cl.fin [.f,.t,.f,.t,.t,.f,.f,.f,.f,.f,.f,.f,.f,.f,.f,.f,.f,.f,.f,.f,.f] (fun k=>[(3,ae .i64 (iK lU (d.stores.take k):Nat)),(4,ae .i64 k)]) d.stores.length (fun _=>false) rfl (by simp[iK]) (fun k hk _=> ?_) (fun _ _=> ?_)
 ·have hx:=XStore.e.eq_1 d.stores[k]
  have hi:=h.2.2.1.2 _ (Zf hk)
  have e1:=qK hi
  have l1:lU d.stores[k]≤115343360:=Zc (rj mI _) (by have:=hi.2.1.1;omega)
  have l3:=nG (f:=lU) (c:=115343360) (xs:=d.stores.take k) (fun s hs=>Zc (rj mI _) (by have:=(h.2.2.1.2 s (Zy hs)).2.1.1;omega))
  have l4:(d.stores.take k).length≤1048576:=by rw[Zw];have:=h.2.2.1.1;omega
  rw[nR hk]
  generalize iK lU (d.stores.take k)=A at l3⊢
  generalize lU d.stores[k]=a at l1 e1⊢
  have w1:IntKind.i64.wrap ((A:Int)+(a:Int))=(A:Int)+(a:Int):=by rw[IntKind.wrap_i64];omega
  simp(maxSteps:=9999999) [gH,hk,hx,e1,w1,bw (n:=d.stores.length) (by have:=h.2.2.1.1;unfold maxLen;omega) hk,bU hk]
 ·rw[List.take_length]
  simp(maxSteps:=9999999) [gH,tm]
theorem Aq {x:XDisk}(h:x.Ok 1048576):ah Ph aH 193 [x.v]=some (ae .i64 (tm x.base+x.log.length:Nat)):=by
 have e1:=uk h.1
 have l1:=yn h.1
 have l2:=h.2.1
 generalize tm x.base=A at e1 l1⊢
 have w1:IntKind.i64.wrap ((A:Int)+(x.log.length:Int))=(A:Int)+(x.log.length:Int):=by rw[IntKind.wrap_i64];omega
 refine aa (fn:=oz) rfl ?_
 simp +contextual (maxSteps:=9999999) [oz,e1,w1,al]
def A3 (b:Bool)(x:XResponse):Nat:=cond b 76 (16+x.body.length)
def sh (e:XCached):Nat:=A3 (e.resp.type==3) e.resp
theorem uc {e:XCached}(h:e.Ok 1048576):sh e≤1048592:=by
 have:=h.2.2.2.2.2
 unfold sh A3
 cases(e.resp.type==3)<;>simp only[cond_true,cond_false]<;>omega
def vJ (c:XCache):Nat:=iK sh c.entries
theorem Ey {c:XCache}(h:c.Ok 1048576):vJ c≤1048592*1048576:=Zc (nG fun e he=>uc (h.2.2 e he)) (Nat.mul_le_mul_left _ h.2.1)
def A2 (s:XCacheSet):Nat:=iK vJ s.caches
theorem wn {x:XResponse}(h:x.body.length≤1048576)(b:Bool):ah Ph aH 223 [x.v,aF b]=some (ae .i64 (A3 b x:Nat)):=by
 have w1:IntKind.i64.wrap (16+(x.body.length:Int))=16+(x.body.length:Int):=by rw[IntKind.wrap_i64];omega
 refine aa (fn:=mg) rfl ?_
 cases b<;>simp(maxSteps:=9999999) [mg,A3,w1,al]
theorem wm {s:XCacheSet}(h:s.Ok 1048576):ah Ph aH 195 [s.v]=some (ae .i64 (A2 s:Nat)):=by
 refine aa (fn:=mf) rfl ?_
 simp +contextual (maxSteps:=9999999) [mf]
 refine bm bX Cl.fin [.f,.f,.f,.t,.f,.f,.f,.f,.f,.t,.t,.t,.f,.f,.f,.f,.f,.f,.f,.f,.f,.f,.f,.f,.f,.f,.f,.f,.f,.f,.f,.f,.f,.f] (fun k=>[(3,ae .i64 (iK vJ (s.caches.take k):Nat)),(11,ae .i64 k)]) s.caches.length (fun _=>false) rfl (by simp[iK]) (fun k hk _=> ?_) (fun _ _=> ?_)
 ·have hx:=XCache.e.eq_1 s.caches[k]
  have hc:=h.2 _ (Zf hk)
  have wk:=bw (n:=s.caches.length) (by have:=h.1;unfold maxLen;omega) hk
  have l4:=nG (f:=vJ) (c:=1048592*1048576) (xs:=s.caches.take k) (fun c hm=>Ey (h.2 c (Zy hm)))
  have l5:(s.caches.take k).length≤1048576:=by rw[Zw];have:=h.1;omega
  rw[nR hk]
  generalize iK vJ (s.caches.take k)=A at l4⊢
  simp(maxSteps:=9999999) [il,hk,hx,bU hk]
  refine bm bX Cl.kn [.f,.f,.f,.t,.f,.f,.f,.f,.f,.t,.t,.t,.f,.f,.f,.f,.t,.t,.t,.f,.f,.f,.f,.f,.f,.f,.f,.f,.f,.f,.f,.f,.f,.f] (fun j=>[(3,ae .i64 (A+iK sh (s.caches[k].entries.take j):Nat)),(18,ae .i64 j)]) s.caches[k].entries.length (fun _=>false) rfl (by simp[iK]) (fun j hj _=> ?_) (fun _ _=> ?_)
  ·have hy:=XCached.e.eq_1 s.caches[k].entries[j]
   have he:=hc.2.2 _ (Zf hj)
   have e1:=fun b=>wn (x:=s.caches[k].entries[j].resp) he.2.2.2.2.2 b
   have wj:=bw (n:=s.caches[k].entries.length) (by have:=hc.2.1;unfold maxLen;omega) hj
   have l1:=uc he
   have l2:=nG (f:=sh) (c:=1048592) (xs:=s.caches[k].entries.take j) (fun c hm=>uc (hc.2.2 c (Zy hm)))
   have l3:(s.caches[k].entries.take j).length≤1048576:=by rw[Zw];have:=hc.2.1;omega
   have hs:A3 (s.caches[k].entries[j].resp.type==3) s.caches[k].entries[j].resp=sh s.caches[k].entries[j]:=rfl
   have e2:=e1 (s.caches[k].entries[j].resp.type==3)
   rw[hs]at e2
   rw[nR hj]
   generalize iK sh (s.caches[k].entries.take j)=D at l2⊢
   generalize sh s.caches[k].entries[j]=a at l1 e2⊢
   have w1:IntKind.i64.wrap ((A:Int)+(D:Int)+(a:Int))=(A:Int)+((D:Int)+(a:Int)):=by rw[IntKind.wrap_i64];omega
   simp(maxSteps:=9999999) [fP,hk,hj,hx,hy,e2,w1,wj,bU hj]
  ·rw[List.take_length]
   simp(maxSteps:=9999999) [fP,hk,hx,wk,vJ]
 ·rw[List.take_length]
  simp(maxSteps:=9999999) [il,A2]
theorem wN {x:XResponse}(h:x.body.length≤1048576)(b:Bool):ah Ph aH 219 [x.v,aF b]=some (ae .i64 (A3 b x:Nat)):=by
 have w1:IntKind.i64.wrap (16+(x.body.length:Int))=16+(x.body.length:Int):=by rw[IntKind.wrap_i64];omega
 refine aa (fn:=mq) rfl ?_
 cases b<;>simp(maxSteps:=9999999) [mq,A3,w1,al]
theorem wM {s:XCacheSet}(h:s.Ok 1048576):ah Ph aH 192 [s.v]=some (ae .i64 (A2 s:Nat)):=by
 refine aa (fn:=mo) rfl ?_
 simp +contextual (maxSteps:=9999999) [mo]
 refine bm bX Cl.fin [.f,.t,.f,.t,.t,.f,.f,.f,.f,.f,.f,.f,.f,.f,.f,.f,.f,.f,.f,.f,.f,.f,.f,.f,.f,.f,.f,.f,.f,.f,.f,.f,.f,.f,.f,.f,.f,.f,.f,.f,.f,.f,.f] (fun k=>[(3,ae .i64 (iK vJ (s.caches.take k):Nat)),(4,ae .i64 k)]) s.caches.length (fun _=>false) rfl (by simp[iK]) (fun k hk _=> ?_) (fun _ _=> ?_)
 ·have hx:=XCache.e.eq_1 s.caches[k]
  have hc:=h.2 _ (Zf hk)
  have wk:=bw (n:=s.caches.length) (by have:=h.1;unfold maxLen;omega) hk
  have l4:=nG (f:=vJ) (c:=1048592*1048576) (xs:=s.caches.take k) (fun c hm=>Ey (h.2 c (Zy hm)))
  have l5:(s.caches.take k).length≤1048576:=by rw[Zw];have:=h.1;omega
  rw[nR hk]
  generalize iK vJ (s.caches.take k)=A at l4⊢
  simp(maxSteps:=9999999) [iq,hk,hx,bU hk]
  refine bm bX Cl.kn [.f,.t,.f,.t,.t,.t,.f,.f,.f,.f,.f,.f,.f,.f,.f,.f,.f,.f,.f,.f,.f,.f,.f,.f,.f,.f,.f,.f,.f,.f,.f,.f,.f,.f,.f,.f,.f,.f,.f,.f,.f,.f,.f] (fun j=>[(3,ae .i64 (A+iK sh (s.caches[k].entries.take j):Nat)),(5,ae .i64 j)]) s.caches[k].entries.length (fun _=>false) rfl (by simp[iK]) (fun j hj _=> ?_) (fun _ _=> ?_)
  ·have hy:=XCached.e.eq_1 s.caches[k].entries[j]
   have he:=hc.2.2 _ (Zf hj)
   have e1:=fun b=>wN (x:=s.caches[k].entries[j].resp) he.2.2.2.2.2 b
   have wj:=bw (n:=s.caches[k].entries.length) (by have:=hc.2.1;unfold maxLen;omega) hj
   have l1:=uc he
   have l2:=nG (f:=sh) (c:=1048592) (xs:=s.caches[k].entries.take j) (fun c hm=>uc (hc.2.2 c (Zy hm)))
   have l3:(s.caches[k].entries.take j).length≤1048576:=by rw[Zw];have:=hc.2.1;omega
   have hs:A3 (s.caches[k].entries[j].resp.type==3) s.caches[k].entries[j].resp=sh s.caches[k].entries[j]:=rfl
   have e2:=e1 (s.caches[k].entries[j].resp.type==3)
   rw[hs]at e2
   rw[nR hj]
   generalize iK sh (s.caches[k].entries.take j)=D at l2⊢
   generalize sh s.caches[k].entries[j]=a at l1 e2⊢
   have w1:IntKind.i64.wrap ((A:Int)+(D:Int)+(a:Int))=(A:Int)+((D:Int)+(a:Int)):=by rw[IntKind.wrap_i64];omega
   simp(maxSteps:=9999999) [fQ,hk,hj,hx,hy,e2,w1,wj,bU hj]
  ·rw[List.take_length]
   simp(maxSteps:=9999999) [fQ,hk,hx,wk,vJ]
 ·rw[List.take_length]
  simp(maxSteps:=9999999) [iq,A2]
theorem KZ {s:XCacheSet}(h:s.Ok 1048576):A2 s≤1048592*1048576*1048576:=Zc (nG fun c hm=>Ey (h.2 c hm)) (Nat.mul_le_mul_left _ h.1)
def E9 (x:XBucket):Nat:=A2 x.caches+(tm x.disk.base+x.disk.log.length)+lU x.replica.base+40*x.replica.sync.outbox.writes.length
theorem BU {x:XBucket}(h:x.Ok 1048576):ah Ph aH 162 [x.v]=some (ae .i64 (E9 x:Nat)):=by
 obtain⟨_,_,_,hc,hd,hr,_⟩:=h
 have e1:=wm hc
 have e2:=zU hd
 have e3:=qF hr.1
 have l1:=KZ hc
 have l2:=yn hd.1
 have l3:lU x.replica.base≤115343360:=Zc (rj mI _) (by have:=hr.1.2.1.1;omega)
 have l4:=hd.2.1
 have l5:x.replica.sync.outbox.writes.length≤1048576:=hr.2.2.1.2.2.1
 unfold E9
 generalize A2 x.caches=A at e1 l1⊢
 generalize tm x.disk.base=B at e2 l2⊢
 generalize lU x.replica.base=C at e3 l3⊢
 have w1:IntKind.i64.wrap ((A:Int)+((B:Int)+(x.disk.log.length:Int)))=(A:Int)+((B:Int)+(x.disk.log.length:Int)):=by rw[IntKind.wrap_i64];omega
 have w2:IntKind.i64.wrap ((A:Int)+((B:Int)+(x.disk.log.length:Int))+(C:Int))=(A:Int)+((B:Int)+(x.disk.log.length:Int))+(C:Int):=by rw[IntKind.wrap_i64];omega
 have w3:IntKind.i64.wrap (40*(x.replica.sync.outbox.writes.length:Int))=40*(x.replica.sync.outbox.writes.length:Int):=by rw[IntKind.wrap_i64];omega
 have w4:IntKind.i64.wrap ((A:Int)+((B:Int)+(x.disk.log.length:Int))+(C:Int)+40*(x.replica.sync.outbox.writes.length:Int))=(A:Int)+((B:Int)+(x.disk.log.length:Int))+(C:Int)+40*(x.replica.sync.outbox.writes.length:Int):=by rw[IntKind.wrap_i64];omega
 refine aa (fn:=pM) rfl ?_
 simp +contextual (maxSteps:=9999999) [pM,e1,e2,e3,w1,w2,w3,w4]
theorem B6 {x:XBucket}(h:x.Ok 1048576):ah Ph aH 161 [x.v]=some (ae .i64 (E9 x:Nat)):=by
 obtain⟨_,_,_,hc,hd,hr,_⟩:=h
 have e1:=wM hc
 have e2:=Aq hd
 have e3:=qK hr.1
 have l1:=KZ hc
 have l2:=yn hd.1
 have l3:lU x.replica.base≤115343360:=Zc (rj mI _) (by have:=hr.1.2.1.1;omega)
 have l4:=hd.2.1
 have l5:x.replica.sync.outbox.writes.length≤1048576:=hr.2.2.1.2.2.1
 unfold E9
 generalize A2 x.caches=A at e1 l1⊢
 generalize tm x.disk.base=B at e2 l2⊢
 generalize lU x.replica.base=C at e3 l3⊢
 have w1:IntKind.i64.wrap ((A:Int)+((B:Int)+(x.disk.log.length:Int)))=(A:Int)+((B:Int)+(x.disk.log.length:Int)):=by rw[IntKind.wrap_i64];omega
 have w2:IntKind.i64.wrap ((A:Int)+((B:Int)+(x.disk.log.length:Int))+(C:Int))=(A:Int)+((B:Int)+(x.disk.log.length:Int))+(C:Int):=by rw[IntKind.wrap_i64];omega
 have w3:IntKind.i64.wrap (40*(x.replica.sync.outbox.writes.length:Int))=40*(x.replica.sync.outbox.writes.length:Int):=by rw[IntKind.wrap_i64];omega
 have w4:IntKind.i64.wrap ((A:Int)+((B:Int)+(x.disk.log.length:Int))+(C:Int)+40*(x.replica.sync.outbox.writes.length:Int))=(A:Int)+((B:Int)+(x.disk.log.length:Int))+(C:Int)+40*(x.replica.sync.outbox.writes.length:Int):=by rw[IntKind.wrap_i64];omega
 refine aa (fn:=pU) rfl ?_
 simp +contextual (maxSteps:=9999999) [pU,e1,e2,e3,w1,w2,w3,w4]
end Gi
