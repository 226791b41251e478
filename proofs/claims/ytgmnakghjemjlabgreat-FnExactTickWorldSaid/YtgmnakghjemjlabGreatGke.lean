/- Of this proof. -/
import Derived.Test.YtgmnakghjemjlabGreatGkb
set_option linter.unusedSimpArgs false
set_option linter.unusedVariables false
namespace Gi
open Go Go.RowKit
set_option maxHeartbeats 4000000
set_option maxRecDepth 4000
attribute [local simp] bw rW bg bY dS fY dR fX f7 f6 um uB uo uC uq uD ur uE ut uF uu uG uw uH uy uI uz uJ V.cells plain bo gr isInt isStr isBool bin cT jF cU jG fZ un asList L.view ap V.view viewL aU ar cX bZ bP comp aK bu dz cr bD bB bC bx bc bU aO bH aS aX bJ bV bI bG bK V.flat L.flat dJ dk bt putAt thaw thawL thawT V.ow f5 dW dX cV f4 cW dV freezeVs freezeLs freezeL V.mut L.mut aJ cG iK aN be aG dv bM bi bS L.ren aV dL ce dO bQ bF wp_seq wp_block bA ed cY ca cZ wp_skip wp_exit wp_ret cK cI cS cL df dg de cq aW L.notArr aR aP aQ dZ bp storeD a9 fT br cE bh nK L.mov L.closed V.closed PV.bare PV.flat
def ib {α:Type}(p:α→Bool)(xs:List α):Int:=match xs.findIdx? p with
 |some i=>(i:Int)
 |none=> -1
def io {α:Type}(p:α→Bool)(xs:List α)(k:Nat):Bool:=match xs[k]? with
 |some x=>p x
 |none=>false
theorem yM {α:Type}{p:α→Bool}{xs:List α}{k:Nat}(hk:k<xs.length)(hj:∀j,j<k→io p xs j=false)(h:p xs[k]=true):ib p xs=(k:Int):=by
 have:xs.findIdx? p=some k:=by
  rw[List.findIdx?_eq_some_iff_getElem]
  refine⟨hk,h,fun j hjk=> ?_⟩
  have h1:j<xs.length:=by omega
  have:=hj j hjk
  simpa[io,h1]using this
 simp[ib,this]
theorem CN {α:Type}{p:α→Bool}{xs:List α}(hj:∀j,j<xs.length→io p xs j=false):ib p xs= -1:=by
 have:xs.findIdx? p=none:=by
  rw[List.findIdx?_eq_none_iff]
  intro x hx
  obtain⟨j,h1,rfl⟩:=List.mem_iff_getElem.1 hx
  simpa[io,h1]using hj j h1
 simp[ib,this]
theorem K0 {α:Type}(p:α→Bool)(xs:List α):ib p xs= -1∨∃j,∃hj:j<xs.length,ib p xs=(j:Int)∧p xs[j]=true:=by
 unfold ib
 cases h:xs.findIdx? p with
 |none=>exact .inl rfl
 |some i=>
  rw[List.findIdx?_eq_some_iff_getElem]at h
  obtain⟨h1,h2,_⟩:=h
  exact .inr ⟨i,h1,rfl,h2⟩
def RA (z:Nat):ACode:=(.seq (.region [⟨(some 9),(.bin .lss (.tmp 8) (.tmp 7)),none⟩]) (.seq (.cond (.tmp 9) .skip (.exit 0)) (.seq (.block 1 (.seq (.region [⟨(some 10),(.mv (.tmp 8)),none⟩,⟨(some 5),(.mv (.tmp 10)),none⟩]) (.seq (.region [⟨(some 11),(.mv (.tmp 1)),none⟩,⟨(some 12),(.mv (.tmp 0)),none⟩,⟨(some 13),(.mv (.tmp 5)),none⟩,⟨(some 14),(.indexA z (.tmp 12) (.tmp 13)),none⟩,⟨(some 15),(.load true z (.tmp 14)),none⟩,⟨(some 16),(.callV (.tmp 11) [(.tmp 15)]),none⟩]) (.cond (.tmp 16) (.seq (.region [⟨(some 17),(.mv (.tmp 5)),none⟩,⟨(some 4),(.mv (.tmp 17)),none⟩]) .ret) .skip)))) (.region [⟨(some 18),(.bin .add (.tmp 8) (.pv (.int .i64 1))),none⟩,⟨(some 8),(.mv (.tmp 18)),none⟩]))))
def RN (z:Nat):AFn:=⟨19,[(.tmp 4)],(.seq (.region [⟨(some 4),(.mv (.pv (.int .i64 0))),none⟩]) (.seq (.seq (.region [⟨(some 6),(.mv (.tmp 0)),none⟩,⟨(some 7),(.len (.tmp 6)),none⟩,⟨(some 8),(.mv (.pv (.int .i64 0))),none⟩]) (.block 0 (.loop (RA z)))) (.seq (.region [⟨(some 4),(.mv (.pv (.int .i64 (-1)))),none⟩]) .ret)))⟩
theorem Dc {α:Type}{e:α→List PV}{p:α→Bool}{xs:List α}{k z kc:Nat}{caps:List (List PV)}(hk:Ph k=some (RN z))(hl:xs.length≤maxLen)(hz:∀x,(e x).length=z)(hp:∀x∈xs,ag Ph aE kc (.agg ((e x).map .pv)::caps.map F4)=some (au (p x))):ag Ph aE k [bm (xs.map e), .one (.fn kc caps)]=some (aa .i64 (ib p xs)):=by
 refine ae hk ?_
 simp +contextual (maxSteps:=9999999) [RN]
 refine aC aT Cl.fin [.t,.t,.f,.f,.f,.f,.f,.t,.t,.f,.f,.f,.f,.f,.f,.f,.f,.f,.f] (fun k=>[(8,aa .i64 k)]) xs.length (io p xs) rfl (by simp) (fun k hk hj=> ?_) (fun hj _=> ?_)
 ·have hc:=hp _ (List.getElem_mem hk)
  have ht:List.take z ((e xs[k]).map L.pv)=(e xs[k]).map L.pv:=List.take_of_length_le (by simp[hz])
  have hf:=yM hk hj
  simp +contextual (maxSteps:=9999999) [RA,io,hk,hz,ht,hc,hf,aF hl hk,aY hk,pn]
 ·simp +contextual (maxSteps:=9999999) [RA,CN hj]
def Og (s t:List UInt8)(x:XBucket):Bool:=x.site==s&&x.top==t
theorem vn {bs:List XBucket}(h:bs.length≤maxLen)(s t:List UInt8):ag Ph aE 175 [.agg [.pv (.lst (bs.map XBucket.e))],fM s,fM t]=some (aa .i64 (ib (Og s t) bs)):=by
 have e1:=Dc (e:=XBucket.e) (p:=Og s t) (xs:=bs) (k:=209) (z:=24) (kc:=210) (caps:=[[.str s],[.str t]]) rfl h (fun _=>rfl) (fun x _=>by
  refine ae (fn:=jR) rfl ?_
  simp +contextual (maxSteps:=9999999) [jR,XBucket.e.eq_1,F4,Og])
 refine ae (fn:=lq) rfl ?_
 simp +contextual (maxSteps:=9999999) [lq,kE,pB,e1]
theorem vG {bs:List XBucket}(h:bs.length≤maxLen)(s t:List UInt8):ag Ph aE 145 [.agg [.pv (.lst (bs.map XBucket.e))],fM s,fM t]=some (aa .i64 (ib (Og s t) bs)):=by
 refine ae (fn:=lH) rfl ?_
 simp +contextual (maxSteps:=9999999) [lH]
 refine aC aT Cl.fin [.f,.t,.t,.t,.f,.f,.f,.t,.f,.f,.f,.f,.f,.f,.f,.f,.f,.f,.f,.f,.f,.f,.f,.f,.f,.f,.f,.f,.f,.f,.f,.f,.f,.f] (fun k=>[(7,aa .i64 k)]) bs.length (io (Og s t) bs) rfl (by simp) (fun k hk hj=> ?_) (fun hj _=> ?_)
 ·have hf:=yM hk hj
  simp +contextual (maxSteps:=9999999) [gQ,io,Og,hk,hf,aF h hk,aY hk,XBucket.e.eq_1 bs[k]]
 ·simp +contextual (maxSteps:=9999999) [gQ,CN hj]
set_option maxHeartbeats 8000000
def NI (xs:List XItem)(k:Nat):Bool:=match xs[k]?,xs[k-1]? with
 |some x,some y=> !(ql x.key)||(!(nH x.rcd.fs)||(dA 0 k&& !(dA (L7 y.key x.key) 0)))
 |_,_=>false
def lV (s:XStore):Bool:= !(fA s.items.length (NI s.items))&&(cC s.name&&(!(dA 16 s.items.length)&&rg s.auto 0 1000000))
theorem nC {s:XStore}(h:s.Ok maxLen):ag Ph aE 354 [s.v]=some (au (lV s)):=by
 refine ae (fn:=ol) rfl ?_
 simp +contextual (maxSteps:=9999999) [ol]
 refine aC aT Cl.fin [.f,.t,.f,.f,.f,.f,.t,.t,.t,.f,.f,.f,.f,.f,.f,.f,.f,.f,.f,.f,.f,.f,.f,.f,.f,.f,.f,.f,.f,.f,.f,.f,.f,.f,.f,.f,.f,.f,.f,.f,.f,.f,.f,.f,.f,.f,.f,.f,.f,.f,.f,.f,.f,.f,.f] (fun k=>[(8,aa .i64 k)]) s.items.length (NI s.items) rfl (by simp) (fun k hk _=> ?_) (fun _ hp=> ?_)
 ·obtain⟨q1,q2⟩:=tN h.2.1.1 hk
  obtain⟨h1,h2⟩:=h.2.1.2 _ (List.getElem_mem hk)
  have h3:=(h.2.1.2 _ (List.getElem_mem q2)).1
  have e1:=qi h2
  have e2:=nG h3 h1
  simp +contextual (maxSteps:=9999999) [jD,NI,lV,hk,q1,q2,aF h.2.1.1 hk,aY hk,XItem.e.eq_1 s.items[k],XItem.e.eq_1 s.items[k-1],mW h1,e1,e2]
 ·simp +contextual (maxSteps:=9999999) [jD,lV,hp,bn h.1,aZ]
theorem nD {s:XStore}(h:s.Ok maxLen):ag Ph aE 350 [s.v]=some (au (lV s)):=by
 refine ae (fn:=ov) rfl ?_
 simp +contextual (maxSteps:=9999999) [ov]
 refine aC aT Cl.fin [.f,.t,.f,.t,.f,.f,.f,.f,.f,.f,.f,.f,.f,.f,.f,.f,.f,.f,.f,.f,.f,.f,.f,.f,.f,.f,.f,.f,.f,.f,.f,.f,.f,.f,.f,.f,.f,.f,.f,.f,.f,.f,.f,.f,.f,.f,.f,.f,.f,.f,.f,.f,.f,.f,.f,.f,.f,.f,.f,.f,.f,.f,.f,.f] (fun k=>[(3,aa .i64 k)]) s.items.length (NI s.items) rfl (by simp) (fun k hk _=> ?_) (fun _ hp=> ?_)
 ·obtain⟨q1,q2⟩:=tN h.2.1.1 hk
  obtain⟨h1,h2⟩:=h.2.1.2 _ (List.getElem_mem hk)
  have h3:=(h.2.1.2 _ (List.getElem_mem q2)).1
  have e1:=qv h2
  have e2:=nJ h3 h1
  simp +contextual (maxSteps:=9999999) [jE,NI,lV,hk,q1,q2,aF h.2.1.1 hk,aY hk,XItem.e.eq_1 s.items[k],XItem.e.eq_1 s.items[k-1],mX h1,e1,e2]
 ·simp +contextual (maxSteps:=9999999) [jE,lV,hp,co h.1,bq]
structure XRange where
 hasLow:Bool
 hasHigh:Bool
 low:XKey
 high:XKey
abbrev XRange.v (r:XRange):V:= .agg [.pv (.bool r.hasLow), .pv (.bool r.hasHigh), .pv (.int .i64 r.low.kind), .pv (.int .i64 r.low.n), .pv (.str r.low.text), .pv (.int .i64 r.high.kind), .pv (.int .i64 r.high.n), .pv (.str r.high.text)]
def XRange.Ok (r:XRange):Prop:=r.low.Ok maxLen∧r.high.Ok maxLen
def Pn (n:List UInt8)(x:XStore):Bool:=x.name==n
theorem wQ {d:XDatabase}(h:d.stores.length≤maxLen)(n:List UInt8):ag Ph aE 404 [d.v,fM n]=some (aa .i64 (ib (Pn n) d.stores)):=by
 have e1:=Dc (e:=XStore.e) (p:=Pn n) (xs:=d.stores) (k:=410) (z:=3) (kc:=411) (caps:=[[.str n]]) rfl h (fun _=>rfl) (fun x _=>by
  refine ae (fn:=kH) rfl ?_
  simp +contextual (maxSteps:=9999999) [kH,XStore.e.eq_1,F4,Pn])
 refine ae (fn:=mz) rfl ?_
 simp +contextual (maxSteps:=9999999) [mz,kE,pB,e1]
theorem xn {d:XDatabase}(h:d.stores.length≤maxLen)(n:List UInt8):ag Ph aE 400 [d.v,fM n]=some (aa .i64 (ib (Pn n) d.stores)):=by
 refine ae (fn:=mL) rfl ?_
 simp +contextual (maxSteps:=9999999) [mL]
 refine aC aT Cl.fin [.f,.t,.t,.f,.f,.t,.f,.f,.f,.f,.f,.f,.f,.f,.f,.f,.f,.f,.f,.f,.f,.f] (fun k=>[(5,aa .i64 k)]) d.stores.length (io (Pn n) d.stores) rfl (by simp) (fun k hk hj=> ?_) (fun hj _=> ?_)
 ·have hf:=yM hk hj
  simp +contextual (maxSteps:=9999999) [iz,io,Pn,hk,hf,aF h hk,aY hk,XStore.e.eq_1 d.stores[k]]
 ·simp +contextual (maxSteps:=9999999) [iz,CN hj]
def isF (n:List UInt8)(x:XField):Bool:=x.name==n
def pt (fs:List XField)(n:List UInt8):Int×Bool:=match fs.find? (isF n)with
 |some x=>(x.n,true)
 |none=>(0,false)
theorem Qc {fs:List XField}{n:List UInt8}{k:Nat}(hk:k<fs.length)(hj:∀j,j<k→io (isF n) fs j=false)(h:isF n fs[k]=true):pt fs n=(fs[k].n,true):=by
 have:fs.find? (isF n)=some fs[k]:=by
  rw[List.find?_eq_some_iff_getElem]
  refine⟨h,k,hk,rfl,fun j hjk=> ?_⟩
  have h1:j<fs.length:=by omega
  have:=hj j hjk
  simpa[io,h1]using this
 simp[pt,this]
theorem Qb {fs:List XField}{n:List UInt8}(hj:∀j,j<fs.length→io (isF n) fs j=false):pt fs n=(0,false):=by
 have:fs.find? (isF n)=none:=by
  rw[List.find?_eq_none]
  intro x hx
  obtain⟨j,h1,rfl⟩:=List.mem_iff_getElem.1 hx
  have:=hj j h1
  simpa[io,h1]using this
 simp[pt,this]
abbrev Q9 (x:Int×Bool):V:= .tup [(false,[.pv (.int .i64 x.1)]),(false,[.pv (.bool x.2)])]
theorem A4 {r:XRecord}(h:r.fs.length≤maxLen)(n:List UInt8):ag Ph aE 217 [r.v,fM n]=some (aa .i64 (ib (isF n) r.fs)):=by
 have e1:=Dc (e:=XField.e) (p:=isF n) (xs:=r.fs) (k:=240) (z:=2) (kc:=241) (caps:=[[.str n]]) rfl h (fun _=>rfl) (fun x _=>by
  refine ae (fn:=mI) rfl ?_
  simp +contextual (maxSteps:=9999999) [mI,XField.e.eq_1,F4,isF])
 refine ae (fn:=ot) rfl ?_
 simp +contextual (maxSteps:=9999999) [ot,kE,pB,e1]
theorem ii {r:XRecord}(h:r.fs.length≤maxLen)(n:List UInt8):ag Ph aE 186 [r.v,fM n]=some (Q9 (pt r.fs n)):=by
 refine ae (fn:=nu) rfl ?_
 simp +contextual (maxSteps:=9999999) [nu]
 refine aC aT Cl.fin [.f,.t,.t,.f,.f,.f,.t,.f,.f,.f,.f,.f,.f,.f,.f,.f,.f,.f,.f,.f,.f,.f,.f,.f,.f,.f,.f,.f] (fun k=>[(6,aa .i64 k)]) r.fs.length (io (isF n) r.fs) rfl (by simp) (fun k hk hj=> ?_) (fun hj _=> ?_)
 ·have hf:=Qc hk hj
  simp +contextual (maxSteps:=9999999) [jb,io,isF,hk,hf,aF h hk,aY hk,XField.e.eq_1 r.fs[k]]
 ·simp +contextual (maxSteps:=9999999) [jb,Qb hj]
theorem MA (fs:List XField)(n:List UInt8):(ib (isF n) fs= -1∧pt fs n=(0,false))∨∃j,∃hj:j<fs.length,ib (isF n) fs=(j:Int)∧pt fs n=(fs[j].n,true):=by
 unfold ib pt
 cases h:fs.findIdx? (isF n)with
 |none=>
  have:fs.find? (isF n)=none:=by rw[List.findIdx?_eq_none_iff]at h;rw[List.find?_eq_none];exact fun x hx=>by simp[h x hx]
  simp[this]
 |some i=>
  rw[List.findIdx?_eq_some_iff_getElem]at h
  obtain⟨h1,h2,h3⟩:=h
  have:fs.find? (isF n)=some fs[i]:=by
   rw[List.find?_eq_some_iff_getElem]
   exact⟨h2,i,h1,rfl,fun j hj=>by simpa using h3 j hj⟩
  exact .inr ⟨i,h1,rfl,by simp[this]⟩
theorem ig {r:XRecord}(h:r.fs.length≤maxLen)(n:List UInt8):ag Ph aE 190 [r.v,fM n]=some (Q9 (pt r.fs n)):=by
 have e1:=A4 h n
 rcases MA r.fs n with⟨h1,h2⟩|⟨j,hj,h1,h2⟩<;>rw[h1]at e1<;>rw[h2]
 all_goals refine ae (fn:=ku) rfl ?_
 ·simp +contextual (maxSteps:=9999999) [ku,e1,dA]
 ·simp +contextual (maxSteps:=9999999) [ku,e1,dA,hj,XField.e.eq_1 r.fs[j]]
end Gi
namespace Gi
open Go Go.RowKit
set_option maxHeartbeats 4000000
def Nr :Nat→Nat→List UInt8
 |0,_=>[]
 |f+1,n=>if n<128 then [UInt8.ofNat n]else UInt8.ofNat (n%128+128)::Nr f (n/128)
def qF (n:Nat):List UInt8:=Nr 6 n
theorem LD :∀(f n:Nat),(Nr f n).length≤f
 |0,n=>by simp[Nr]
 |f+1,n=>by
  have:=LD f (n/128)
  unfold Nr
  split<;>simp<;>omega
theorem rn (n:Nat):(qF n).length≤6:=LD 6 n
theorem FJ {n:Nat}(h:n<128):(qF n).length=1:=by simp[qF,Nr,h]
def Hs (s:List UInt8):List UInt8:=qF s.length++s
def Qt (x:Nat):List UInt8:=[UInt8.ofNat (x/1099511627776),UInt8.ofNat (x/4294967296),UInt8.ofNat (x/16777216),UInt8.ofNat (x/65536),UInt8.ofNat (x/256),UInt8.ofNat x]
def lm (k:XKey):List UInt8:=if ql k=true then UInt8.ofNat k.kind.toNat::((if k.kind=2 then []else Qt (k.n+1000000000000).toNat)++k.text)else []
theorem Dr {n a b:Int}:rg n a b=true↔a≤n∧n≤b:=by simp[rg,dA]
theorem za {k:XKey}(h:ql k=true):1≤k.kind∧k.kind≤3∧-1000000000000≤k.n∧k.n≤1000000000000∧(k.kind=2→k.n=0)∧k.text.length≤12:=by
 unfold ql sv at h
 simp only[Bool.and_eq_true,Dr,Bool.or_eq_true,Bool.not_eq_true',beq_eq_false_iff_ne,beq_iff_eq]at h
 obtain⟨⟨⟨⟨⟨h1,h2⟩,h3,h4⟩,h5⟩,_,h6⟩,_⟩:=h
 have:=of_decide_eq_false h6
 exact⟨h1,h2,h3,h4,fun q=>h5.resolve_left (fun z=>z q),by omega⟩
theorem BZ (k:XKey):(lm k).length≤19:=by
 unfold lm
 split
 ·rename_i h
  have:=(za h).2.2.2.2.2
  split<;>simp[Qt]<;>omega
 ·simp
def Pc (f:XField):List UInt8:=Hs f.name++qF f.n.toNat
def iq (l:List XField):List UInt8:=l.flatMap Pc
def rI (r:XRecord):List UInt8:=if nH r.fs=true then qF r.fs.length++iq r.fs else []
def RO (f:XField):Prop:=f.name.length≤8∧0≤f.n∧f.n≤1000000000000
theorem J0 {s:List UInt8}(h:cC s=true):1≤s.length∧s.length≤8:=by
 simp only[cC,p5,Bool.and_eq_true,Dr]at h
 omega
theorem zj {r:XRecord}(h:nH r.fs=true):r.fs.length≤6∧∀f∈r.fs,RO f:=by
 simp only[nH,Bool.and_eq_true,Bool.not_eq_true']at h
 have hl:=of_decide_eq_false h.2
 refine⟨by omega,fun f m=> ?_⟩
 obtain⟨j,hj,rfl⟩:=List.mem_iff_getElem.1 m
 have:=ND h.1 hj
 simp only[LS,hj,show j-1<r.fs.length by omega,List.getElem?_eq_getElem,Bool.or_eq_false_iff,Bool.not_eq_false',Dr]at this
 have q:=J0 this.1
 exact⟨q.2,this.2.1.1,by omega⟩
theorem te :∀(l:List XField),(∀f∈l,RO f)→(iq l).length≤15*l.length
 |[],h=>by simp[iq]
 |f::l,h=>by
  have ih:=te l (fun g m=>h g (by simp[m]))
  have h1:=(h f (by simp)).1
  have h2:=FJ (n:=f.name.length) (by omega)
  have h3:=rn f.n.toNat
  simp only[iq,List.flatMap_cons,Pc,Hs,List.length_append,List.length_cons]at ih⊢
  omega
theorem B1 (r:XRecord):(rI r).length≤91:=by
 unfold rI
 split
 ·rename_i h
  obtain⟨h1,h2⟩:=zj h
  have:=te r.fs h2
  have:=FJ (n:=r.fs.length) (by omega)
  simp only[List.length_append]
  omega
 ·simp
structure Raw where
 kind:Nat
 a:List UInt8
 b:List UInt8
 c:List UInt8
 d:List UInt8
structure XOp where
 kind:Int
 store:List UInt8
 key:XKey
 rcd:XRecord
 field:List UInt8
def XOp.e (x:XOp):List PV:=[.int .i64 x.kind, .str x.store, .int .i64 x.key.kind, .int .i64 x.key.n, .str x.key.text, .lst (x.rcd.fs.map XField.e), .str x.field]
abbrev XOp.v (x:XOp):V:= .agg [.pv (.int .i64 x.kind), .pv (.str x.store), .pv (.int .i64 x.key.kind), .pv (.int .i64 x.key.n), .pv (.str x.key.text), .pv (.lst (x.rcd.fs.map XField.e)), .pv (.str x.field)]
def XOp.Ok (B:Nat)(x:XOp):Prop:=nW x.kind∧x.store.length≤B∧x.key.Ok B∧x.rcd.Ok B∧x.field.length≤B
end Gi
namespace Gi
open Go Go.RowKit
set_option maxHeartbeats 8000000
set_option maxRecDepth 4000
attribute [local simp] bw ah aw aH bg bY Opd.ev put V.cells plain bo gr isInt isStr isBool bin bN oe od un asList L.view ap V.view viewL aU ar bz bP comp aK bu dz cr bD bB bC bx bc bU aO bH aS aX bJ bV bI bG bK V.flat L.flat dJ dk bt putAt thaw thawL thawT freezeVs freezeLs freezeL V.mut L.mut aJ aV dL ce dO bQ bF wp_seq wp_block n5 wp_cond wp_skip wp_exit wp_ret cK cI cS cL df dg de cq aW L.notArr aR aP aQ dY bp storeD a9 fT br cE bh nK L.mov L.closed V.closed PV.bare PV.flat
theorem bv {s:List UInt8}:(am s).length=s.length:=by simp[am]
structure Flat (z:Nat) (R:List (List PV)):Prop where
 flat:lP R=true
 wid:(R.all fun r=>r.length==z)=true
 len:R.length≤1048576
theorem lS {R:List (List PV)}(h:Flat 1 R):ag Ph aE 261 [bm R]=some (.one (.down 1 R)):=by
 have hf:=h.flat
 have hw:=h.wid
 have m:=eF (m:=R.length) (z:=1) (by have:=h.len;omega) (by omega)
 rw[Nat.mul_one]at m
 refine ae (fn:=mD) rfl ?_
 simp[mD,hf,hw,m]
theorem xt {R:List (List PV)}(h:Flat 4 R):ag Ph aE 489 [bm R]=some (.one (.down 4 R)):=by
 have hf:=h.flat
 have hw:=h.wid
 have m:=eF (m:=R.length) (z:=40) (by have:=h.len;omega) (by omega)
 refine ae (fn:=mP) rfl ?_
 simp[mP,hf,hw,m]
theorem vy {B:Nat}(hB:B≤1048576){x:XRecord}(h:x.Ok B):ag Ph aE 242 [.agg [.pv (.lst (x.fs.map XField.e))]]=some (.agg [.down 2 (x.fs.map XField.e)]):=by
 have h_fs:=h
 have F0:Flat 2 (x.fs.map XField.e):=⟨dH (e:=XField.e) (fun _=>rfl) _,dC (e:=XField.e) (z:=2) (fun _=>rfl) _,by rw[List.length_map];have:=h_fs.1;omega⟩
 have hf0:=F0.flat
 have hw0:=F0.wid
 have m0:=eF (m:=(x.fs.map XField.e).length) (z:=24) (by have:=F0.len;omega) (by omega)
 generalize (x.fs.map XField.e)=R0 at F0 hf0 hw0 m0⊢
 refine ae (fn:=lF) rfl ?_
 simp[lF,hf0,hw0,m0]
theorem DD {B:Nat}(hB:B≤1048576){x:XRecord}(h:x.Ok B):ag Ph aE 239 [.agg [.pv (.lst (x.fs.map XField.e))]]=some (.agg [.down 2 (x.fs.map XField.e)]):=by
 have h_fs:=h
 have F0:Flat 2 (x.fs.map XField.e):=⟨dH (e:=XField.e) (fun _=>rfl) _,dC (e:=XField.e) (z:=2) (fun _=>rfl) _,by rw[List.length_map];have:=h_fs.1;omega⟩
 have hf0:=F0.flat
 have hw0:=F0.wid
 have m0:=eF (m:=(x.fs.map XField.e).length) (z:=24) (by have:=F0.len;omega) (by omega)
 generalize (x.fs.map XField.e)=R0 at F0 hf0 hw0 m0⊢
 refine ae (fn:=pV) rfl ?_
 simp[pV,hf0,hw0,m0]
theorem qj {B:Nat}(hB:B≤1048576){x:XItem}(h:x.Ok B):ag Ph aE 218 [.agg [.pv (.int .i64 x.key.kind), .pv (.int .i64 x.key.n), .pv (.str x.key.text), .pv (.lst (x.rcd.fs.map XField.e))]]=some (.agg [.pv (.int .i64 x.key.kind), .pv (.int .i64 x.key.n), .pv (.str x.key.text), .down 2 (x.rcd.fs.map XField.e)]):=by
 obtain⟨h_key,h_rcd⟩:=h
 have c0:=vy hB h_rcd
 refine ae (fn:=nk) rfl ?_
 simp[nk,c0]
theorem sL {B:Nat}(hB:B≤1048576){x:XItem}(h:x.Ok B):ag Ph aE 214 [.agg [.pv (.int .i64 x.key.kind), .pv (.int .i64 x.key.n), .pv (.str x.key.text), .pv (.lst (x.rcd.fs.map XField.e))]]=some (.agg [.pv (.int .i64 x.key.kind), .pv (.int .i64 x.key.n), .pv (.str x.key.text), .down 2 (x.rcd.fs.map XField.e)]):=by
 obtain⟨h_key,h_rcd⟩:=h
 have c0:=DD hB h_rcd
 refine ae (fn:=pX) rfl ?_
 simp[pX,c0]
theorem tK {B:Nat}(hB:B≤1048576){x:XMachine}(h:x.Ok B):ag Ph aE 493 [.agg [.pv (.lst (x.script.map XInstr.e)), .pv (.int .i64 x.pc), .pv (.lst (x.regs.map tC)), .pv (.int .i64 x.steps), .pv (.bool x.done), .pv (.bool x.wait)]]=some (.agg [.down 4 (x.script.map XInstr.e), .pv (.int .i64 x.pc), .down 1 (x.regs.map tC), .pv (.int .i64 x.steps), .pv (.bool x.done), .pv (.bool x.wait)]):=by
 obtain⟨h_script,h_pc,h_regs,h_steps⟩:=h
 have F0:Flat 4 (x.script.map XInstr.e):=⟨dH (e:=XInstr.e) (fun _=>rfl) _,dC (e:=XInstr.e) (z:=4) (fun _=>rfl) _,by rw[List.length_map];have:=h_script.1;omega⟩
 have hf0:=F0.flat
 have hw0:=F0.wid
 have m0:=eF (m:=(x.script.map XInstr.e).length) (z:=40) (by have:=F0.len;omega) (by omega)
 generalize (x.script.map XInstr.e)=R0 at F0 hf0 hw0 m0⊢
 have F1:Flat 1 (x.regs.map tC):=⟨dH (e:=tC) (fun _=>rfl) _,dC (e:=tC) (z:=1) (fun _=>rfl) _,by rw[List.length_map];have:=h_regs.1;omega⟩
 have hf1:=F1.flat
 have hw1:=F1.wid
 have m1:=eF (m:=(x.regs.map tC).length) (z:=8) (by have:=F1.len;omega) (by omega)
 generalize (x.regs.map tC)=R1 at F1 hf1 hw1 m1⊢
 refine ae (fn:=kM) rfl ?_
 simp[kM,hf0,hw0,m0,hf1,hw1,m1]
theorem Bd {B:Nat}(hB:B≤1048576){x:XMachine}(h:x.Ok B):ag Ph aE 477 [.agg [.pv (.lst (x.script.map XInstr.e)), .pv (.int .i64 x.pc), .pv (.lst (x.regs.map tC)), .pv (.int .i64 x.steps), .pv (.bool x.done), .pv (.bool x.wait)]]=some (.agg [.down 4 (x.script.map XInstr.e), .pv (.int .i64 x.pc), .down 1 (x.regs.map tC), .pv (.int .i64 x.steps), .pv (.bool x.done), .pv (.bool x.wait)]):=by
 obtain⟨h_script,h_pc,h_regs,h_steps⟩:=h
 have c0:=xt (R:=(x.script.map XInstr.e)) ⟨dH (fun _=>rfl) _,dC (z:=4) (fun _=>rfl) _,by rw[List.length_map];have:=h_script.1;omega⟩
 have F0:Flat 1 (x.regs.map tC):=⟨dH (e:=tC) (fun _=>rfl) _,dC (e:=tC) (z:=1) (fun _=>rfl) _,by rw[List.length_map];have:=h_regs.1;omega⟩
 have hf0:=F0.flat
 have hw0:=F0.wid
 have m0:=eF (m:=(x.regs.map tC).length) (z:=8) (by have:=F0.len;omega) (by omega)
 generalize (x.regs.map tC)=R0 at F0 hf0 hw0 m0⊢
 refine ae (fn:=oC) rfl ?_
 simp[oC,c0,hf0,hw0,m0]
theorem yX {B:Nat}(hB:B≤1048576){x:XPage}(h:x.Ok B):ag Ph aE 479 [.agg [.pv (.int .i64 x.id), .pv (.str x.site), .pv (.str x.top), .pv (.int .i64 x.version), .pv (.lst (x.loaded.map XLoaded.e)), .pv (.lst (x.machine.script.map XInstr.e)), .pv (.int .i64 x.machine.pc), .pv (.lst (x.machine.regs.map tC)), .pv (.int .i64 x.machine.steps), .pv (.bool x.machine.done), .pv (.bool x.machine.wait)]]=some (.agg [.pv (.int .i64 x.id), .pv (.str x.site), .pv (.str x.top), .pv (.int .i64 x.version), .down 2 (x.loaded.map XLoaded.e), .down 4 (x.machine.script.map XInstr.e), .pv (.int .i64 x.machine.pc), .down 1 (x.machine.regs.map tC), .pv (.int .i64 x.machine.steps), .pv (.bool x.machine.done), .pv (.bool x.machine.wait)]):=by
 obtain⟨h_id,h_site,h_top,h_version,h_loaded,h_machine⟩:=h
 have c0:=tK hB h_machine
 have F0:Flat 2 (x.loaded.map XLoaded.e):=⟨dH (e:=XLoaded.e) (fun _=>rfl) _,dC (e:=XLoaded.e) (z:=2) (fun _=>rfl) _,by rw[List.length_map];have:=h_loaded.1;omega⟩
 have hf0:=F0.flat
 have hw0:=F0.wid
 have m0:=eF (m:=(x.loaded.map XLoaded.e).length) (z:=24) (by have:=F0.len;omega) (by omega)
 generalize (x.loaded.map XLoaded.e)=R0 at F0 hf0 hw0 m0⊢
 refine ae (fn:=nl) rfl ?_
 simp[nl,c0,hf0,hw0,m0]
theorem Bh {B:Nat}(hB:B≤1048576){x:XPage}(h:x.Ok B):ag Ph aE 451 [.agg [.pv (.int .i64 x.id), .pv (.str x.site), .pv (.str x.top), .pv (.int .i64 x.version), .pv (.lst (x.loaded.map XLoaded.e)), .pv (.lst (x.machine.script.map XInstr.e)), .pv (.int .i64 x.machine.pc), .pv (.lst (x.machine.regs.map tC)), .pv (.int .i64 x.machine.steps), .pv (.bool x.machine.done), .pv (.bool x.machine.wait)]]=some (.agg [.pv (.int .i64 x.id), .pv (.str x.site), .pv (.str x.top), .pv (.int .i64 x.version), .down 2 (x.loaded.map XLoaded.e), .down 4 (x.machine.script.map XInstr.e), .pv (.int .i64 x.machine.pc), .down 1 (x.machine.regs.map tC), .pv (.int .i64 x.machine.steps), .pv (.bool x.machine.done), .pv (.bool x.machine.wait)]):=by
 obtain⟨h_id,h_site,h_top,h_version,h_loaded,h_machine⟩:=h
 have c0:=Bd hB h_machine
 have F0:Flat 2 (x.loaded.map XLoaded.e):=⟨dH (e:=XLoaded.e) (fun _=>rfl) _,dC (e:=XLoaded.e) (z:=2) (fun _=>rfl) _,by rw[List.length_map];have:=h_loaded.1;omega⟩
 have hf0:=F0.flat
 have hw0:=F0.wid
 have m0:=eF (m:=(x.loaded.map XLoaded.e).length) (z:=24) (by have:=F0.len;omega) (by omega)
 generalize (x.loaded.map XLoaded.e)=R0 at F0 hf0 hw0 m0⊢
 refine ae (fn:=oG) rfl ?_
 simp[oG,c0,hf0,hw0,m0]
def gh (b0 b1:AObj)(y0:L)(y2:L)(rows:List (List PV)):Nat→List AObj
 |0=>[b0,b1, .box [y0, .nil,y2]]
 |k+1=>[b0,b1, .box [y0, .arr 3,y2], .darr 4 (rows.take (k+1))]
theorem lU {B:Nat}(hB:B≤1048576){x:XStore}(h:x.Ok B):ag Ph aE 191 [.agg [.pv (.str x.name), .pv (.lst (x.items.map XItem.e)), .pv (.int .i64 x.auto)]]=some (.agg [.pv (.str x.name),nd 4 (x.items.map XItem.e), .pv (.int .i64 x.auto)]):=by
 obtain⟨h_name,h_items,h_auto⟩:=h
 have e1:∀k(hk:k<x.items.length),_:=fun k hk=>qj hB (h_items.2 _ (List.getElem_mem hk))
 have hl:x.items.length≤1048576:=Nat.le_trans h_items.1 hB
 refine ae (fn:=mG) rfl ?_
 simp[mG]
 refine cF aT Cl.fin x.items.length [.f,.f,.t,.t,.f,.f,.f,.f,.f,.f,.f,.f,.t,.t,.t,.f,.f,.f,.f,.f,.f,.f,.f,.f,.f,.f,.f] (fun k=>[(14,aa .i64 k)]) (gh (.box [.pv (.str x.name), .pv (.lst (x.items.map XItem.e)), .pv (.int .i64 x.auto)]) (.box [.pv (.str []), .nil, .pv (.int .i64 0)]) (.pv (.str x.name)) (.pv (.int .i64 x.auto)) (x.items.map XItem.e)) rfl ?_ ?_ ?_
 ·exact Kn.q [0,1,2] (by simp[gh,aR,aP,aQ,dY,bp,aN,be,aG,dv,bM,bi,bS,L.ren,aS])
 ·intro k hk
  have ek:=e1 k hk
  have hx:=XItem.e.eq_1 x.items[k]
  have ht:=bW (e:=XItem.e) hk
  rw[hx]at ht
  cases k with
  |zero=>
   simp only[gh,ht]
   simp[fe,hk,hx,ek,bX]
   exact Kn.q [0,1,2,6]
  |succ k=>
   obtain⟨i1,i2,i3,i4,i5,i6⟩:=mZ (n:=x.items.length) (by unfold maxLen;omega) hk
   have b1:min (k+1) x.items.length=k+1:=by omega
   have m1:=eF (m:=k+1+1) (z:=56) (by omega) (by omega)
   simp only[gh,ht]
   generalize hT:List.take (k+1) _=T
   have hTl:T.length=k+1:=by rw[←hT];simp;omega
   simp[fe,hk,hx,ek,i1,i2,i3,i4,i5,i6,hTl,m1]
   exact Kn.q [0,1,2,7]
 ·cases hq:x.items with
  |nil=>simp[fe,gh,nd]
  |cons q qs=>
   have hT:(x.items.map XItem.e).take (qs.length+1)=x.items.map XItem.e:=List.take_of_length_le (by rw[hq];simp)
   rw[hq]at hT
   simp only[List.length_cons,gh,hT]
   simp[fe,nd]
def iM (b0 b1:AObj)(y0:L)(y2:L)(rows:List (List PV)):Nat→List AObj
 |0=>[b0,b1, .box [y0, .nil,y2]]
 |k+1=>[b0,b1, .box [y0, .arr 3,y2], .darr 4 (rows.take (k+1))]
theorem pa {B:Nat}(hB:B≤1048576){x:XStore}(h:x.Ok B):ag Ph aE 187 [.agg [.pv (.str x.name), .pv (.lst (x.items.map XItem.e)), .pv (.int .i64 x.auto)]]=some (.agg [.pv (.str x.name),nd 4 (x.items.map XItem.e), .pv (.int .i64 x.auto)]):=by
 obtain⟨h_name,h_items,h_auto⟩:=h
 have e1:∀k(hk:k<x.items.length),_:=fun k hk=>sL hB (h_items.2 _ (List.getElem_mem hk))
 have hl:x.items.length≤1048576:=Nat.le_trans h_items.1 hB
 refine ae (fn:=pW) rfl ?_
 simp[pW]
 refine cF aT Cl.fin x.items.length [.f,.t,.t,.t,.t,.f,.f,.f,.f,.f,.f,.f,.f,.f,.f,.f,.f,.f,.f,.f,.f,.f,.f,.f,.f,.f,.f,.f,.f] (fun k=>[(4,aa .i64 k)]) (iM (.box [.pv (.str x.name), .pv (.lst (x.items.map XItem.e)), .pv (.int .i64 x.auto)]) (.box [.pv (.str []), .nil, .pv (.int .i64 0)]) (.pv (.str x.name)) (.pv (.int .i64 x.auto)) (x.items.map XItem.e)) rfl ?_ ?_ ?_
 ·exact Kn.q [0,1,2] (by simp[iM,aR,aP,aQ,dY,bp,aN,be,aG,dv,bM,bi,bS,L.ren,aS])
 ·intro k hk
  have ek:=e1 k hk
  have hx:=XItem.e.eq_1 x.items[k]
  have ht:=bW (e:=XItem.e) hk
  rw[hx]at ht
  cases k with
  |zero=>
   simp only[iM,ht]
   simp[gx,hk,hx,ek,bX]
   exact Kn.q [0,1,2,5]
  |succ k=>
   obtain⟨i1,i2,i3,i4,i5,i6⟩:=mZ (n:=x.items.length) (by unfold maxLen;omega) hk
   have b1:min (k+1) x.items.length=k+1:=by omega
   have m1:=eF (m:=k+1+1) (z:=56) (by omega) (by omega)
   simp only[iM,ht]
   generalize hT:List.take (k+1) _=T
   have hTl:T.length=k+1:=by rw[←hT];simp;omega
   simp[gx,hk,hx,ek,i1,i2,i3,i4,i5,i6,hTl,m1]
   exact Kn.q [0,1,2,6]
 ·cases hq:x.items with
  |nil=>simp[gx,iM,nd]
  |cons q qs=>
   have hT:(x.items.map XItem.e).take (qs.length+1)=x.items.map XItem.e:=List.take_of_length_le (by rw[hq];simp)
   rw[hq]at hT
   simp only[List.length_cons,iM,hT]
   simp[gx,nd]
def eU (b0 b1:AObj)(nm:List UInt8)(ver:Int)(U rows:List (List PV)):Nat→List AObj
 |0=>[b0,b1, .box [.pv (.str nm), .pv (.int .i64 ver), .nil, .arr 3], .darr 2 U]
 |k+1=>[b0,b1, .box [.pv (.str nm), .pv (.int .i64 ver), .arr 4, .arr 3], .darr 2 U, .darr 3 (rows.take (k+1))]
theorem sp {B:Nat}(hB:B≤1048576){x:XDatabase}(h:x.Ok B):ag Ph aE 498 [.agg [.pv (.str x.name), .pv (.int .i64 x.version), .pv (.lst (x.stores.map XStore.e)), .pv (.lst (x.unique.map XIndexDef.e))]]=some (.agg [.pv (.str x.name), .pv (.int .i64 x.version),nd 3 (x.stores.map XStore.e), .down 2 (x.unique.map XIndexDef.e)]):=by
 obtain⟨h_name,h_version,h_stores,h_unique⟩:=h
 have F0:Flat 2 (x.unique.map XIndexDef.e):=⟨dH (e:=XIndexDef.e) (fun _=>rfl) _,dC (e:=XIndexDef.e) (z:=2) (fun _=>rfl) _,by rw[List.length_map];have:=h_unique.1;omega⟩
 have hf0:=F0.flat
 have hw0:=F0.wid
 have m0:=eF (m:=(x.unique.map XIndexDef.e).length) (z:=32) (by have:=F0.len;omega) (by omega)
 generalize (x.unique.map XIndexDef.e)=R0 at F0 hf0 hw0 m0⊢
 have e1:∀k(hk:k<x.stores.length),_:=fun k hk=>lU hB (h_stores.2 _ (List.getElem_mem hk))
 have hl:x.stores.length≤1048576:=Nat.le_trans h_stores.1 hB
 refine ae (fn:=jV) rfl ?_
 simp[jV,hf0,hw0,m0]
 refine cF aT Cl.fin x.stores.length [.f,.f,.t,.t,.f,.f,.f,.f,.f,.f,.f,.f,.f,.f,.f,.f,.t,.t,.t,.f,.f,.f,.f,.f,.f,.f,.f,.f,.f,.f,.f] (fun k=>[(18,aa .i64 k)]) (eU (.box [.pv (.str x.name), .pv (.int .i64 x.version), .pv (.lst (x.stores.map XStore.e)), .pv (.lst R0)]) (.box [.pv (.str []), .pv (.int .i64 0), .nil, .nil]) x.name x.version R0 (x.stores.map XStore.e)) rfl ?_ ?_ ?_
 ·exact Kn.q [0,1,2,3] (by simp[eU,aR,aP,aQ,dY,bp,aN,be,aG,dv,bM,bi,bS,L.ren,aS])
 ·intro k hk
  have ek:=e1 k hk
  have hx:=XStore.e.eq_1 x.stores[k]
  have ht:=bW (e:=XStore.e) hk
  rw[hx]at ht
  have N0:=eG 4 (x.stores[k].items.map XItem.e)
  generalize nd 4 (x.stores[k].items.map XItem.e)=n0 at N0 ek
  cases k with
  |zero=>
   simp only[eU,ht]
   rcases N0 with⟨q0,rfl⟩|⟨q0,rfl⟩
   ·simp only[q0]at ek
    simp[cM,hk,hx,ek,bX,q0]
    exact Kn.q [0,1,2,3,6]
   ·simp[cM,hk,hx,ek,bX]
    exact Kn.q [0,1,2,3,7]
  |succ k=>
   obtain⟨i1,i2,i3,i4,i5,i6⟩:=mZ (n:=x.stores.length) (by unfold maxLen;omega) hk
   have b1:min (k+1) x.stores.length=k+1:=by omega
   have m1:=eF (m:=k+1+1) (z:=48) (by omega) (by omega)
   simp only[eU,ht]
   generalize hT:List.take (k+1) _=T
   have hTl:T.length=k+1:=by rw[←hT];simp;omega
   rcases N0 with⟨q0,rfl⟩|⟨q0,rfl⟩
   ·simp only[q0]at ek
    simp[cM,hk,hx,ek,i1,i2,i3,i4,i5,i6,hTl,m1,q0]
    exact Kn.q [0,1,2,3,7]
   ·simp[cM,hk,hx,ek,i1,i2,i3,i4,i5,i6,hTl,m1]
    exact Kn.q [0,1,2,3,8]
 ·cases hq:x.stores with
  |nil=>simp[cM,eU,nd]
  |cons q qs=>
   have hT:(x.stores.map XStore.e).take (qs.length+1)=x.stores.map XStore.e:=List.take_of_length_le (by rw[hq];simp)
   rw[hq]at hT
   simp only[List.length_cons,eU,hT]
   simp[cM,nd]
def iN (b0 b1:AObj)(nm:List UInt8)(ver:Int)(U rows:List (List PV)):Nat→List AObj
 |0=>[b0,b1, .box [.pv (.str nm), .pv (.int .i64 ver), .nil, .arr 3], .darr 2 U]
 |k+1=>[b0,b1, .box [.pv (.str nm), .pv (.int .i64 ver), .arr 4, .arr 3], .darr 2 U, .darr 3 (rows.take (k+1))]
theorem DE {B:Nat}(hB:B≤1048576){x:XDatabase}(h:x.Ok B):ag Ph aE 496 [.agg [.pv (.str x.name), .pv (.int .i64 x.version), .pv (.lst (x.stores.map XStore.e)), .pv (.lst (x.unique.map XIndexDef.e))]]=some (.agg [.pv (.str x.name), .pv (.int .i64 x.version),nd 3 (x.stores.map XStore.e), .down 2 (x.unique.map XIndexDef.e)]):=by
 obtain⟨h_name,h_version,h_stores,h_unique⟩:=h
 have F0:Flat 2 (x.unique.map XIndexDef.e):=⟨dH (e:=XIndexDef.e) (fun _=>rfl) _,dC (e:=XIndexDef.e) (z:=2) (fun _=>rfl) _,by rw[List.length_map];have:=h_unique.1;omega⟩
 have hf0:=F0.flat
 have hw0:=F0.wid
 have m0:=eF (m:=(x.unique.map XIndexDef.e).length) (z:=32) (by have:=F0.len;omega) (by omega)
 generalize (x.unique.map XIndexDef.e)=R0 at F0 hf0 hw0 m0⊢
 have e1:∀k(hk:k<x.stores.length),_:=fun k hk=>pa hB (h_stores.2 _ (List.getElem_mem hk))
 have hl:x.stores.length≤1048576:=Nat.le_trans h_stores.1 hB
 refine ae (fn:=pZ) rfl ?_
 simp[pZ,hf0,hw0,m0]
 refine cF aT Cl.fin x.stores.length [.f,.t,.t,.t,.t,.f,.f,.f,.f,.f,.f,.f,.f,.f,.f,.f,.f,.f,.f,.f,.f,.f,.f,.f,.f,.f,.f,.f,.f,.f,.f,.f,.f] (fun k=>[(4,aa .i64 k)]) (iN (.box [.pv (.str x.name), .pv (.int .i64 x.version), .pv (.lst (x.stores.map XStore.e)), .pv (.lst R0)]) (.box [.pv (.str []), .pv (.int .i64 0), .nil, .nil]) x.name x.version R0 (x.stores.map XStore.e)) rfl ?_ ?_ ?_
 ·exact Kn.q [0,1,2,3] (by simp[iN,aR,aP,aQ,dY,bp,aN,be,aG,dv,bM,bi,bS,L.ren,aS])
 ·intro k hk
  have ek:=e1 k hk
  have hx:=XStore.e.eq_1 x.stores[k]
  have ht:=bW (e:=XStore.e) hk
  rw[hx]at ht
  have N0:=eG 4 (x.stores[k].items.map XItem.e)
  generalize nd 4 (x.stores[k].items.map XItem.e)=n0 at N0 ek
  cases k with
  |zero=>
   simp only[iN,ht]
   rcases N0 with⟨q0,rfl⟩|⟨q0,rfl⟩
   ·simp only[q0]at ek
    simp[eY,hk,hx,ek,bX,q0]
    exact Kn.q [0,1,2,3,5]
   ·simp[eY,hk,hx,ek,bX]
    exact Kn.q [0,1,2,3,6]
  |succ k=>
   obtain⟨i1,i2,i3,i4,i5,i6⟩:=mZ (n:=x.stores.length) (by unfold maxLen;omega) hk
   have b1:min (k+1) x.stores.length=k+1:=by omega
   have m1:=eF (m:=k+1+1) (z:=48) (by omega) (by omega)
   simp only[iN,ht]
   generalize hT:List.take (k+1) _=T
   have hTl:T.length=k+1:=by rw[←hT];simp;omega
   rcases N0 with⟨q0,rfl⟩|⟨q0,rfl⟩
   ·simp only[q0]at ek
    simp[eY,hk,hx,ek,i1,i2,i3,i4,i5,i6,hTl,m1,q0]
    exact Kn.q [0,1,2,3,6]
   ·simp[eY,hk,hx,ek,i1,i2,i3,i4,i5,i6,hTl,m1]
    exact Kn.q [0,1,2,3,7]
 ·cases hq:x.stores with
  |nil=>simp[eY,iN,nd]
  |cons q qs=>
   have hT:(x.stores.map XStore.e).take (qs.length+1)=x.stores.map XStore.e:=List.take_of_length_le (by rw[hq];simp)
   rw[hq]at hT
   simp only[List.length_cons,iN,hT]
   simp[eY,nd]
end Gi
