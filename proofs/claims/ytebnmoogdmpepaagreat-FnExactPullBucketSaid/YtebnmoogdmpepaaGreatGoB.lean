/- Of this proof. -/
import Derived.Test.YtebnmoogdmpepaaGreatGkm
import Derived.Test.YtebnmoogdmpepaaGreatGkp
import Derived.Test.YtebnmoogdmpepaaGreatGkd
set_option linter.unusedSimpArgs false
set_option linter.unusedVariables false
namespace Gi
open Go Go.RowKit
set_option maxHeartbeats 8000000
set_option maxRecDepth 4000
attribute [local simp] start oH bJ cI cS ed cR dZ eu ep pz pI pA pJ pB pK pC pL pD pM pE pO pF pP pG pQ pH pR V.cells plain bA fR isInt isStr isBool bin bY gj bZ gl ee un asList L.view aj V.view viewL aW am ce bD bS comp aQ bI cH bP bq bo bp aC aq aY al aB aI au bi bF aE br bt V.flat L.flat db da bB putAt thaw thawL thawT V.ow ej cV cW ca eh cd cU freezeVs freezeLs freezeL V.mut L.mut aH dE fK aZ bC aN dv bR bj bV L.ren aP dg bW dq bU bH wp_seq wp_block bg cZ cf bE cj wp_skip wp_exit wp_ret ct cr cz cu cC cD cB bO aF L.notArr aU aS aT cY bz storeD bc eP bu co ba k8 L.mov L.closed V.closed PV.bare PV.flat
def Pz (o:XOutbox)(k:Nat):Bool:=match o.writes[k]? with
 |some w=> !(Lu w)||(!(w.dev==o.dev)|| !(w.seq==IntKind.i64.wrap (IntKind.i64.wrap (o.next-(o.writes.length:Int))+(k:Int))))
 |none=>false
def qQ (o:XOutbox):Bool:=rg o.dev 1 1000000&&(rg o.next 1 1000000&&(!(cT 20 o.writes.length)&& !(gD o.writes.length (Pz o))))
theorem te {o:XOutbox}(h:o.Ok maxLen):ag Ph aM 407 [o.v]=some (aA (qQ o)):=by
 have hl:=h.2.2.1
 refine ae (fn:=oU) rfl ?_
 simp +contextual (maxSteps:=9999999) [oU]
 refine aG bm Cl.fin [.f,.t,.f,.t,.f,.f,.f,.f,.f,.f,.t,.t,.t,.f,.f,.f,.f,.f,.f,.f,.f,.f,.f,.f,.f,.f,.f,.f,.f,.f,.f,.f,.f,.f,.f,.f,.f,.f,.f,.f,.f,.f,.f,.f,.f,.f,.f,.f,.f,.f,.f] (fun k=>[(12,aa .i64 k)]) o.writes.length (Pz o) rfl (by simp) (fun k hk _=> ?_) (fun _ hp=> ?_)
 ·have e1:=nM (h.2.2.2 _ (Zf hk))
  simp +contextual (maxSteps:=9999999) [j0,Pz,qQ,hk,e1,aR hl hk,bd hk,XWrite.e.eq_1 o.writes[k]]
 ·simp +contextual (maxSteps:=9999999) [j0,hp,qQ,bL]
theorem tz {o:XOutbox}(h:o.Ok maxLen):ag Ph aM 402 [o.v]=some (aA (qQ o)):=by
 have hl:=h.2.2.1
 have e2:=cq o.dev 1 1000000
 have e3:=cq o.next 1 1000000
 unfold qQ
 refine ae (fn:=ii) rfl ?_
 cases c1:rg o.dev 1 1000000<;>rw[c1]at e2
 ·simp(maxSteps:=9999999) [ii,e2]
 cases c2:rg o.next 1 1000000<;>rw[c2]at e3
 ·simp(maxSteps:=9999999) [ii,e2,e3]
 cases c3:cT 20 o.writes.length
 rotate_left
 ·simp(maxSteps:=9999999) [ii,e2,e3,c3]
 simp(maxSteps:=9999999) [ii,e2,e3,c3]
 refine aG bm Cl.fin [.f,.t,.f,.t,.t,.f,.f,.f,.f,.f,.f,.f,.f,.f,.f,.f,.f,.f,.f,.f,.f,.f,.f,.f,.f,.f,.f,.f,.f,.f,.f,.f,.f,.f,.f,.f,.f,.f,.f,.f,.f,.f,.f,.f,.f,.f,.f,.f,.f,.f,.f,.f,.f,.f,.f,.f,.f,.f,.f,.f] (fun k=>[(4,aa .i64 k)]) o.writes.length (Pz o) rfl (by simp) (fun k hk _=> ?_) (fun _ hp=> ?_)
 ·have e1:=nN (h.2.2.2 _ (Zf hk))
  simp +contextual (maxSteps:=9999999) [j7,Pz,hk,e1,aR hl hk,bd hk,XWrite.e.eq_1 o.writes[k]]
 ·simp +contextual (maxSteps:=9999999) [j7,hp]
def vw :List UInt8:=[110,111,116,101,115]
def qR (r:XReplica):Bool:=eO r.base&&(r.base.name==vw&&(rg r.seen 0 1000000000000&&qQ r.sync.outbox))
theorem rX {r:XReplica}(h:r.Ok maxLen):ag Ph aM 398 [r.v]=some (aA (qR r)):=by
 have e1:=ik h.1
 have e2:=bL r.seen 0 1000000000000
 have e3:=te h.2.2.1
 unfold qR
 generalize eO r.base=b1 at e1⊢
 generalize rg r.seen 0 1000000000000=b2 at e2⊢
 generalize qQ r.sync.outbox=b3 at e3⊢
 obtain⟨b4,h4⟩:∃g,(r.base.name==vw)=g:=⟨_,rfl⟩
 rw[h4]
 unfold vw at h4
 refine ae (fn:=nU) rfl ?_
 cases b1<;>cases b2<;>cases b3<;>cases b4<;>simp(maxSteps:=9999999) [nU,e1,e2,e3,h4]
theorem sd {r:XReplica}(h:r.Ok maxLen):ag Ph aM 394 [r.v]=some (aA (qR r)):=by
 have e1:=lX h.1
 have e2:=cq r.seen 0 1000000000000
 have e3:=tz h.2.2.1
 unfold qR
 generalize eO r.base=b1 at e1⊢
 generalize rg r.seen 0 1000000000000=b2 at e2⊢
 generalize qQ r.sync.outbox=b3 at e3⊢
 obtain⟨b4,h4⟩:∃g,(r.base.name==vw)=g:=⟨_,rfl⟩
 rw[h4]
 unfold vw at h4
 refine ae (fn:=oe) rfl ?_
 cases b1<;>cases b2<;>cases b3<;>cases b4<;>simp(maxSteps:=9999999) [oe,e1,e2,e3,h4]
def sU (x y:XLock):Bool:=y.name==x.name&&(x.held&&(!y.held||(!x.shared|| !y.shared)))
def MY (ls:List XLock)(k:Nat):Bool:=match ls[k]? with
 |some x=> !(uc x.name)||(!(rg x.page 1 1000000000000)||gD k (ir (sU x) ls))
 |none=>false
def ud (ls:List XLock):Bool:= !(gD ls.length (MY ls))&& !(cT 12 ls.length)
theorem wG {ls:List XLock}(hl:ls.length≤maxLen)(h:∀x∈ls,x.Ok maxLen):ag Ph aM 380 [.agg [.pv (.lst (ls.map XLock.e))]]=some (aA (ud ls)):=by
 unfold ud
 refine ae (fn:=mf) rfl ?_
 simp +contextual (maxSteps:=9999999) [mf]
 refine aG bm Cl.fin [.f,.t,.f,.f,.f,.f,.f,.f,.t,.t,.t,.f,.f,.f,.f,.f,.f,.f,.f,.f,.f,.f,.f,.f,.f,.f,.f,.f,.f,.f,.f,.f,.f,.f,.f,.f,.f,.f,.f,.f,.f,.f,.f,.f,.f,.f,.f,.f,.f,.f,.f,.f,.f,.f,.f,.f,.f,.f,.f,.f,.f,.f,.f,.f] (fun k=>[(10,aa .i64 k)]) ls.length (MY ls) rfl (by simp) (fun k hk _=> ?_) (fun _ hp=> ?_)
 ·have e1:=xY (h _ (Zf hk)).1
  have e2:=bL ls[k].page 1 1000000000000
  have hx:=XLock.e.eq_1 ls[k]
  have w:=dC (e:=XLock.e) (z:=4) (fun _=>rfl) ls
  have hb:MY ls k=(!(uc ls[k].name)||(!(rg ls[k].page 1 1000000000000)||gD k (ir (sU ls[k]) ls))):=by simp[MY,hk]
  rw[hb]
  generalize uc ls[k].name=b1 at e1⊢
  generalize rg ls[k].page 1 1000000000000=b2 at e2⊢
  cases b1
  ·simp +contextual (maxSteps:=9999999) [eF,hk,hx,e1,bd hk]
  cases b2
  ·simp +contextual (maxSteps:=9999999) [eF,hk,hx,e1,e2,bd hk]
  cases hD:gD k (ir (sU ls[k]) ls)
  ·simp(maxSteps:=9999999) [eF,hk,hx,e1,e2,w,Nat.le_of_lt hk,bd hk]
   refine aG bm Cl.kn [.f,.t,.f,.f,.t,.f,.f,.f,.t,.t,.t,.f,.f,.f,.f,.f,.f,.f,.f,.f,.f,.f,.f,.f,.f,.f,.f,.f,.t,.t,.t,.f,.f,.f,.f,.f,.f,.f,.f,.f,.f,.f,.f,.f,.f,.f,.f,.f,.f,.f,.f,.f,.f,.f,.f,.f,.f,.f,.f,.f,.f,.f,.f,.f] (fun j=>[(30,aa .i64 j)]) k (ir (sU ls[k]) ls) rfl (by simp) (fun i hi _=> ?_) (fun _ hq=> ?_)
   ·have hi2:i<ls.length:=by omega
    simp +contextual (maxSteps:=9999999) [eX,ir,sU,hi,hi2,hk,hx,XLock.e.eq_1 ls[i],aR hl hi2,bd hi,hD]
   ·simp(maxSteps:=9999999) [eX,aR hl hk]
  ·simp(maxSteps:=9999999) [eF,hk,hx,e1,e2,w,Nat.le_of_lt hk,bd hk]
   refine aG bm (Cl.imp bm Cl.fin rfl) [.f,.t,.f,.f,.t,.f,.f,.f,.t,.t,.t,.f,.f,.f,.f,.f,.f,.f,.f,.f,.f,.f,.f,.f,.f,.f,.f,.f,.t,.t,.t,.f,.f,.f,.f,.f,.f,.f,.f,.f,.f,.f,.f,.f,.f,.f,.f,.f,.f,.f,.f,.f,.f,.f,.f,.f,.f,.f,.f,.f,.f,.f,.f,.f] (fun j=>[(30,aa .i64 j)]) k (ir (sU ls[k]) ls) rfl (by simp) (fun i hi _=> ?_) (fun _ hq=> ?_)
   ·have hi2:i<ls.length:=by omega
    simp +contextual (maxSteps:=9999999) [eX,ir,sU,hi,hi2,hk,hx,XLock.e.eq_1 ls[i],aR hl hi2,bd hi,hD]
   ·rw[hD]at hq;cases hq
 ·simp(maxSteps:=9999999) [eF,hp]
theorem wU {ls:List XLock}(hl:ls.length≤maxLen)(h:∀x∈ls,x.Ok maxLen):ag Ph aM 378 [.agg [.pv (.lst (ls.map XLock.e))]]=some (aA (ud ls)):=by
 unfold ud
 refine ae (fn:=mA) rfl ?_
 simp +contextual (maxSteps:=9999999) [mA]
 refine aG bm Cl.fin [.f,.t,.f,.t,.f,.f,.f,.f,.f,.f,.f,.f,.f,.f,.f,.f,.f,.f,.f,.f,.f,.f,.f,.f,.f,.f,.f,.f,.f,.f,.f,.f,.f,.f,.f,.f,.f,.f,.f,.f,.f,.f,.f,.f,.f,.f,.f,.f,.f,.f,.f,.f,.f,.f,.f,.f,.f,.f,.f,.f,.f,.f,.f,.f,.f,.f,.f] (fun k=>[(3,aa .i64 k)]) ls.length (MY ls) rfl (by simp) (fun k hk _=> ?_) (fun _ hp=> ?_)
 ·have e1:=yq (h _ (Zf hk)).1
  have e2:=cq ls[k].page 1 1000000000000
  have hx:=XLock.e.eq_1 ls[k]
  have hb:MY ls k=(!(uc ls[k].name)||(!(rg ls[k].page 1 1000000000000)||gD k (ir (sU ls[k]) ls))):=by simp[MY,hk]
  rw[hb]
  generalize uc ls[k].name=b1 at e1⊢
  generalize rg ls[k].page 1 1000000000000=b2 at e2⊢
  cases b1
  ·simp +contextual (maxSteps:=9999999) [eH,hk,hx,e1,bd hk]
  cases b2
  ·simp +contextual (maxSteps:=9999999) [eH,hk,hx,e1,e2,bd hk]
  cases hD:gD k (ir (sU ls[k]) ls)
  ·simp(maxSteps:=9999999) [eH,hk,hx,e1,e2,bd hk]
   refine aG bm Cl.kn [.f,.t,.f,.t,.t,.t,.f,.f,.f,.f,.f,.f,.f,.f,.f,.f,.f,.f,.f,.f,.f,.f,.f,.f,.f,.f,.f,.f,.f,.f,.f,.f,.f,.f,.f,.f,.f,.f,.f,.f,.f,.f,.f,.f,.f,.f,.f,.f,.f,.f,.f,.f,.f,.f,.f,.f,.f,.f,.f,.f,.f,.f,.f,.f,.f,.f,.f] (fun j=>[(5,aa .i64 j)]) k (ir (sU ls[k]) ls) rfl (by simp) (fun i hi _=> ?_) (fun _ hq=> ?_)
   ·have hi2:i<ls.length:=by omega
    simp +contextual (maxSteps:=9999999) [fb,ir,sU,hi,hi2,hk,hx,XLock.e.eq_1 ls[i],aR hl hi2,bd hi,hD]
   ·simp(maxSteps:=9999999) [fb,aR hl hk]
  ·simp(maxSteps:=9999999) [eH,hk,hx,e1,e2,bd hk]
   refine aG bm (Cl.imp bm Cl.fin rfl) [.f,.t,.f,.t,.t,.t,.f,.f,.f,.f,.f,.f,.f,.f,.f,.f,.f,.f,.f,.f,.f,.f,.f,.f,.f,.f,.f,.f,.f,.f,.f,.f,.f,.f,.f,.f,.f,.f,.f,.f,.f,.f,.f,.f,.f,.f,.f,.f,.f,.f,.f,.f,.f,.f,.f,.f,.f,.f,.f,.f,.f,.f,.f,.f,.f,.f,.f] (fun j=>[(5,aa .i64 j)]) k (ir (sU ls[k]) ls) rfl (by simp) (fun i hi _=> ?_) (fun _ hq=> ?_)
   ·have hi2:i<ls.length:=by omega
    simp +contextual (maxSteps:=9999999) [fb,ir,sU,hi,hi2,hk,hx,XLock.e.eq_1 ls[i],aR hl hi2,bd hi,hD]
   ·rw[hD]at hq;cases hq
 ·simp(maxSteps:=9999999) [eH,hp]
def Rv (l:List XApplied)(k:Nat):Bool:=match l[k]?,l[k-1]? with
 |some x,some y=> !(rg x.dev 1 1000000)||(!(rg x.seq 0 1000000)||(cT 0 k&& !(cT y.dev x.dev)))
 |_,_=>false
def r7 (s:XServer):Bool:= !(gD s.applied.length (Rv s.applied))&&(!(gD s.changes.length (ir (fun w=> !(Lu w)) s.changes))&&(eO s.store&&(s.store.name==vw&& !(cT 60 s.applied.length))))
theorem tf {s:XServer}(h:s.Ok maxLen):ag Ph aM 382 [s.v]=some (aA (r7 s)):=by
 obtain⟨h1,⟨h2,h3⟩,h4,h5⟩:=h
 have e1:=ik h1
 have e2:=fun v=>bL v 1 1000000
 have e3:=fun v=>bL v 0 1000000
 unfold r7
 refine ae (fn:=oW) rfl ?_
 simp +contextual (maxSteps:=9999999) [oW]
 refine aG bm Cl.fin [.f,.t,.f,.f,.f,.f,.f,.f,.t,.t,.t,.f,.f,.f,.f,.f,.f,.f,.f,.f,.f,.f,.f,.f,.f,.f,.f,.f,.f,.f,.f,.f,.f,.f,.f,.f,.f,.f,.f,.f,.f,.f,.f,.f,.f,.f,.f,.f,.f,.f,.f,.f,.f,.f,.f,.f,.f,.f,.f,.f,.f,.f,.f,.f,.f,.f,.f,.f] (fun k=>[(10,aa .i64 k)]) s.applied.length (Rv s.applied) rfl (by simp) (fun k hk _=> ?_) (fun _ hp=> ?_)
 ·obtain⟨q1,q2⟩:=wQ h2 hk
  simp +contextual (maxSteps:=9999999) [it,Rv,hk,q1,q2,e2,e3,aR h2 hk,bd hk,XApplied.e.eq_1 s.applied[k],XApplied.e.eq_1 s.applied[k-1]]
 ·simp(maxSteps:=9999999) [it,hp]
  refine aG bm Cl.fin [.f,.t,.f,.f,.f,.f,.f,.f,.f,.f,.f,.f,.f,.f,.f,.f,.f,.f,.f,.f,.f,.f,.f,.f,.f,.f,.f,.f,.f,.f,.f,.f,.f,.f,.f,.f,.f,.f,.f,.f,.f,.f,.f,.t,.t,.t,.f,.f,.f,.f,.f,.f,.f,.f,.f,.f,.f,.f,.f,.f,.f,.f,.f,.f,.f,.f,.f,.f] (fun k=>[(45,aa .i64 k)]) s.changes.length (ir (fun w=> !(Lu w)) s.changes) rfl (by simp) (fun k hk _=> ?_) (fun _ hp=> ?_)
  ·have e4:=nM (h5 _ (Zf hk))
   simp +contextual (maxSteps:=9999999) [j4,ir,hk,e4,aR h4 hk,bd hk,XWrite.e.eq_1 s.changes[k]]
  ·simp +contextual (maxSteps:=9999999) [j4,hp,e1,vw]
theorem tA {s:XServer}(h:s.Ok maxLen):ag Ph aM 376 [s.v]=some (aA (r7 s)):=by
 obtain⟨h1,⟨h2,h3⟩,h4,h5⟩:=h
 have e1:=lX h1
 have e2:=fun v=>cq v 1 1000000
 have e3:=fun v=>cq v 0 1000000
 unfold r7
 refine ae (fn:=ph) rfl ?_
 simp +contextual (maxSteps:=9999999) [ph]
 refine aG bm Cl.fin [.f,.t,.f,.t,.f,.f,.f,.f,.f,.f,.f,.f,.f,.f,.f,.f,.f,.f,.f,.f,.f,.f,.f,.f,.f,.f,.f,.f,.f,.f,.f,.f,.f,.f,.f,.f,.f,.f,.f,.f,.f,.f,.f,.f,.f,.f,.f,.f,.f,.f,.f,.f,.f,.f,.f,.f,.f,.f,.f,.f,.f,.f,.f,.f,.f,.f,.f,.f,.f,.f,.f,.f,.f,.f,.f,.f,.f,.f,.f] (fun k=>[(3,aa .i64 k)]) s.applied.length (Rv s.applied) rfl (by simp) (fun k hk _=> ?_) (fun _ hp=> ?_)
 ·obtain⟨q1,q2⟩:=wQ h2 hk
  simp +contextual (maxSteps:=9999999) [iu,Rv,hk,q1,q2,e2,e3,aR h2 hk,bd hk,XApplied.e.eq_1 s.applied[k],XApplied.e.eq_1 s.applied[k-1]]
 ·simp(maxSteps:=9999999) [iu,hp]
  refine aG bm Cl.fin [.f,.t,.f,.f,.t,.f,.f,.f,.f,.f,.f,.f,.f,.f,.f,.f,.f,.f,.f,.f,.f,.f,.f,.f,.f,.f,.f,.f,.f,.f,.f,.f,.f,.f,.f,.f,.f,.f,.f,.f,.f,.f,.f,.f,.f,.f,.f,.f,.f,.f,.f,.f,.f,.f,.f,.f,.f,.f,.f,.f,.f,.f,.f,.f,.f,.f,.f,.f,.f,.f,.f,.f,.f,.f,.f,.f,.f,.f,.f] (fun k=>[(4,aa .i64 k)]) s.changes.length (ir (fun w=> !(Lu w)) s.changes) rfl (by simp) (fun k hk _=> ?_) (fun _ hp=> ?_)
  ·have e4:=nN (h5 _ (Zf hk))
   simp +contextual (maxSteps:=9999999) [j9,ir,hk,e4,aR h4 hk,bd hk,XWrite.e.eq_1 s.changes[k]]
  ·simp +contextual (maxSteps:=9999999) [j9,hp,e1,vw]
def Rw (l:List (List UInt8))(k:Nat):Bool:=match l[k]?,l[k-1]? with
 |some x,some y=> !(dB x)||(cT 0 k&& !(Op.bytesLess y x))
 |_,_=>false
def uf (s:XSite):Bool:= !(gD s.files.length (Rw s.files))&&(dB s.name&&(rg s.version 1 1000000000000&&rg s.files.length 1 6))
theorem FB {s:XSite}(h:s.Ok maxLen):ag Ph aM 381 [s.v]=some (aA (uf s)):=by
 obtain⟨h1,_,h2,h3⟩:=h
 have e1:=bX h1
 unfold uf
 refine ae (fn:=sn) rfl ?_
 simp +contextual (maxSteps:=9999999) [sn]
 refine aG bm Cl.fin [.f,.t,.f,.f,.f,.f,.t,.t,.t,.f,.f,.f,.f,.f,.f,.f,.f,.f,.f,.f,.f,.f,.f,.f,.f,.f,.f,.f,.f,.f,.f,.f,.f,.f,.f,.f,.f,.f,.f,.f,.f,.f,.f,.f,.f] (fun k=>[(8,aa .i64 k)]) s.files.length (Rw s.files) rfl (by simp) (fun k hk _=> ?_) (fun _ hp=> ?_)
 ·obtain⟨q1,q2⟩:=wQ h2 hk
  have e2:=bX (h3 _ (Zf hk))
  simp +contextual (maxSteps:=9999999) [lL,Rw,hk,q1,q2,e2,aR h2 hk,bd hk,vC]
 ·simp +contextual (maxSteps:=9999999) [lL,hp,e1,bL]
theorem Gb {s:XSite}(h:s.Ok maxLen):ag Ph aM 375 [s.v]=some (aA (uf s)):=by
 obtain⟨h1,_,h2,h3⟩:=h
 have e1:=du h1
 unfold uf
 refine ae (fn:=sw) rfl ?_
 simp +contextual (maxSteps:=9999999) [sw]
 refine aG bm Cl.fin [.f,.t,.f,.t,.f,.f,.f,.f,.f,.f,.f,.f,.f,.f,.f,.f,.f,.f,.f,.f,.f,.f,.f,.f,.f,.f,.f,.f,.f,.f,.f,.f,.f,.f,.f,.f,.f,.f,.f,.f,.f,.f,.f,.f,.f,.f,.f,.f,.f,.f] (fun k=>[(3,aa .i64 k)]) s.files.length (Rw s.files) rfl (by simp) (fun k hk _=> ?_) (fun _ hp=> ?_)
 ·obtain⟨q1,q2⟩:=wQ h2 hk
  have e2:=du (h3 _ (Zf hk))
  simp +contextual (maxSteps:=9999999) [lP,Rw,hk,q1,q2,e2,aR h2 hk,bd hk,vC]
 ·simp +contextual (maxSteps:=9999999) [lP,hp,e1,cq]
def ue (p:XPage):Bool:= !(gD p.loaded.length (ir (fun x=> !(dB x.path)|| !(x.version==p.version)) p.loaded))&&(rg p.id 1 1000000000000&&(dB p.site&&(dB p.top&&(rg p.version 1 1000000000000&& !(cT 8 p.loaded.length)))))
theorem FA {p:XPage}(h:p.Ok maxLen):ag Ph aM 151 [p.v]=some (aA (ue p)):=by
 obtain⟨_,h1,h2,_,⟨h3,h4⟩,_⟩:=h
 have e1:=bX h1
 have e2:=bX h2
 unfold ue
 refine ae (fn:=sk) rfl ?_
 simp +contextual (maxSteps:=9999999) [sk]
 refine aG bm Cl.fin [.f,.t,.f,.f,.f,.f,.t,.t,.t,.f,.f,.f,.f,.f,.f,.f,.f,.f,.f,.f,.f,.f,.f,.f,.f,.f,.f,.f,.f,.f,.f,.f,.f,.f,.f,.f,.f,.f,.f,.f,.f,.f,.f,.f,.f,.f,.f,.f] (fun k=>[(8,aa .i64 k)]) p.loaded.length (ir (fun x=> !(dB x.path)|| !(x.version==p.version)) p.loaded) rfl (by simp) (fun k hk _=> ?_) (fun _ hp=> ?_)
 ·have e3:=bX (h4 _ (Zf hk)).1
  simp +contextual (maxSteps:=9999999) [lK,ir,hk,e3,aR h3 hk,bd hk,XLoaded.e.eq_1 p.loaded[k]]
 ·simp +contextual (maxSteps:=9999999) [lK,hp,e1,e2,bL]
theorem Ga {p:XPage}(h:p.Ok maxLen):ag Ph aM 149 [p.v]=some (aA (ue p)):=by
 obtain⟨_,h1,h2,_,⟨h3,h4⟩,_⟩:=h
 have e1:=du h1
 have e2:=du h2
 unfold ue
 refine ae (fn:=sv) rfl ?_
 simp +contextual (maxSteps:=9999999) [sv]
 refine aG bm Cl.fin [.f,.t,.f,.t,.f,.f,.f,.f,.f,.f,.f,.f,.f,.f,.f,.f,.f,.f,.f,.f,.f,.f,.f,.f,.f,.f,.f,.f,.f,.f,.f,.f,.f,.f,.f,.f,.f,.f,.f,.f,.f,.f,.f,.f,.f,.f,.f,.f,.f,.f,.f,.f,.f,.f] (fun k=>[(3,aa .i64 k)]) p.loaded.length (ir (fun x=> !(dB x.path)|| !(x.version==p.version)) p.loaded) rfl (by simp) (fun k hk _=> ?_) (fun _ hp=> ?_)
 ·have e3:=du (h4 _ (Zf hk)).1
  simp +contextual (maxSteps:=9999999) [lO,ir,hk,e3,aR h3 hk,bd hk,XLoaded.e.eq_1 p.loaded[k]]
 ·simp +contextual (maxSteps:=9999999) [lO,hp,e1,e2,cq]
end Gi
namespace Gi
open Go Go.RowKit
set_option maxHeartbeats 4000000
def Rb :Nat→Nat→List UInt8
 |0,_=>[]
 |f+1,n=>if n<128 then [UInt8.ofNat n]else UInt8.ofNat (n%128+128)::Rb f (n/128)
def tM (n:Nat):List UInt8:=Rb 6 n
theorem Pm :∀(f n:Nat),(Rb f n).length≤f
 |0,n=>by simp[Rb]
 |f+1,n=>by
  have:=Pm f (n/128)
  unfold Rb
  split<;>simp<;>omega
theorem ut (n:Nat):(tM n).length≤6:=Pm 6 n
theorem Iu {n:Nat}(h:n<128):(tM n).length=1:=by simp[tM,Rb,h]
def Kl (s:List UInt8):List UInt8:=tM s.length++s
def US (x:Nat):List UInt8:=[UInt8.ofNat (x/1099511627776),UInt8.ofNat (x/4294967296),UInt8.ofNat (x/16777216),UInt8.ofNat (x/65536),UInt8.ofNat (x/256),UInt8.ofNat x]
def mV (k:XKey):List UInt8:=if kD k=true then UInt8.ofNat k.kind.toNat::((if k.kind=2 then []else US (k.n+1000000000000).toNat)++k.text)else []
theorem vA {n a b:Int}:rg n a b=true↔a≤n∧n≤b:=by simp[rg,cT]
theorem wl {k:XKey}(h:kD k=true):1≤k.kind∧k.kind≤3∧-1000000000000≤k.n∧k.n≤1000000000000∧(k.kind=2→k.n=0)∧k.text.length≤12:=by
 unfold kD vn at h
 simp only[Zh,vA,Bool.or_eq_true,Yb,beq_eq_false_iff_ne,beq_iff_eq]at h
 obtain⟨⟨⟨⟨⟨h1,h2⟩,h3,h4⟩,h5⟩,_,h6⟩,_⟩:=h
 have:=of_decide_eq_false h6
 exact⟨h1,h2,h3,h4,fun q=>h5.resolve_left (fun z=>z q),by omega⟩
theorem El (k:XKey):(mV k).length≤19:=by
 unfold mV
 split
 ·rename_i h
  have:=(wl h).2.2.2.2.2
  split<;>simp[US]<;>omega
 ·simp
def Tm (f:XField):List UInt8:=Kl f.name++tM f.n.toNat
def jn (l:List XField):List UInt8:=l.flatMap Tm
def uI (r:XRecord):List UInt8:=if eA r.fs=true then tM r.fs.length++jn r.fs else []
def V6 (f:XField):Prop:=f.name.length≤8∧0≤f.n∧f.n≤1000000000000
theorem FF {s:List UInt8}(h:dB s=true):1≤s.length∧s.length≤8:=by
 simp only[dB,sL,Zh,vA]at h
 omega
theorem tu {r:XRecord}(h:eA r.fs=true):r.fs.length≤6∧∀f∈r.fs,V6 f:=by
 simp only[eA,Zh,Yb]at h
 have hl:=of_decide_eq_false h.2
 refine⟨by omega,fun f m=> ?_⟩
 obtain⟨j,hj,rfl⟩:=Y4.1 m
 have:=uQ h.1 hj
 simp only[MX,hj,show j-1<r.fs.length by omega,Zn,Yp,Y6,vA]at this
 have q:=FF this.1
 exact⟨q.2,this.2.1.1,by omega⟩
theorem wc :∀(l:List XField),(∀f∈l,V6 f)→(jn l).length≤15*l.length
 |[],h=>by simp[jn]
 |f::l,h=>by
  have ih:=wc l (fun g m=>h g (by simp[m]))
  have h1:=(h f (by simp)).1
  have h2:=Iu (n:=f.name.length) (by omega)
  have h3:=ut f.n.toNat
  simp only[jn,Yn,Tm,Kl,Zw,Zo]at ih⊢
  omega
theorem Em (r:XRecord):(uI r).length≤91:=by
 unfold uI
 split
 ·rename_i h
  obtain⟨h1,h2⟩:=tu h
  have:=wc r.fs h2
  have:=Iu (n:=r.fs.length) (by omega)
  simp only[Zw]
  omega
 ·simp
structure Raw where
 kind:Nat
 a:List UInt8
 b:List UInt8
 c:List UInt8
 d:List UInt8
structure XOp where
 kind:Int
 store:List UInt8
 key:XKey
 rcd:XRecord
 field:List UInt8
def XOp.e (x:XOp):List PV:=[.int .i64 x.kind, .str x.store, .int .i64 x.key.kind, .int .i64 x.key.n, .str x.key.text, .lst (x.rcd.fs.map XField.e), .str x.field]
abbrev XOp.v (x:XOp):V:= .agg [.pv (.int .i64 x.kind), .pv (.str x.store), .pv (.int .i64 x.key.kind), .pv (.int .i64 x.key.n), .pv (.str x.key.text), .pv (.lst (x.rcd.fs.map XField.e)), .pv (.str x.field)]
def XOp.Ok (B:Nat)(x:XOp):Prop:=ou x.kind∧x.store.length≤B∧x.key.Ok B∧x.rcd.Ok B∧x.field.length≤B
end Gi
namespace Gi
open Go Go.RowKit
set_option maxHeartbeats 8000000
set_option maxRecDepth 4000
attribute [local simp] start oH bJ cI cS ed cR dZ eu ep pz pI pA pJ pB pK pC pL pD pM pE pO pF pP pG pQ pH pR V.cells plain bA fR isInt isStr isBool bin bY gj bZ gl ee un asList L.view aj V.view viewL aW am ce bD bS comp aQ bI cH bP bq bo bp aC aq aY al aB aI au bi bF aE br bt V.flat L.flat db da bB putAt thaw thawL thawT V.ow ej cV cW ca eh cd cU freezeVs freezeLs freezeL V.mut L.mut aH dE fK aZ bC aN dv bR bj bV L.ren aP dg bW dq bU bH wp_seq wp_block bg cZ cf bE cj wp_skip wp_exit wp_ret ct cr cz cu cC cD cB bO aF L.notArr aU aS aT cY bz storeD bc eP bu co ba k8 L.mov L.closed V.closed PV.bare PV.flat
theorem Ol {call:Nat→List V→Option V}{Q:Ex→St→Prop}{ks:List Fr}(hc:rt call)(hQ:Cl Q){c:ACode}{t:List V}{h:List AObj}{α:Type}(m:List Mk)(U:α→List (Nat×V))(H:α→List AObj)(next:α→Option α)(μ:α→Nat)(I:α→Prop)(a0:α)(i0:I a0)(hz:(c.zOk&&kz ks)=true)(kn:Kn ⟨nL (iy m t) (U a0),H a0⟩ ⟨t,h⟩)
 (st:∀a b,I a→next a=some b→μ b<μ a∧I b∧wp call (fun e τ=>e= .normal∧Kn ⟨nL (iy m t) (U b),H b⟩ τ) [] (aw call aL c ⟨nL (iy m t) (U a),H a⟩))
 (en:∀a,I a→next a=none→wp call Q (.sq uG::ks) (aw call aL c ⟨nL (iy m t) (U a),H a⟩)):wp call Q ks (aw call aL (.loop c) ⟨t,h⟩):=by
 have key:∀n a,μ a≤n→I a→wp call Q ks (aw call aL (.loop c) ⟨nL (iy m t) (U a),H a⟩):=by
  intro n
  induction n with
  |zero=>
   intro a hn ia
   cases q:next a with
   |none=>exact tn (en a ia q)
   |some b=>have:=(st a b ia q).1;omega
  |succ n ih=>
   intro a hn ia
   cases q:next a with
   |none=>exact tn (en a ia q)
   |some b=>
    obtain⟨h1,h2,h3⟩:=st a b ia q
    exact BG hc hQ hz h3 (ih b (by omega) h2)
 have hz':kz (.sq (.loop c)::ks)=true:=by simpa only[kz,ACode.zOk]using hz
 exact Ki hc hQ ⟨nL (iy m t) (U a0),H a0⟩ hz' kn (key _ a0 (Zm _) i0)
theorem Kg {n:Nat}(h:n<256):IntKind.u8.wrap (n:Int)=(n:Int)∧(UInt8.ofNat n).toNat=n:=by
 refine⟨?_,by simp;omega⟩
 simp[IntKind.wrap,IntKind.signed,IntKind.bits]
 omega
theorem Ur {n:Nat}(h:n<4611686018427387904):IntKind.i64.wrap ((BitVec.ofInt IntKind.i64.bits (n:Int)&&&BitVec.ofInt IntKind.i64.bits 127).toNat:Int)=((n%128:Nat):Int):=by
 have e1:(BitVec.ofInt IntKind.i64.bits (n:Int)).toNat=n:=by
  show(BitVec.ofInt 64 (n:Int)).toNat=n
  simp[BitVec.toNat_ofInt];omega
 have e2:(BitVec.ofInt IntKind.i64.bits 127).toNat=127:=by decide
 rw[BitVec.toNat_and,e1,e2,show(127:Nat)=2^7-1 from rfl,Nat.and_two_pow_sub_one_eq_mod]
 rw[IntKind.wrap_i64];omega
theorem Vp {n:Nat}(h:n<128):IntKind.i64.wrap ((BitVec.ofInt IntKind.i64.bits (n:Int)|||BitVec.ofInt IntKind.i64.bits 128).toNat:Int)=((n+128:Nat):Int):=by
 have e1:(BitVec.ofInt IntKind.i64.bits (n:Int)).toNat=n:=by
  show(BitVec.ofInt 64 (n:Int)).toNat=n
  simp[BitVec.toNat_ofInt];omega
 have e2:(BitVec.ofInt IntKind.i64.bits 128).toNat=128:=by decide
 have e3:=Nat.two_pow_add_eq_or_of_lt (i:=7) (b:=n) (by omega) 1
 rw[BitVec.toNat_or,e1,e2,Nat.or_comm,show(128:Nat)=2^7*1 from rfl,←e3]
 rw[IntKind.wrap_i64];omega
theorem kU (s:List UInt8)(x:UInt8):ar (s++[x])=ar s++[[.int .u8 x.toNat]]:=by simp[ar]
def BY (a:Nat×Nat×List UInt8):Option (Nat×Nat×List UInt8):=if a.2.1<128 then none else match a.1 with
 |0=>none
 |f+1=>some (f,a.2.1/128,a.2.2++[UInt8.ofNat (a.2.1%128+128)])
def Vv (b T:List UInt8)(a:Nat×Nat×List UInt8):Prop:=a.2.1<128^(a.1+1)∧a.2.2++Rb (a.1+1) a.2.1=T∧a.2.2.length+a.1≤b.length+5∧a.2.1≤1000000000000
theorem MK {b T:List UInt8}{f m:Nat}{o:List UInt8}{a':Nat×Nat×List UInt8}(ia:Vv b T (f,m,o))(h:BY (f,m,o)=some a'):128≤m∧Vv b T a'∧(a':Nat×Nat×List UInt8)=(f-1,m/128,o++[UInt8.ofNat (m%128+128)]):=by
 obtain⟨h1,h2,h3,h4⟩:=ia
 unfold BY at h
 simp only at h h1 h2 h3 h4
 split at h
 ·cases h
 ·rename_i hm
  cases f with
  |zero=>cases h
  |succ f=>
   cases h
   refine⟨by omega,⟨?_,?_,by simp;omega,by simp only;omega⟩,rfl⟩
   ·show m/128<128^(f+1)
    rw[Nat.div_lt_iff_lt_mul (by decide),←Nat.pow_succ];exact h1
   ·rw[←h2]
    show(o++[UInt8.ofNat (m%128+128)])++Rb (f+1) (m/128)=o++Rb (f+1+1) m
    rw[show Rb (f+1+1) m=UInt8.ofNat (m%128+128)::Rb (f+1) (m/128) by rw[Rb,if_neg hm]]
    simp
theorem Pn {b T:List UInt8}{f m:Nat}{o:List UInt8}(ia:Vv b T (f,m,o))(h:BY (f,m,o)=none):m<128∧o++[UInt8.ofNat m]=T:=by
 obtain⟨h1,h2,_⟩:=ia
 unfold BY at h
 simp only at h h1 h2
 split at h
 ·rename_i hm
  exact⟨hm,by rw[←h2,Rb,if_pos hm]⟩
 ·rename_i hm
  cases f with
  |zero=>simp at h1;omega
  |succ f=>cases h
theorem jV {b:List UInt8}(hb:b.length≤1048000){n:Nat}(hn:n≤1000000000000):ag Ph aM 247 [cA (ar b),aa .i64 (n:Int)]=some (.one (.own 1 (ar (b++tM n)))):=by
 have e1:rg (n:Int) 0 1000000000000=true:=vA.2 ⟨by omega,by omega⟩
 have e2:=bL (n:Int) 0 1000000000000
 rw[e1]at e2
 have e3:=ny (R:=ar b) ⟨qM b,jM b,by rw[cy];omega⟩
 refine ae (fn:=kq) rfl ?_
 simp(maxSteps:=9999999) [kq,e2,e3]
 refine Ol bm Cl.fin [.f,.t,.f,.f,.f,.t,.f,.f,.f,.f,.f,.f,.f,.f,.f,.f,.f,.f,.f,.f,.f,.f,.f,.f,.f,.f,.f,.f] (fun a=>[(1,aa .i64 (a.2.1:Nat)),(5, .one (.arr 0))]) (fun a=>[.arr 1 (ar a.2.2)]) BY (fun a=>a.2.1) (Vv b (b++tM n)) (5,n,b) ⟨by show n<128^6;omega,rfl,by simp,hn⟩ rfl (by simp) (fun a a' ia ha=> ?_) (fun a ia ha=> ?_)
 ·obtain⟨f,m,o⟩:=a
  obtain⟨hm,hi,rfl⟩:=MK ia ha
  obtain⟨_,_,hl,hmx⟩:=ia
  simp only at hl hmx
  have hlt:cT (m:Int) 128=false:=kE (by omega)
  have hlt2:cT 127 (m:Int)=true:=jH (by omega)
  have q:=Kg (n:=m%128+128) (by omega)
  have m1:o.length≤140737488355327∧o.length≤9223372036854775806:=by omega
  have m2:=eR (m:=o.length+1) (z:=1) (by omega) (by omega)
  have r1:(m:Int).tmod 128=(m:Int)%128:=Int.tmod_eq_emod_of_nonneg (by omega)
  have r2:(m:Int).tdiv 128=(m:Int)/128:=Int.tdiv_eq_ediv_of_nonneg (by omega)
  have r3:IntKind.i64.wrap ((m:Int)%128+128)=(m:Int)%128+128:=by rw[IntKind.wrap_i64];omega
  have r4:IntKind.i64.wrap ((m:Int)/128)=(m:Int)/128:=by rw[IntKind.wrap_i64];omega
  have r5:IntKind.u8.wrap ((m:Int)%128+128)=(m:Int)%128+128:=by have:=q.1;simpa using this
  have r6:((m:Int)%128+128)%256=(m:Int)%128+128:=by omega
  refine⟨by show m/128<m;omega,hi,?_⟩
  simp(maxSteps:=9999999) [gM,hlt,hlt2,r1,r2,r3,r4,r5,m1,m2,kU,cy,-dE]
  exact Kn.of [2] (by decide) (by simp[kU,r5,r6]) (by simp[r4])
 ·obtain⟨f,m,o⟩:=a
  obtain⟨hm,hi⟩:=Pn ia ha
  obtain⟨_,_,hl,hmx⟩:=ia
  simp only at hl hmx
  have hlt:cT (m:Int) 128=true:=jH (by omega)
  have hlt2:cT 127 (m:Int)=false:=kE (by omega)
  have q:=Kg (n:=m) (by omega)
  have m1:o.length≤140737488355327∧o.length≤9223372036854775806:=by omega
  have m2:=eR (m:=o.length+1) (z:=1) (by omega) (by omega)
  rw[←hi]
  simp(maxSteps:=9999999) [gM,hlt,hlt2,q,m1,m2,kU,cy]
theorem V0 (m:Nat):mQ .shr .i64 (m:Int) 7=some (aa .i64 ((m:Int)/128)):=by
 have e:(min (Int.toNat 7) IntKind.i64.bits)=7:=by decide
 simp only[mQ]
 rw[if_neg (by omega)]
 simp only[e]
 rw[show((2:Int)^7)=128 by decide,Int.fdiv_eq_ediv_of_nonneg _ (by omega)]
theorem jZ {b:List UInt8}(hb:b.length≤1048000){n:Nat}(hn:n≤1000000000000):ag Ph aM 244 [cA (ar b),aa .i64 (n:Int)]=some (.one (.own 1 (ar (b++tM n)))):=by
 have e1:rg (n:Int) 0 1000000000000=true:=vA.2 ⟨by omega,by omega⟩
 have e2:=cq (n:Int) 0 1000000000000
 rw[e1]at e2
 have w1:=jM b
 have m0:b.length≤140737488355328∧b.length≤9223372036854775807:=by omega
 refine ae (fn:=kA) rfl ?_
 simp(maxSteps:=9999999) [kA,e2,w1,m0,cy]
 refine Ol bm Cl.fin [.f,.t,.f,.f,.f,.t,.f,.f,.f,.f,.f,.f,.f,.f,.f,.f,.f,.f,.f,.f,.f,.f,.f,.f,.f,.f,.f,.f,.f] (fun a=>[(1,aa .i64 (a.2.1:Nat)),(5, .one (.arr 0))]) (fun a=>[.arr 1 (ar a.2.2)]) BY (fun a=>a.2.1) (Vv b (b++tM n)) (5,n,b) ⟨by show n<128^6;omega,rfl,by simp,hn⟩ rfl (Kn.of [1] (by decide) (by simp) (by simp)) (fun a a' ia ha=> ?_) (fun a ia ha=> ?_)
 ·obtain⟨f,m,o⟩:=a
  obtain⟨hm,hi,rfl⟩:=MK ia ha
  obtain⟨_,_,hl,hmx⟩:=ia
  simp only at hl hmx
  have hlt:cT (m:Int) 128=false:=kE (by omega)
  have hlt2:cT 127 (m:Int)=true:=jH (by omega)
  have q:=Kg (n:=m%128+128) (by omega)
  have m1:o.length≤140737488355327∧o.length≤9223372036854775806:=by omega
  have m2:=eR (m:=o.length+1) (z:=1) (by omega) (by omega)
  have r1:=Ur (n:=m) (by omega)
  have r2:=V0 m
  have r3:=Vp (n:=m%128) (by omega)
  have e:((m%128:Nat):Int)=(m:Int)%128:=by omega
  have e':((m%128+128:Nat):Int)=(m:Int)%128+128:=by omega
  rw[e]at r1 r3
  rw[e']at r3
  have r4:IntKind.i64.wrap ((m:Int)/128)=(m:Int)/128:=by rw[IntKind.wrap_i64];omega
  have r5:IntKind.u8.wrap ((m:Int)%128+128)=(m:Int)%128+128:=by have:=q.1;simpa using this
  have r6:((m:Int)%128+128)%256=(m:Int)%128+128:=by omega
  refine⟨by show m/128<m;omega,hi,?_⟩
  simp(maxSteps:=9999999) [gO,hlt,hlt2, ↓r1,r2, ↓r3,r4,r5,m1,m2,kU,cy,-dE]
  exact Kn.of [2] (by decide) (by simp[kU,r5,r6]) (by simp[r4])
 ·obtain⟨f,m,o⟩:=a
  obtain⟨hm,hi⟩:=Pn ia ha
  obtain⟨_,_,hl,hmx⟩:=ia
  simp only at hl hmx
  have hlt:cT (m:Int) 128=true:=jH (by omega)
  have hlt2:cT 127 (m:Int)=false:=kE (by omega)
  have q:=Kg (n:=m) (by omega)
  have m1:o.length≤140737488355327∧o.length≤9223372036854775806:=by omega
  have m2:=eR (m:=o.length+1) (z:=1) (by omega) (by omega)
  rw[←hi]
  simp(maxSteps:=9999999) [gO,hlt,hlt2,q,m1,m2,kU,cy]
theorem Cg (s u:List UInt8):ar (s++u)=ar s++ar u:=by simp[ar]
theorem wE {b s:List UInt8}(hb:b.length≤1048000)(hs:s.length≤1048576):ag Ph aM 248 [cA (ar b),cA (ar s)]=some (.one (.own 1 (ar (b++Kl s)))):=by
 have e1:=jV hb (n:=s.length) (by omega)
 have w1:=jM s
 have hl:=ut s.length
 have m1:b.length+(tM s.length).length+s.length≤140737488355328∧b.length+(tM s.length).length+s.length≤9223372036854775807:=by omega
 rw[show b++Kl s=(b++tM s.length)++s by simp[Kl]]
 have e:ar ((b++tM s.length)++s)=ar (b++tM s.length)++ar s:=Cg _ _
 rw[e]
 refine ae (fn:=mb) rfl ?_
 simp(maxSteps:=9999999) [mb,e1,w1,m1,cy]
theorem wT {b s:List UInt8}(hb:b.length≤1048000)(hs:s.length≤1048576):ag Ph aM 245 [cA (ar b),cA (ar s)]=some (.one (.own 1 (ar (b++Kl s)))):=by
 have e1:=jZ hb (n:=s.length) (by omega)
 have w1:=jM s
 have hl:=ut s.length
 have m1:b.length+(tM s.length).length+s.length≤140737488355328∧b.length+(tM s.length).length+s.length≤9223372036854775807:=by omega
 rw[show b++Kl s=(b++tM s.length)++s by simp[Kl]]
 have e:ar ((b++tM s.length)++s)=ar (b++tM s.length)++ar s:=Cg _ _
 rw[e]
 refine ae (fn:=mr) rfl ?_
 simp(maxSteps:=9999999) [mr,e1,w1,m1,cy]
abbrev v3 (n k:Int)(b:Bool):V:= .tup [(false,[.pv (.int .i64 n)]),(false,[.pv (.int .i64 k)]),(false,[.pv (.bool b)])]
end Gi
