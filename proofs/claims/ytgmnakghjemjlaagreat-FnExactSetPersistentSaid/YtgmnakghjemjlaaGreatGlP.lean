/- Of this proof. -/
import Derived.Test.YtgmnakghjemjlaaGreatGlL
import Derived.Test.YtgmnakghjemjlaaGreatGki
set_option linter.unusedSimpArgs false
set_option linter.unusedVariables false
namespace Gi
open Go Go.RowKit
set_option maxHeartbeats 8000000
set_option maxRecDepth 4000
attribute [local simp] bu sQ bg bX ep fZ ej fY f8 f7 uP uY uQ uZ uR u0 uS vd uT ve uU vf uV vg uW vh uX vi V.cells plain bn f9 isInt isStr isBool bin cW jN cX jO f4 un asList L.view ap V.view viewL aS av da cf bP comp aK bt dz ct bI bG bH bO bj cz aX bK aQ aY bM cB bL bJ bN V.flat L.flat dL du bA putAt thaw thawL thawT V.ow f6 ew ez cY f5 cZ eu freezeVs freezeLs freezeL V.mut L.mut aJ fq i7 aM be aE dq bE bi bS L.ren aU dM cj dQ bT bC wp_seq wp_block bF eB db cg dd wp_skip wp_exit wp_ret cN cM cS cO dj dk di cq aW L.notArr aP aN aO eA bo storeD bc fR br cE bf nE L.mov L.closed V.closed PV.bare PV.flat
def MZ (l:List XApplied)(k:Nat):Bool:=match l[k]?,l[k-1]? with
 |some x,some y=> !(rg x.dev 1 1000000)||(!(rg x.seq 0 1000000)||(dK 0 k&& !(dK y.dev x.dev)))
 |_,_=>false
def wn (s:XServer):Bool:= !(fL s.applied.length (MZ s.applied))&&(!(fL s.changes.length (iO (fun w=> !(HM w)) s.changes))&&(lB s.store&&(s.store.name==rU&& !(dK 60 s.applied.length))))
theorem yl {s:XServer}(h:s.Ok maxLen):ag Ph aG 382 [s.v]=some (au (wn s)):=by
 obtain⟨h1,⟨h2,h3⟩,h4,h5⟩:=h
 have e1:=m7 h1
 have e2:=fun v=>aZ v 1 1000000
 have e3:=fun v=>aZ v 0 1000000
 unfold wn
 refine ae (fn:=mP) rfl ?_
 simp +contextual (maxSteps:=9999999) [mP]
 refine aB aR Cl.fin [.f,.t,.f,.f,.f,.f,.f,.f,.t,.t,.t,.f,.f,.f,.f,.f,.f,.f,.f,.f,.f,.f,.f,.f,.f,.f,.f,.f,.f,.f,.f,.f,.f,.f,.f,.f,.f,.f,.f,.f,.f,.f,.f,.f,.f,.f,.f,.f,.f,.f,.f,.f,.f,.f,.f,.f,.f,.f,.f,.f,.f,.f,.f,.f,.f,.f,.f,.f] (fun k=>[(10,aa .i64 k)]) s.applied.length (MZ s.applied) rfl (by simp) (fun k hk _=> ?_) (fun _ hp=> ?_)
 ·obtain⟨q1,q2⟩:=td h2 hk
  simp +contextual (maxSteps:=9999999) [gq,MZ,hk,q1,q2,e2,e3,aF h2 hk,aV hk,XApplied.e.eq_1 s.applied[k],XApplied.e.eq_1 s.applied[k-1]]
 ·simp(maxSteps:=9999999) [gq,hp]
  refine aB aR Cl.fin [.f,.t,.f,.f,.f,.f,.f,.f,.f,.f,.f,.f,.f,.f,.f,.f,.f,.f,.f,.f,.f,.f,.f,.f,.f,.f,.f,.f,.f,.f,.f,.f,.f,.f,.f,.f,.f,.f,.f,.f,.f,.f,.f,.t,.t,.t,.f,.f,.f,.f,.f,.f,.f,.f,.f,.f,.f,.f,.f,.f,.f,.f,.f,.f,.f,.f,.f,.f] (fun k=>[(45,aa .i64 k)]) s.changes.length (iO (fun w=> !(HM w)) s.changes) rfl (by simp) (fun k hk _=> ?_) (fun _ hp=> ?_)
  ·have e4:=lK (h5 _ (List.getElem_mem hk))
   simp +contextual (maxSteps:=9999999) [iR,iO,hk,e4,aF h4 hk,aV hk,XWrite.e.eq_1 s.changes[k]]
  ·simp +contextual (maxSteps:=9999999) [iR,hp,e1,rU]
theorem yJ {s:XServer}(h:s.Ok maxLen):ag Ph aG 376 [s.v]=some (au (wn s)):=by
 obtain⟨h1,⟨h2,h3⟩,h4,h5⟩:=h
 have e1:=m9 h1
 have e2:=fun v=>bq v 1 1000000
 have e3:=fun v=>bq v 0 1000000
 unfold wn
 refine ae (fn:=mZ) rfl ?_
 simp +contextual (maxSteps:=9999999) [mZ]
 refine aB aR Cl.fin [.f,.t,.f,.t,.f,.f,.f,.f,.f,.f,.f,.f,.f,.f,.f,.f,.f,.f,.f,.f,.f,.f,.f,.f,.f,.f,.f,.f,.f,.f,.f,.f,.f,.f,.f,.f,.f,.f,.f,.f,.f,.f,.f,.f,.f,.f,.f,.f,.f,.f,.f,.f,.f,.f,.f,.f,.f,.f,.f,.f,.f,.f,.f,.f,.f,.f,.f,.f,.f,.f,.f,.f,.f,.f,.f,.f,.f,.f,.f] (fun k=>[(3,aa .i64 k)]) s.applied.length (MZ s.applied) rfl (by simp) (fun k hk _=> ?_) (fun _ hp=> ?_)
 ·obtain⟨q1,q2⟩:=td h2 hk
  simp +contextual (maxSteps:=9999999) [gr,MZ,hk,q1,q2,e2,e3,aF h2 hk,aV hk,XApplied.e.eq_1 s.applied[k],XApplied.e.eq_1 s.applied[k-1]]
 ·simp(maxSteps:=9999999) [gr,hp]
  refine aB aR Cl.fin [.f,.t,.f,.f,.t,.f,.f,.f,.f,.f,.f,.f,.f,.f,.f,.f,.f,.f,.f,.f,.f,.f,.f,.f,.f,.f,.f,.f,.f,.f,.f,.f,.f,.f,.f,.f,.f,.f,.f,.f,.f,.f,.f,.f,.f,.f,.f,.f,.f,.f,.f,.f,.f,.f,.f,.f,.f,.f,.f,.f,.f,.f,.f,.f,.f,.f,.f,.f,.f,.f,.f,.f,.f,.f,.f,.f,.f,.f,.f] (fun k=>[(4,aa .i64 k)]) s.changes.length (iO (fun w=> !(HM w)) s.changes) rfl (by simp) (fun k hk _=> ?_) (fun _ hp=> ?_)
  ·have e4:=lM (h5 _ (List.getElem_mem hk))
   simp +contextual (maxSteps:=9999999) [iV,iO,hk,e4,aF h4 hk,aV hk,XWrite.e.eq_1 s.changes[k]]
  ·simp +contextual (maxSteps:=9999999) [iV,hp,e1,rU]
def M3 (l:List (List UInt8))(k:Nat):Bool:=match l[k]?,l[k-1]? with
 |some x,some y=> !(cy x)||(dK 0 k&& !(Op.bytesLess y x))
 |_,_=>false
def qw (s:XSite):Bool:= !(fL s.files.length (M3 s.files))&&(cy s.name&&(rg s.version 1 1000000000000&&rg s.files.length 1 6))
theorem Cw {s:XSite}(h:s.Ok maxLen):ag Ph aG 381 [s.v]=some (au (qw s)):=by
 obtain⟨h1,_,h2,h3⟩:=h
 have e1:=bh h1
 unfold qw
 refine ae (fn:=pk) rfl ?_
 simp +contextual (maxSteps:=9999999) [pk]
 refine aB aR Cl.fin [.f,.t,.f,.f,.f,.f,.t,.t,.t,.f,.f,.f,.f,.f,.f,.f,.f,.f,.f,.f,.f,.f,.f,.f,.f,.f,.f,.f,.f,.f,.f,.f,.f,.f,.f,.f,.f,.f,.f,.f,.f,.f,.f,.f,.f] (fun k=>[(8,aa .i64 k)]) s.files.length (M3 s.files) rfl (by simp) (fun k hk _=> ?_) (fun _ hp=> ?_)
 ·obtain⟨q1,q2⟩:=td h2 hk
  have e2:=bh (h3 _ (List.getElem_mem hk))
  simp +contextual (maxSteps:=9999999) [jV,M3,hk,q1,q2,e2,aF h2 hk,aV hk,uD]
 ·simp +contextual (maxSteps:=9999999) [jV,hp,e1,aZ]
theorem CX {s:XSite}(h:s.Ok maxLen):ag Ph aG 375 [s.v]=some (au (qw s)):=by
 obtain⟨h1,_,h2,h3⟩:=h
 have e1:=ca h1
 unfold qw
 refine ae (fn:=pq) rfl ?_
 simp +contextual (maxSteps:=9999999) [pq]
 refine aB aR Cl.fin [.f,.t,.f,.t,.f,.f,.f,.f,.f,.f,.f,.f,.f,.f,.f,.f,.f,.f,.f,.f,.f,.f,.f,.f,.f,.f,.f,.f,.f,.f,.f,.f,.f,.f,.f,.f,.f,.f,.f,.f,.f,.f,.f,.f,.f,.f,.f,.f,.f,.f] (fun k=>[(3,aa .i64 k)]) s.files.length (M3 s.files) rfl (by simp) (fun k hk _=> ?_) (fun _ hp=> ?_)
 ·obtain⟨q1,q2⟩:=td h2 hk
  have e2:=ca (h3 _ (List.getElem_mem hk))
  simp +contextual (maxSteps:=9999999) [jZ,M3,hk,q1,q2,e2,aF h2 hk,aV hk,uD]
 ·simp +contextual (maxSteps:=9999999) [jZ,hp,e1,bq]
def qv (p:XPage):Bool:= !(fL p.loaded.length (iO (fun x=> !(cy x.path)|| !(x.version==p.version)) p.loaded))&&(rg p.id 1 1000000000000&&(cy p.site&&(cy p.top&&(rg p.version 1 1000000000000&& !(dK 8 p.loaded.length)))))
theorem Cv {p:XPage}(h:p.Ok maxLen):ag Ph aG 151 [p.v]=some (au (qv p)):=by
 obtain⟨_,h1,h2,_,⟨h3,h4⟩,_⟩:=h
 have e1:=bh h1
 have e2:=bh h2
 unfold qv
 refine ae (fn:=pj) rfl ?_
 simp +contextual (maxSteps:=9999999) [pj]
 refine aB aR Cl.fin [.f,.t,.f,.f,.f,.f,.t,.t,.t,.f,.f,.f,.f,.f,.f,.f,.f,.f,.f,.f,.f,.f,.f,.f,.f,.f,.f,.f,.f,.f,.f,.f,.f,.f,.f,.f,.f,.f,.f,.f,.f,.f,.f,.f,.f,.f,.f,.f] (fun k=>[(8,aa .i64 k)]) p.loaded.length (iO (fun x=> !(cy x.path)|| !(x.version==p.version)) p.loaded) rfl (by simp) (fun k hk _=> ?_) (fun _ hp=> ?_)
 ·have e3:=bh (h4 _ (List.getElem_mem hk)).1
  simp +contextual (maxSteps:=9999999) [jU,iO,hk,e3,aF h3 hk,aV hk,XLoaded.e.eq_1 p.loaded[k]]
 ·simp +contextual (maxSteps:=9999999) [jU,hp,e1,e2,aZ]
theorem CW {p:XPage}(h:p.Ok maxLen):ag Ph aG 149 [p.v]=some (au (qv p)):=by
 obtain⟨_,h1,h2,_,⟨h3,h4⟩,_⟩:=h
 have e1:=ca h1
 have e2:=ca h2
 unfold qv
 refine ae (fn:=pp) rfl ?_
 simp +contextual (maxSteps:=9999999) [pp]
 refine aB aR Cl.fin [.f,.t,.f,.t,.f,.f,.f,.f,.f,.f,.f,.f,.f,.f,.f,.f,.f,.f,.f,.f,.f,.f,.f,.f,.f,.f,.f,.f,.f,.f,.f,.f,.f,.f,.f,.f,.f,.f,.f,.f,.f,.f,.f,.f,.f,.f,.f,.f,.f,.f,.f,.f,.f,.f] (fun k=>[(3,aa .i64 k)]) p.loaded.length (iO (fun x=> !(cy x.path)|| !(x.version==p.version)) p.loaded) rfl (by simp) (fun k hk _=> ?_) (fun _ hp=> ?_)
 ·have e3:=ca (h4 _ (List.getElem_mem hk)).1
  simp +contextual (maxSteps:=9999999) [jY,iO,hk,e3,aF h3 hk,aV hk,XLoaded.e.eq_1 p.loaded[k]]
 ·simp +contextual (maxSteps:=9999999) [jY,hp,e1,e2,bq]
def wm (b:XBucket):Bool:=cy b.site&&(cy b.top&&(Cz b.reg&&(b.reg.site==b.site&&(Jn b.caches.caches&&(Jo b.disk.base&&(CA b.replica&&(rg b.lastUsed 0 1000000000000&& !(dK 2500 (IM b:Nat)))))))))
theorem yj {b:XBucket}(h:b.Ok 1048576):ag Ph aG 387 [b.v]=some (au (wm b)):=by
 have hm:=XBucket.Ok.mono (B:=maxLen) (by unfold maxLen;omega) h
 have e1:=bh hm.1
 have e2:=bh hm.2.1
 have e3:=qr hm.2.2.1
 have e5:=uh hm.2.2.2.1
 have e6:=uj (Nat.le_refl 1048576) h.2.2.2.2.1.1
 have e7:=wd hm.2.2.2.2.2.1
 have e8:=aZ b.lastUsed 0 1000000000000
 have e9:=Av h
 unfold wm
 obtain⟨b4,h4⟩:∃g,(b.reg.site==b.site)=g:=⟨_,rfl⟩
 rw[h4]
 generalize cy b.site=b1 at e1⊢
 generalize cy b.top=b2 at e2⊢
 generalize Cz b.reg=b3 at e3⊢
 generalize Jn b.caches.caches=b5 at e5⊢
 generalize Jo b.disk.base=b6 at e6⊢
 generalize CA b.replica=b7 at e7⊢
 generalize rg b.lastUsed 0 1000000000000=b8 at e8⊢
 refine ae (fn:=cT) rfl ?_
 cases b1
 ·simp(maxSteps:=9999999) [cT,e1]
 cases b2
 ·simp(maxSteps:=9999999) [cT,e1,e2]
 cases b3
 ·simp(maxSteps:=9999999) [cT,e1,e2,e3]
 cases b4
 ·simp(maxSteps:=9999999) [cT,e1,e2,e3,h4]
 cases b5
 ·simp(maxSteps:=9999999) [cT,e1,e2,e3,h4,e5]
 cases b6
 ·simp(maxSteps:=9999999) [cT,e1,e2,e3,h4,e5,e6]
 cases b7
 ·simp(maxSteps:=9999999) [cT,e1,e2,e3,h4,e5,e6,e7]
 cases b8
 ·simp(maxSteps:=9999999) [cT,e1,e2,e3,h4,e5,e6,e7,e8]
 simp(maxSteps:=9999999) [cT,e1,e2,e3,h4,e5,e6,e7,e8,e9]
theorem yH {b:XBucket}(h:b.Ok 1048576):ag Ph aG 384 [b.v]=some (au (wm b)):=by
 have hm:=XBucket.Ok.mono (B:=maxLen) (by unfold maxLen;omega) h
 have e1:=ca hm.1
 have e2:=ca hm.2.1
 have e3:=qB hm.2.2.1
 have e5:=uF hm.2.2.2.1
 have e6:=uG (Nat.le_refl 1048576) h.2.2.2.2.1.1
 have e7:=wJ hm.2.2.2.2.2.1
 have e8:=bq b.lastUsed 0 1000000000000
 have e9:=AC h
 unfold wm
 obtain⟨b4,h4⟩:∃g,(b.reg.site==b.site)=g:=⟨_,rfl⟩
 rw[h4]
 generalize cy b.site=b1 at e1⊢
 generalize cy b.top=b2 at e2⊢
 generalize Cz b.reg=b3 at e3⊢
 generalize Jn b.caches.caches=b5 at e5⊢
 generalize Jo b.disk.base=b6 at e6⊢
 generalize CA b.replica=b7 at e7⊢
 generalize rg b.lastUsed 0 1000000000000=b8 at e8⊢
 refine ae (fn:=cU) rfl ?_
 cases b1
 ·simp(maxSteps:=9999999) [cU,e1]
 cases b2
 ·simp(maxSteps:=9999999) [cU,e1,e2]
 cases b3
 ·simp(maxSteps:=9999999) [cU,e1,e2,e3]
 cases b4
 ·simp(maxSteps:=9999999) [cU,e1,e2,e3,h4]
 cases b5
 ·simp(maxSteps:=9999999) [cU,e1,e2,e3,h4,e5]
 cases b6
 ·simp(maxSteps:=9999999) [cU,e1,e2,e3,h4,e5,e6]
 cases b7
 ·simp(maxSteps:=9999999) [cU,e1,e2,e3,h4,e5,e6,e7]
 cases b8
 ·simp(maxSteps:=9999999) [cU,e1,e2,e3,h4,e5,e6,e7,e8]
 simp(maxSteps:=9999999) [cU,e1,e2,e3,h4,e5,e6,e7,e8,e9]
def IZ (l:List XBucket)(k:Nat):Bool:=match l[k]?,l[k-1]? with
 |some x,some y=> !(wm x)||(dK 0 k&& !(vk y x))
 |_,_=>false
def CB (l:List XBucket):Bool:= !(fL l.length (IZ l))&& !(dK 9 l.length)
theorem we {l:List XBucket}(hl:l.length≤1048576)(h:∀x∈l,x.Ok 1048576):ag Ph aG 379 [.agg [.pv (.lst (l.map XBucket.e))]]=some (au (CB l)):=by
 have hm:l.length≤maxLen:=by unfold maxLen;omega
 unfold CB
 refine ae (fn:=lV) rfl ?_
 simp +contextual (maxSteps:=9999999) [lV]
 refine aB aR Cl.fin [.f,.t,.f,.f,.f,.f,.t,.t,.t,.f,.f,.f,.f,.f,.f,.f,.f,.f,.f,.f,.f,.f,.f,.f,.f,.f,.f,.f,.f,.f,.f,.f,.f,.f,.f,.f] (fun k=>[(8,aa .i64 k)]) l.length (IZ l) rfl (by simp) (fun k hk _=> ?_) (fun _ hp=> ?_)
 ·obtain⟨q1,q2⟩:=td hm hk
  have e1:=yj (h _ (List.getElem_mem hk))
  have e2:=rp l[k-1] l[k]
  have hx:=XBucket.e.eq_1 l[k]
  have hy:=XBucket.e.eq_1 l[k-1]
  have hb:IZ l k=(!(wm l[k])||(dK 0 k&& !(vk l[k-1] l[k]))):=by simp[IZ,hk,q2]
  rw[hb]
  generalize wm l[k]=b1 at e1⊢
  generalize vk l[k-1] l[k]=b2 at e2⊢
  cases b1
  ·simp +contextual (maxSteps:=9999999) [eZ,hk,hx,e1,aF hm hk,aV hk]
  cases b3:dK 0 k
  ·simp +contextual (maxSteps:=9999999) [eZ,hk,hx,e1,b3,aF hm hk,aV hk]
  have q3:=q1 b3
  cases b2<;>simp +contextual (maxSteps:=9999999) [eZ,hk,q2,q3,hx,hy,e1,e2,b3,aF hm hk,aV hk]
 ·simp(maxSteps:=9999999) [eZ,hp]
theorem wK {l:List XBucket}(hl:l.length≤1048576)(h:∀x∈l,x.Ok 1048576):ag Ph aG 377 [.agg [.pv (.lst (l.map XBucket.e))]]=some (au (CB l)):=by
 have hm:l.length≤maxLen:=by unfold maxLen;omega
 unfold CB
 refine ae (fn:=mj) rfl ?_
 simp +contextual (maxSteps:=9999999) [mj]
 refine aB aR Cl.fin [.f,.t,.f,.t,.f,.f,.f,.f,.f,.f,.f,.f,.f,.f,.f,.f,.f,.f,.f,.f,.f,.f,.f,.f,.f,.f,.f,.f,.f,.f,.f,.f,.f,.f,.f,.f,.f,.f,.f,.f,.f,.f,.f,.f,.f,.f,.f,.f] (fun k=>[(3,aa .i64 k)]) l.length (IZ l) rfl (by simp) (fun k hk _=> ?_) (fun _ hp=> ?_)
 ·obtain⟨q1,q2⟩:=td hm hk
  have e1:=yH (h _ (List.getElem_mem hk))
  have e2:=AR l[k-1] l[k]
  have hx:=XBucket.e.eq_1 l[k]
  have hy:=XBucket.e.eq_1 l[k-1]
  have hb:IZ l k=(!(wm l[k])||(dK 0 k&& !(vk l[k-1] l[k]))):=by simp[IZ,hk,q2]
  rw[hb]
  generalize wm l[k]=b1 at e1⊢
  generalize vk l[k-1] l[k]=b2 at e2⊢
  cases b1
  ·simp +contextual (maxSteps:=9999999) [fb,hk,hx,e1,aF hm hk,aV hk]
  cases b3:dK 0 k
  ·simp +contextual (maxSteps:=9999999) [fb,hk,hx,e1,b3,aF hm hk,aV hk]
  have q3:=q1 b3
  cases b2<;>simp +contextual (maxSteps:=9999999) [fb,hk,q2,q3,hx,hy,e1,e2,b3,aF hm hk,aV hk]
 ·simp(maxSteps:=9999999) [fb,hp]
theorem Mj {k:Nat}(hk:k<Jz.length)(s:List UInt8):(yG s==(k:Int))=(s==Jz[k]):=by
 have hk':k<3:=hk
 by_cases h1:s=[98,97,110,107]
 ·subst h1
  obtain rfl|rfl|rfl:k=0∨k=1∨k=2:=by omega
  all_goals rfl
 by_cases h2:s=[110,101,119,115]
 ·subst h2
  obtain rfl|rfl|rfl:k=0∨k=1∨k=2:=by omega
  all_goals rfl
 by_cases h3:s=[115,104,111,112]
 ·subst h3
  obtain rfl|rfl|rfl:k=0∨k=1∨k=2:=by omega
  all_goals rfl
 have e:yG s= -1:=by simp[yG,gB,Jz,List.findIdx?_cons,h1,h2,h3]
 have q:((-1:Int)==(k:Int))=false:=by rw[beq_eq_false_iff_ne];omega
 rw[e,q]
 symm
 rw[beq_eq_false_iff_ne]
 obtain rfl|rfl|rfl:k=0∨k=1∨k=2:=by omega
 ·exact h1
 ·exact h2
 ·exact h3
def Ba (w:XWorld)(k:Nat):Bool:=match w.pages[k]?,w.pages[k-1]? with
 |some x,some y=> !(qv x)||(!(dK x.id w.nextPage)||((dK 0 k&& !(dK y.id x.id))||dK (gB (IT x.site x.top) w.storage.buckets) 0))
 |_,_=>false
def Bb (w:XWorld)(k:Nat):Bool:=match w.sites[k]?,w.servers[k]?,Jz[k]? with
 |some s,some v,some n=> !(qw s)||(!(s.name==n)|| !(wn v))
 |_,_,_=>false
def wq (w:XWorld):Bool:=rg w.now 0 999999990000&&(rg w.device 1 1000000&&(CB w.storage.buckets&&(!(dK 6 w.pages.length)&&(rg w.nextPage 1 1000000000000&&(qu w.locks.locks&&(((w.sites.length:Int)==3)&&(((w.servers.length:Int)==3)&&(!(fL w.pages.length (Ba w))&& !(fL 3 (Bb w))))))))))
theorem Au {w:XWorld}(h:w.Ok 1048576):ag Ph aG 374 [w.v]=some (au (wq w)):=by
 have hm:w.Ok maxLen:=XWorld.Ok.mono (by unfold maxLen;omega) h
 obtain⟨_,_,⟨hsl,hsb⟩,⟨hpl,hpp⟩,_,⟨hll,hlk⟩,_,⟨htl,hst⟩,hvl,hsv⟩:=hm
 have e1:=aZ w.now 0 999999990000
 have e2:=aZ w.device 1 1000000
 have e3:=we h.2.2.1.1 h.2.2.1.2
 have e5:=aZ w.nextPage 1 1000000000000
 have e6:=sW hll hlk
 unfold wq
 obtain⟨b4,h4⟩:∃g,dK 6 w.pages.length=g:=⟨_,rfl⟩
 obtain⟨b7,h7⟩:∃g,((w.sites.length:Int)==3)=g:=⟨_,rfl⟩
 obtain⟨b8,h8⟩:∃g,((w.servers.length:Int)==3)=g:=⟨_,rfl⟩
 rw[h4,h7,h8]
 generalize rg w.now 0 999999990000=b1 at e1⊢
 generalize rg w.device 1 1000000=b2 at e2⊢
 generalize CB w.storage.buckets=b3 at e3⊢
 generalize rg w.nextPage 1 1000000000000=b5 at e5⊢
 generalize qu w.locks.locks=b6 at e6⊢
 refine ae (fn:=dD) rfl ?_
 cases b1
 ·simp(maxSteps:=9999999) [dD,e1]
 cases b2
 ·simp(maxSteps:=9999999) [dD,e1,e2]
 cases b3
 ·simp(maxSteps:=9999999) [dD,e1,e2,e3]
 cases b4
 rotate_left
 ·simp(maxSteps:=9999999) [dD,e1,e2,e3,h4]
 cases b5
 ·simp(maxSteps:=9999999) [dD,e1,e2,e3,h4,e5]
 cases b6
 ·simp(maxSteps:=9999999) [dD,e1,e2,e3,h4,e5,e6]
 cases b7
 ·simp(maxSteps:=9999999) [dD,e1,e2,e3,h4,e5,e6,h7]
 cases b8
 ·simp(maxSteps:=9999999) [dD,e1,e2,e3,h4,e5,e6,h7,h8]
 simp(maxSteps:=9999999) [dD,e1,e2,e3,h4,e5,e6,h7,h8]
 have h7:w.sites.length=3:=by have:=beq_iff_eq.1 h7;omega
 have h8:w.servers.length=3:=by have:=beq_iff_eq.1 h8;omega
 refine aB aR Cl.fin [.f,.t,.f,.f,.f,.f,.f,.f,.f,.f,.f,.f,.f,.f,.f,.f,.f,.f,.f,.f,.f,.f,.f,.f,.f,.f,.f,.f,.f,.f,.f,.f,.f,.f,.f,.f,.f,.f,.f,.f,.f,.f,.f,.f,.f,.f,.f,.f,.f,.f,.f,.f,.f,.f,.t,.t,.t,.f,.f,.f,.f,.f,.f,.f,.f,.f,.f,.f,.f,.f,.f,.f,.f,.f,.f,.f,.f,.f,.f,.f,.f,.f,.f,.f,.f,.f,.f,.f,.f,.f,.f,.f,.f,.f,.f,.f,.f,.f,.f,.f,.f,.f,.f,.f,.f,.f,.f,.f,.f,.f,.f,.f,.f,.f,.f,.f,.f,.f,.f,.f,.f,.f,.f,.f,.f,.f] (fun k=>[(56,aa .i64 k)]) w.pages.length (Ba w) rfl (by simp) (fun k hk _=> ?_) (fun _ hp=> ?_)
 ·obtain⟨q1,q2⟩:=td hpl hk
  have e7:=Cv (hpp _ (List.getElem_mem hk))
  have e8:=ot hsl w.pages[k].site w.pages[k].top
  have hx:=XPage.e.eq_1 w.pages[k]
  have hy:=XPage.e.eq_1 w.pages[k-1]
  have hb:Ba w k=(!(qv w.pages[k])||(!(dK w.pages[k].id w.nextPage)||((dK 0 k&& !(dK w.pages[k-1].id w.pages[k].id))||dK (gB (IT w.pages[k].site w.pages[k].top) w.storage.buckets) 0))):=by simp[Ba,hk,q2]
  rw[hb]
  generalize qv w.pages[k]=b9 at e7⊢
  generalize gB (IT w.pages[k].site w.pages[k].top) w.storage.buckets=F at e8⊢
  cases b9
  ·simp +contextual (maxSteps:=9999999) [dY,hk,hx,e7,aF hpl hk,aV hk]
  cases c1:dK w.pages[k].id w.nextPage
  ·simp +contextual (maxSteps:=9999999) [dY,hk,hx,e7,c1,aF hpl hk,aV hk]
  cases c2:dK 0 k
  ·simp +contextual (maxSteps:=9999999) [dY,hk,hx,e7,e8,c1,c2,aF hpl hk,aV hk]
  have q3:=q1 c2
  simp +contextual (maxSteps:=9999999) [dY,hk,q2,q3,hx,hy,e7,e8,c1,c2,aF hpl hk,aV hk]
 ·simp(maxSteps:=9999999) [dY,hp]
  refine aB aR Cl.fin [.f,.t,.f,.f,.f,.f,.f,.f,.f,.f,.f,.f,.f,.f,.f,.f,.f,.f,.f,.f,.f,.f,.f,.f,.f,.f,.f,.f,.f,.f,.f,.f,.f,.f,.f,.f,.f,.f,.f,.f,.f,.f,.f,.f,.f,.f,.f,.f,.f,.f,.f,.f,.f,.f,.f,.f,.f,.f,.f,.f,.f,.f,.f,.f,.f,.f,.f,.f,.f,.f,.f,.f,.f,.f,.f,.f,.f,.f,.f,.f,.f,.f,.f,.f,.f,.f,.f,.f,.f,.f,.f,.f,.f,.f,.f,.f,.f,.f,.f,.t,.t,.t,.f,.f,.f,.f,.f,.f,.f,.f,.f,.f,.f,.f,.f,.f,.f,.f,.f,.f,.f,.f,.f,.f,.f,.f] (fun k=>[(101,aa .i64 k)]) 3 (Bb w) rfl (by simp) (fun k hk _=> ?_) (fun _ hp=> ?_)
  ·have k1:k<w.sites.length:=by omega
   have k2:k<w.servers.length:=by omega
   have k3:k<Jz.length:=hk
   have l3:dK (k:Int) 3=true:=lL (by omega)
   have ws:=aF (n:=3) (by decide) hk
   have e7:=Cw (hst _ (List.getElem_mem k1))
   have e8:=yl (hsv _ (List.getElem_mem k2))
   have hx:=XSite.e.eq_1 w.sites[k]
   have hy:=XServer.e.eq_1 w.servers[k]
   have e9:=ul w.sites[k].name
   have e10:=Mj k3 w.sites[k].name
   have hb:Bb w k=(!(qw w.sites[k])||(!(w.sites[k].name==Jz[k])|| !(wn w.servers[k]))):=by simp[Bb,k1,k2,k3]
   rw[hb]
   generalize qw w.sites[k]=b9 at e7⊢
   generalize wn w.servers[k]=b10 at e8⊢
   rw[←e10]
   generalize yG w.sites[k].name=F at e9⊢
   obtain⟨b11,h9⟩:∃g,(F==(k:Int))=g:=⟨_,rfl⟩
   rw[h9]
   cases b9
   ·simp +contextual (maxSteps:=9999999) [fO,hk,k1,hx,e7,ws,l3,h7,h8]
   cases b11
   ·simp +contextual (maxSteps:=9999999) [fO,hk,k1,k3,hx,e7,e9,h9,uD,ws,l3,h7,h8]
   simp +contextual (maxSteps:=9999999) [fO,hk,k1,k2,k3,hx,hy,e7,e8,e9,h9,uD,ws,l3,h7,h8]
  ·simp(maxSteps:=9999999) [fO,hp,h7,h8,show dK 3 3=false from rfl]
theorem AB {w:XWorld}(h:w.Ok 1048576):ag Ph aG 373 [w.v]=some (au (wq w)):=by
 have hm:w.Ok maxLen:=XWorld.Ok.mono (by unfold maxLen;omega) h
 obtain⟨_,_,⟨hsl,hsb⟩,⟨hpl,hpp⟩,_,⟨hll,hlk⟩,_,⟨htl,hst⟩,hvl,hsv⟩:=hm
 have e1:=bq w.now 0 999999990000
 have e2:=bq w.device 1 1000000
 have e3:=wK h.2.2.1.1 h.2.2.1.2
 have e5:=bq w.nextPage 1 1000000000000
 have e6:=tg hll hlk
 unfold wq
 obtain⟨b4,h4⟩:∃g,dK 6 w.pages.length=g:=⟨_,rfl⟩
 obtain⟨b7,h7⟩:∃g,((w.sites.length:Int)==3)=g:=⟨_,rfl⟩
 obtain⟨b8,h8⟩:∃g,((w.servers.length:Int)==3)=g:=⟨_,rfl⟩
 rw[h4,h7,h8]
 generalize rg w.now 0 999999990000=b1 at e1⊢
 generalize rg w.device 1 1000000=b2 at e2⊢
 generalize CB w.storage.buckets=b3 at e3⊢
 generalize rg w.nextPage 1 1000000000000=b5 at e5⊢
 generalize qu w.locks.locks=b6 at e6⊢
 refine ae (fn:=gV) rfl ?_
 cases b7
 ·simp(maxSteps:=9999999) [gV,h7]
 cases b8
 ·simp(maxSteps:=9999999) [gV,h7,h8]
 cases b4
 rotate_left
 ·simp(maxSteps:=9999999) [gV,h4,h7,h8]
 simp(maxSteps:=9999999) [gV,h4,h7,h8]
 have h7:w.sites.length=3:=by have:=beq_iff_eq.1 h7;omega
 have h8:w.servers.length=3:=by have:=beq_iff_eq.1 h8;omega
 refine aB aR Cl.fin [.f,.t,.f,.t,.f,.f,.f,.f,.f,.f,.f,.f,.f,.f,.f,.f,.f,.f,.f,.f,.f,.f,.f,.f,.f,.f,.f,.f,.f,.f,.f,.f,.f,.f,.f,.f,.f,.f,.f,.f,.f,.f,.f,.f,.f,.f,.f,.f,.f,.f,.f,.f,.f,.f,.f,.f,.f,.f,.f,.f,.f,.f,.f,.f,.f,.f,.f,.f,.f,.f,.f,.f,.f,.f,.f,.f,.f,.f,.f,.f,.f,.f,.f,.f,.f,.f,.f,.f,.f,.f,.f,.f,.f,.f,.f,.f,.f,.f,.f,.f,.f,.f,.f,.f,.f,.f,.f,.f,.f,.f,.f,.f,.f,.f,.f,.f,.f,.f,.f,.f,.f,.f,.f,.f,.f,.f] (fun k=>[(3,aa .i64 k)]) 3 (Bb w) rfl (by simp) (fun k hk _=> ?_) (fun _ hp=> ?_)
 ·have k1:k<w.sites.length:=by omega
  have k2:k<w.servers.length:=by omega
  have k3:k<Jz.length:=hk
  have l3:dK (k:Int) 3=true:=lL (by omega)
  have ws:=aF (n:=3) (by decide) hk
  have e7:=CX (hst _ (List.getElem_mem k1))
  have e8:=yJ (hsv _ (List.getElem_mem k2))
  have hx:=XSite.e.eq_1 w.sites[k]
  have hy:=XServer.e.eq_1 w.servers[k]
  have e9:=yM
  have hb:Bb w k=(!(qw w.sites[k])||(!(w.sites[k].name==Jz[k])|| !(wn w.servers[k]))):=by simp[Bb,k1,k2,k3]
  rw[hb]
  generalize qw w.sites[k]=b9 at e7⊢
  generalize wn w.servers[k]=b10 at e8⊢
  obtain⟨b11,h9⟩:∃g,(w.sites[k].name==Jz[k])=g:=⟨_,rfl⟩
  rw[h9]
  cases b9
  ·simp +contextual (maxSteps:=9999999) [fc,hk,k1,hx,e7,ws,l3,h7,h8]
  cases b11
  ·simp +contextual (maxSteps:=9999999) [fc,hk,k1,k3,hx,e7,e9,h9,uD,ws,l3,h7,h8]
  simp +contextual (maxSteps:=9999999) [fc,hk,k1,k2,k3,hx,hy,e7,e8,e9,h9,uD,ws,l3,h7,h8]
 ·simp(maxSteps:=9999999) [fc,hp,h7,h8,show dK 3 3=false from rfl]
  refine aB aR Cl.fin [.f,.t,.f,.f,.t,.f,.f,.f,.f,.f,.f,.f,.f,.f,.f,.f,.f,.f,.f,.f,.f,.f,.f,.f,.f,.f,.f,.f,.f,.f,.f,.f,.f,.f,.f,.f,.f,.f,.f,.f,.f,.f,.f,.f,.f,.f,.f,.f,.f,.f,.f,.f,.f,.f,.f,.f,.f,.f,.f,.f,.f,.f,.f,.f,.f,.f,.f,.f,.f,.f,.f,.f,.f,.f,.f,.f,.f,.f,.f,.f,.f,.f,.f,.f,.f,.f,.f,.f,.f,.f,.f,.f,.f,.f,.f,.f,.f,.f,.f,.f,.f,.f,.f,.f,.f,.f,.f,.f,.f,.f,.f,.f,.f,.f,.f,.f,.f,.f,.f,.f,.f,.f,.f,.f,.f,.f] (fun k=>[(4,aa .i64 k)]) w.pages.length (Ba w) rfl (by simp) (fun k hk _=> ?_) (fun _ hp=> ?_)
  ·obtain⟨q1,q2⟩:=td hpl hk
   have e7:=CW (hpp _ (List.getElem_mem hk))
   have e8:=oG hsl w.pages[k].site w.pages[k].top
   have hx:=XPage.e.eq_1 w.pages[k]
   have hy:=XPage.e.eq_1 w.pages[k-1]
   have hb:Ba w k=(!(qv w.pages[k])||(!(dK w.pages[k].id w.nextPage)||((dK 0 k&& !(dK w.pages[k-1].id w.pages[k].id))||dK (gB (IT w.pages[k].site w.pages[k].top) w.storage.buckets) 0))):=by simp[Ba,hk,q2]
   rw[hb]
   generalize qv w.pages[k]=b9 at e7⊢
   generalize gB (IT w.pages[k].site w.pages[k].top) w.storage.buckets=F at e8⊢
   cases b9
   ·simp +contextual (maxSteps:=9999999) [cK,hk,hx,e7,aF hpl hk,aV hk]
   cases c1:dK w.pages[k].id w.nextPage
   ·simp +contextual (maxSteps:=9999999) [cK,hk,hx,e7,c1,aF hpl hk,aV hk]
   cases c2:dK 0 k
   ·simp +contextual (maxSteps:=9999999) [cK,hk,hx,e7,e8,c1,c2,aF hpl hk,aV hk]
   have q3:=q1 c2
   simp +contextual (maxSteps:=9999999) [cK,hk,q2,q3,hx,hy,e7,e8,c1,c2,aF hpl hk,aV hk]
  ·cases b1
   ·simp(maxSteps:=9999999) [cK,hp,e1]
   cases b2
   ·simp(maxSteps:=9999999) [cK,hp,e1,e2]
   cases b3
   ·simp(maxSteps:=9999999) [cK,hp,e1,e2,e3]
   cases b5
   ·simp(maxSteps:=9999999) [cK,hp,e1,e2,e3,e5]
   simp(maxSteps:=9999999) [cK,hp,e1,e2,e3,e5,e6]
end Gi
