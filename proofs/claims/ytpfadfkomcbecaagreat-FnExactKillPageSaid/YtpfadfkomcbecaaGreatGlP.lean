/- Of this proof. -/
import Derived.Test.YtpfadfkomcbecaaGreatGlL
import Derived.Test.YtpfadfkomcbecaaGreatGlB
import Derived.Test.YtpfadfkomcbecaaGreatGkn
set_option linter.unusedSimpArgs false
set_option linter.unusedVariables false
namespace Gi
open Go Go.RowKit
set_option maxHeartbeats 8000000
set_option maxRecDepth 4000
attribute [local simp] start sj bf bU dQ fY dP fX f7 f6 uH uQ uI uR uJ uS uK uT uL uU uM uV uN uW uO uX uP uY V.cells plain bm gu isInt isStr isBool bin cQ jJ cR jK fZ un asList L.view ap V.view viewL aV au cU bX bN comp aK bq dw co bz bw bx bI bi cq aW bD aR aX bG cr bF bC bH V.flat L.flat dG dk bt putAt thaw thawL thawT V.ow f5 dU dV cS f4 cT dS freezeVs freezeLs freezeL V.mut L.mut aJ eS iO aN bd aG dj bK bg bQ L.ren aT dH ca dL bO bB wp_seq wp_block bv dY cW bY cX wp_skip wp_exit wp_ret cG cE cP cH dd de db cj aU L.notArr aQ aO aP dX bn storeD a9 fR bo cD be nX L.mov L.closed V.closed PV.bare PV.flat
def O9 (l:List XApplied)(k:Nat):Bool:=match l[k]?,l[k-1]? with
 |some x,some y=> !(rg x.dev 1 1000000)||(!(rg x.seq 0 1000000)||(dK 0 k&& !(dK y.dev x.dev)))
 |_,_=>false
def xw (s:XServer):Bool:= !(fT s.applied.length (O9 s.applied))&&(!(fT s.changes.length (iu (fun w=> !(Ju w)) s.changes))&&(mi s.store&&(s.store.name==sQ&& !(dK 60 s.applied.length))))
theorem zA {s:XServer}(h:s.Ok maxLen):ag Ph aF 382 [s.v]=some (ar (xw s)):=by
 obtain⟨h1,⟨h2,h3⟩,h4,h5⟩:=h
 have e1:=nQ h1
 have e2:=fun v=>a8 v 1 1000000
 have e3:=fun v=>a8 v 0 1000000
 unfold xw
 refine ae (fn:=nC) rfl ?_
 simp +contextual (maxSteps:=9999999) [nC]
 refine aA aM Cl.fin [.f,.t,.f,.f,.f,.f,.f,.f,.t,.t,.t,.f,.f,.f,.f,.f,.f,.f,.f,.f,.f,.f,.f,.f,.f,.f,.f,.f,.f,.f,.f,.f,.f,.f,.f,.f,.f,.f,.f,.f,.f,.f,.f,.f,.f,.f,.f,.f,.f,.f,.f,.f,.f,.f,.f,.f,.f,.f,.f,.f,.f,.f,.f,.f,.f,.f,.f,.f] (fun k=>[(10,aa .i64 k)]) s.applied.length (O9 s.applied) rfl (by simp) (fun k hk _=> ?_) (fun _ hp=> ?_)
 ·obtain⟨q1,q2⟩:=ua h2 hk
  simp +contextual (maxSteps:=9999999) [gG,O9,hk,q1,q2,e2,e3,aD h2 hk,aS hk,XApplied.e.eq_1 s.applied[k],XApplied.e.eq_1 s.applied[k-1]]
 ·simp(maxSteps:=9999999) [gG,hp]
  refine aA aM Cl.fin [.f,.t,.f,.f,.f,.f,.f,.f,.f,.f,.f,.f,.f,.f,.f,.f,.f,.f,.f,.f,.f,.f,.f,.f,.f,.f,.f,.f,.f,.f,.f,.f,.f,.f,.f,.f,.f,.f,.f,.f,.f,.f,.f,.t,.t,.t,.f,.f,.f,.f,.f,.f,.f,.f,.f,.f,.f,.f,.f,.f,.f,.f,.f,.f,.f,.f,.f,.f] (fun k=>[(45,aa .i64 k)]) s.changes.length (iu (fun w=> !(Ju w)) s.changes) rfl (by simp) (fun k hk _=> ?_) (fun _ hp=> ?_)
  ·have e4:=mE (h5 _ (List.getElem_mem hk))
   simp +contextual (maxSteps:=9999999) [jg,iu,hk,e4,aD h4 hk,aS hk,XWrite.e.eq_1 s.changes[k]]
  ·simp +contextual (maxSteps:=9999999) [jg,hp,e1,sQ]
theorem Ab {s:XServer}(h:s.Ok maxLen):ag Ph aF 376 [s.v]=some (ar (xw s)):=by
 obtain⟨h1,⟨h2,h3⟩,h4,h5⟩:=h
 have e1:=nS h1
 have e2:=fun v=>br v 1 1000000
 have e3:=fun v=>br v 0 1000000
 unfold xw
 refine ae (fn:=nL) rfl ?_
 simp +contextual (maxSteps:=9999999) [nL]
 refine aA aM Cl.fin [.f,.t,.f,.t,.f,.f,.f,.f,.f,.f,.f,.f,.f,.f,.f,.f,.f,.f,.f,.f,.f,.f,.f,.f,.f,.f,.f,.f,.f,.f,.f,.f,.f,.f,.f,.f,.f,.f,.f,.f,.f,.f,.f,.f,.f,.f,.f,.f,.f,.f,.f,.f,.f,.f,.f,.f,.f,.f,.f,.f,.f,.f,.f,.f,.f,.f,.f,.f,.f,.f,.f,.f,.f,.f,.f,.f,.f,.f,.f] (fun k=>[(3,aa .i64 k)]) s.applied.length (O9 s.applied) rfl (by simp) (fun k hk _=> ?_) (fun _ hp=> ?_)
 ·obtain⟨q1,q2⟩:=ua h2 hk
  simp +contextual (maxSteps:=9999999) [gH,O9,hk,q1,q2,e2,e3,aD h2 hk,aS hk,XApplied.e.eq_1 s.applied[k],XApplied.e.eq_1 s.applied[k-1]]
 ·simp(maxSteps:=9999999) [gH,hp]
  refine aA aM Cl.fin [.f,.t,.f,.f,.t,.f,.f,.f,.f,.f,.f,.f,.f,.f,.f,.f,.f,.f,.f,.f,.f,.f,.f,.f,.f,.f,.f,.f,.f,.f,.f,.f,.f,.f,.f,.f,.f,.f,.f,.f,.f,.f,.f,.f,.f,.f,.f,.f,.f,.f,.f,.f,.f,.f,.f,.f,.f,.f,.f,.f,.f,.f,.f,.f,.f,.f,.f,.f,.f,.f,.f,.f,.f,.f,.f,.f,.f,.f,.f] (fun k=>[(4,aa .i64 k)]) s.changes.length (iu (fun w=> !(Ju w)) s.changes) rfl (by simp) (fun k hk _=> ?_) (fun _ hp=> ?_)
  ·have e4:=mH (h5 _ (List.getElem_mem hk))
   simp +contextual (maxSteps:=9999999) [jk,iu,hk,e4,aD h4 hk,aS hk,XWrite.e.eq_1 s.changes[k]]
  ·simp +contextual (maxSteps:=9999999) [jk,hp,e1,sQ]
def Pb (l:List (List UInt8))(k:Nat):Bool:=match l[k]?,l[k-1]? with
 |some x,some y=> !(cC x)||(dK 0 k&& !(Op.bytesLess y x))
 |_,_=>false
def rz (s:XSite):Bool:= !(fT s.files.length (Pb s.files))&&(cC s.name&&(rg s.version 1 1000000000000&&rg s.files.length 1 6))
theorem DN {s:XSite}(h:s.Ok maxLen):ag Ph aF 381 [s.v]=some (ar (rz s)):=by
 obtain⟨h1,_,h2,h3⟩:=h
 have e1:=bj h1
 unfold rz
 refine ae (fn:=p5) rfl ?_
 simp +contextual (maxSteps:=9999999) [p5]
 refine aA aM Cl.fin [.f,.t,.f,.f,.f,.f,.t,.t,.t,.f,.f,.f,.f,.f,.f,.f,.f,.f,.f,.f,.f,.f,.f,.f,.f,.f,.f,.f,.f,.f,.f,.f,.f,.f,.f,.f,.f,.f,.f,.f,.f,.f,.f,.f,.f] (fun k=>[(8,aa .i64 k)]) s.files.length (Pb s.files) rfl (by simp) (fun k hk _=> ?_) (fun _ hp=> ?_)
 ·obtain⟨q1,q2⟩:=ua h2 hk
  have e2:=bj (h3 _ (List.getElem_mem hk))
  simp +contextual (maxSteps:=9999999) [kq,Pb,hk,q1,q2,e2,aD h2 hk,aS hk,vY]
 ·simp +contextual (maxSteps:=9999999) [kq,hp,e1,a8]
theorem Ei {s:XSite}(h:s.Ok maxLen):ag Ph aF 375 [s.v]=some (ar (rz s)):=by
 obtain⟨h1,_,h2,h3⟩:=h
 have e1:=cf h1
 unfold rz
 refine ae (fn:=p9) rfl ?_
 simp +contextual (maxSteps:=9999999) [p9]
 refine aA aM Cl.fin [.f,.t,.f,.t,.f,.f,.f,.f,.f,.f,.f,.f,.f,.f,.f,.f,.f,.f,.f,.f,.f,.f,.f,.f,.f,.f,.f,.f,.f,.f,.f,.f,.f,.f,.f,.f,.f,.f,.f,.f,.f,.f,.f,.f,.f,.f,.f,.f,.f,.f] (fun k=>[(3,aa .i64 k)]) s.files.length (Pb s.files) rfl (by simp) (fun k hk _=> ?_) (fun _ hp=> ?_)
 ·obtain⟨q1,q2⟩:=ua h2 hk
  have e2:=cf (h3 _ (List.getElem_mem hk))
  simp +contextual (maxSteps:=9999999) [kA,Pb,hk,q1,q2,e2,aD h2 hk,aS hk,vY]
 ·simp +contextual (maxSteps:=9999999) [kA,hp,e1,br]
def ru (p:XPage):Bool:= !(fT p.loaded.length (iu (fun x=> !(cC x.path)|| !(x.version==p.version)) p.loaded))&&(rg p.id 1 1000000000000&&(cC p.site&&(cC p.top&&(rg p.version 1 1000000000000&& !(dK 8 p.loaded.length)))))
theorem DM {p:XPage}(h:p.Ok maxLen):ag Ph aF 151 [p.v]=some (ar (ru p)):=by
 obtain⟨_,h1,h2,_,⟨h3,h4⟩,_⟩:=h
 have e1:=bj h1
 have e2:=bj h2
 unfold ru
 refine ae (fn:=p4) rfl ?_
 simp +contextual (maxSteps:=9999999) [p4]
 refine aA aM Cl.fin [.f,.t,.f,.f,.f,.f,.t,.t,.t,.f,.f,.f,.f,.f,.f,.f,.f,.f,.f,.f,.f,.f,.f,.f,.f,.f,.f,.f,.f,.f,.f,.f,.f,.f,.f,.f,.f,.f,.f,.f,.f,.f,.f,.f,.f,.f,.f,.f] (fun k=>[(8,aa .i64 k)]) p.loaded.length (iu (fun x=> !(cC x.path)|| !(x.version==p.version)) p.loaded) rfl (by simp) (fun k hk _=> ?_) (fun _ hp=> ?_)
 ·have e3:=bj (h4 _ (List.getElem_mem hk)).1
  simp +contextual (maxSteps:=9999999) [ko,iu,hk,e3,aD h3 hk,aS hk,XLoaded.e.eq_1 p.loaded[k]]
 ·simp +contextual (maxSteps:=9999999) [ko,hp,e1,e2,a8]
theorem Eh {p:XPage}(h:p.Ok maxLen):ag Ph aF 149 [p.v]=some (ar (ru p)):=by
 obtain⟨_,h1,h2,_,⟨h3,h4⟩,_⟩:=h
 have e1:=cf h1
 have e2:=cf h2
 unfold ru
 refine ae (fn:=p8) rfl ?_
 simp +contextual (maxSteps:=9999999) [p8]
 refine aA aM Cl.fin [.f,.t,.f,.t,.f,.f,.f,.f,.f,.f,.f,.f,.f,.f,.f,.f,.f,.f,.f,.f,.f,.f,.f,.f,.f,.f,.f,.f,.f,.f,.f,.f,.f,.f,.f,.f,.f,.f,.f,.f,.f,.f,.f,.f,.f,.f,.f,.f,.f,.f,.f,.f,.f,.f] (fun k=>[(3,aa .i64 k)]) p.loaded.length (iu (fun x=> !(cC x.path)|| !(x.version==p.version)) p.loaded) rfl (by simp) (fun k hk _=> ?_) (fun _ hp=> ?_)
 ·have e3:=cf (h4 _ (List.getElem_mem hk)).1
  simp +contextual (maxSteps:=9999999) [ky,iu,hk,e3,aD h3 hk,aS hk,XLoaded.e.eq_1 p.loaded[k]]
 ·simp +contextual (maxSteps:=9999999) [ky,hp,e1,e2,br]
def xv (b:XBucket):Bool:=cC b.site&&(cC b.top&&(DQ b.reg&&(b.reg.site==b.site&&(Lh b.caches.caches&&(Li b.disk.base&&(DR b.replica&&(rg b.lastUsed 0 1000000000000&& !(dK 2500 (Kz b:Nat)))))))))
theorem zy {b:XBucket}(h:b.Ok 1048576):ag Ph aF 387 [b.v]=some (ar (xv b)):=by
 have hm:=XBucket.Ok.mono (B:=maxLen) (by unfold maxLen;omega) h
 have e1:=bj hm.1
 have e2:=bj hm.2.1
 have e3:=rp hm.2.2.1
 have e5:=vI hm.2.2.2.1
 have e6:=vJ (Nat.le_refl 1048576) h.2.2.2.2.1.1
 have e7:=xn hm.2.2.2.2.2.1
 have e8:=a8 b.lastUsed 0 1000000000000
 have e9:=BB h
 unfold xv
 obtain⟨b4,h4⟩:∃g,(b.reg.site==b.site)=g:=⟨_,rfl⟩
 rw[h4]
 generalize cC b.site=b1 at e1⊢
 generalize cC b.top=b2 at e2⊢
 generalize DQ b.reg=b3 at e3⊢
 generalize Lh b.caches.caches=b5 at e5⊢
 generalize Li b.disk.base=b6 at e6⊢
 generalize DR b.replica=b7 at e7⊢
 generalize rg b.lastUsed 0 1000000000000=b8 at e8⊢
 refine ae (fn:=df) rfl ?_
 cases b1
 ·simp(maxSteps:=9999999) [df,e1]
 cases b2
 ·simp(maxSteps:=9999999) [df,e1,e2]
 cases b3
 ·simp(maxSteps:=9999999) [df,e1,e2,e3]
 cases b4
 ·simp(maxSteps:=9999999) [df,e1,e2,e3,h4]
 cases b5
 ·simp(maxSteps:=9999999) [df,e1,e2,e3,h4,e5]
 cases b6
 ·simp(maxSteps:=9999999) [df,e1,e2,e3,h4,e5,e6]
 cases b7
 ·simp(maxSteps:=9999999) [df,e1,e2,e3,h4,e5,e6,e7]
 cases b8
 ·simp(maxSteps:=9999999) [df,e1,e2,e3,h4,e5,e6,e7,e8]
 simp(maxSteps:=9999999) [df,e1,e2,e3,h4,e5,e6,e7,e8,e9]
theorem zZ {b:XBucket}(h:b.Ok 1048576):ag Ph aF 384 [b.v]=some (ar (xv b)):=by
 have hm:=XBucket.Ok.mono (B:=maxLen) (by unfold maxLen;omega) h
 have e1:=cf hm.1
 have e2:=cf hm.2.1
 have e3:=rJ hm.2.2.1
 have e5:=v7 hm.2.2.2.1
 have e6:=wa (Nat.le_refl 1048576) h.2.2.2.2.1.1
 have e7:=xR hm.2.2.2.2.2.1
 have e8:=br b.lastUsed 0 1000000000000
 have e9:=BJ h
 unfold xv
 obtain⟨b4,h4⟩:∃g,(b.reg.site==b.site)=g:=⟨_,rfl⟩
 rw[h4]
 generalize cC b.site=b1 at e1⊢
 generalize cC b.top=b2 at e2⊢
 generalize DQ b.reg=b3 at e3⊢
 generalize Lh b.caches.caches=b5 at e5⊢
 generalize Li b.disk.base=b6 at e6⊢
 generalize DR b.replica=b7 at e7⊢
 generalize rg b.lastUsed 0 1000000000000=b8 at e8⊢
 refine ae (fn:=dg) rfl ?_
 cases b1
 ·simp(maxSteps:=9999999) [dg,e1]
 cases b2
 ·simp(maxSteps:=9999999) [dg,e1,e2]
 cases b3
 ·simp(maxSteps:=9999999) [dg,e1,e2,e3]
 cases b4
 ·simp(maxSteps:=9999999) [dg,e1,e2,e3,h4]
 cases b5
 ·simp(maxSteps:=9999999) [dg,e1,e2,e3,h4,e5]
 cases b6
 ·simp(maxSteps:=9999999) [dg,e1,e2,e3,h4,e5,e6]
 cases b7
 ·simp(maxSteps:=9999999) [dg,e1,e2,e3,h4,e5,e6,e7]
 cases b8
 ·simp(maxSteps:=9999999) [dg,e1,e2,e3,h4,e5,e6,e7,e8]
 simp(maxSteps:=9999999) [dg,e1,e2,e3,h4,e5,e6,e7,e8,e9]
def KN (l:List XBucket)(k:Nat):Bool:=match l[k]?,l[k-1]? with
 |some x,some y=> !(xv x)||(dK 0 k&& !(wq y x))
 |_,_=>false
def DS (l:List XBucket):Bool:= !(fT l.length (KN l))&& !(dK 9 l.length)
theorem xp {l:List XBucket}(hl:l.length≤1048576)(h:∀x∈l,x.Ok 1048576):ag Ph aF 379 [.agg [.pv (.lst (l.map XBucket.e))]]=some (ar (DS l)):=by
 have hm:l.length≤maxLen:=by unfold maxLen;omega
 unfold DS
 refine ae (fn:=mO) rfl ?_
 simp +contextual (maxSteps:=9999999) [mO]
 refine aA aM Cl.fin [.f,.t,.f,.f,.f,.f,.t,.t,.t,.f,.f,.f,.f,.f,.f,.f,.f,.f,.f,.f,.f,.f,.f,.f,.f,.f,.f,.f,.f,.f,.f,.f,.f,.f,.f,.f] (fun k=>[(8,aa .i64 k)]) l.length (KN l) rfl (by simp) (fun k hk _=> ?_) (fun _ hp=> ?_)
 ·obtain⟨q1,q2⟩:=ua hm hk
  have e1:=zy (h _ (List.getElem_mem hk))
  have e2:=sF l[k-1] l[k]
  have hx:=XBucket.e.eq_1 l[k]
  have hy:=XBucket.e.eq_1 l[k-1]
  have hb:KN l k=(!(xv l[k])||(dK 0 k&& !(wq l[k-1] l[k]))):=by simp[KN,hk,q2]
  rw[hb]
  generalize xv l[k]=b1 at e1⊢
  generalize wq l[k-1] l[k]=b2 at e2⊢
  cases b1
  ·simp +contextual (maxSteps:=9999999) [eY,hk,hx,e1,aD hm hk,aS hk]
  cases b3:dK 0 k
  ·simp +contextual (maxSteps:=9999999) [eY,hk,hx,e1,b3,aD hm hk,aS hk]
  have q3:=q1 b3
  cases b2<;>simp +contextual (maxSteps:=9999999) [eY,hk,q2,q3,hx,hy,e1,e2,b3,aD hm hk,aS hk]
 ·simp(maxSteps:=9999999) [eY,hp]
theorem xS {l:List XBucket}(hl:l.length≤1048576)(h:∀x∈l,x.Ok 1048576):ag Ph aF 377 [.agg [.pv (.lst (l.map XBucket.e))]]=some (ar (DS l)):=by
 have hm:l.length≤maxLen:=by unfold maxLen;omega
 unfold DS
 refine ae (fn:=m6) rfl ?_
 simp +contextual (maxSteps:=9999999) [m6]
 refine aA aM Cl.fin [.f,.t,.f,.t,.f,.f,.f,.f,.f,.f,.f,.f,.f,.f,.f,.f,.f,.f,.f,.f,.f,.f,.f,.f,.f,.f,.f,.f,.f,.f,.f,.f,.f,.f,.f,.f,.f,.f,.f,.f,.f,.f,.f,.f,.f,.f,.f,.f] (fun k=>[(3,aa .i64 k)]) l.length (KN l) rfl (by simp) (fun k hk _=> ?_) (fun _ hp=> ?_)
 ·obtain⟨q1,q2⟩:=ua hm hk
  have e1:=zZ (h _ (List.getElem_mem hk))
  have e2:=BZ l[k-1] l[k]
  have hx:=XBucket.e.eq_1 l[k]
  have hy:=XBucket.e.eq_1 l[k-1]
  have hb:KN l k=(!(xv l[k])||(dK 0 k&& !(wq l[k-1] l[k]))):=by simp[KN,hk,q2]
  rw[hb]
  generalize xv l[k]=b1 at e1⊢
  generalize wq l[k-1] l[k]=b2 at e2⊢
  cases b1
  ·simp +contextual (maxSteps:=9999999) [fa,hk,hx,e1,aD hm hk,aS hk]
  cases b3:dK 0 k
  ·simp +contextual (maxSteps:=9999999) [fa,hk,hx,e1,b3,aD hm hk,aS hk]
  have q3:=q1 b3
  cases b2<;>simp +contextual (maxSteps:=9999999) [fa,hk,q2,q3,hx,hy,e1,e2,b3,aD hm hk,aS hk]
 ·simp(maxSteps:=9999999) [fa,hp]
theorem Ou {k:Nat}(hk:k<Lv.length)(s:List UInt8):(zY s==(k:Int))=(s==Lv[k]):=by
 have hk':k<3:=hk
 by_cases h1:s=[98,97,110,107]
 ·subst h1
  obtain rfl|rfl|rfl:k=0∨k=1∨k=2:=by omega
  all_goals rfl
 by_cases h2:s=[110,101,119,115]
 ·subst h2
  obtain rfl|rfl|rfl:k=0∨k=1∨k=2:=by omega
  all_goals rfl
 by_cases h3:s=[115,104,111,112]
 ·subst h3
  obtain rfl|rfl|rfl:k=0∨k=1∨k=2:=by omega
  all_goals rfl
 have e:zY s= -1:=by simp[zY,gv,Lv,List.findIdx?_cons,h1,h2,h3]
 have q:((-1:Int)==(k:Int))=false:=by rw[beq_eq_false_iff_ne];omega
 rw[e,q]
 symm
 rw[beq_eq_false_iff_ne]
 obtain rfl|rfl|rfl:k=0∨k=1∨k=2:=by omega
 ·exact h1
 ·exact h2
 ·exact h3
def Ck (w:XWorld)(k:Nat):Bool:=match w.pages[k]?,w.pages[k-1]? with
 |some x,some y=> !(ru x)||(!(dK x.id w.nextPage)||((dK 0 k&& !(dK y.id x.id))||dK (gv (PN x.site x.top) w.storage.buckets) 0))
 |_,_=>false
def Cm (w:XWorld)(k:Nat):Bool:=match w.sites[k]?,w.servers[k]?,Lv[k]? with
 |some s,some v,some n=> !(rz s)||(!(s.name==n)|| !(xw v))
 |_,_,_=>false
def xx (w:XWorld):Bool:=rg w.now 0 999999990000&&(rg w.device 1 1000000&&(DS w.storage.buckets&&(!(dK 6 w.pages.length)&&(rg w.nextPage 1 1000000000000&&(rt w.locks.locks&&(((w.sites.length:Int)==3)&&(((w.servers.length:Int)==3)&&(!(fT w.pages.length (Ck w))&& !(fT 3 (Cm w))))))))))
theorem BA {w:XWorld}(h:w.Ok 1048576):ag Ph aF 374 [w.v]=some (ar (xx w)):=by
 have hm:w.Ok maxLen:=XWorld.Ok.mono (by unfold maxLen;omega) h
 obtain⟨_,_,⟨hsl,hsb⟩,⟨hpl,hpp⟩,_,⟨hll,hlk⟩,_,⟨htl,hst⟩,hvl,hsv⟩:=hm
 have e1:=a8 w.now 0 999999990000
 have e2:=a8 w.device 1 1000000
 have e3:=xp h.2.2.1.1 h.2.2.1.2
 have e5:=a8 w.nextPage 1 1000000000000
 have e6:=tX hll hlk
 unfold xx
 obtain⟨b4,h4⟩:∃g,dK 6 w.pages.length=g:=⟨_,rfl⟩
 obtain⟨b7,h7⟩:∃g,((w.sites.length:Int)==3)=g:=⟨_,rfl⟩
 obtain⟨b8,h8⟩:∃g,((w.servers.length:Int)==3)=g:=⟨_,rfl⟩
 rw[h4,h7,h8]
 generalize rg w.now 0 999999990000=b1 at e1⊢
 generalize rg w.device 1 1000000=b2 at e2⊢
 generalize DS w.storage.buckets=b3 at e3⊢
 generalize rg w.nextPage 1 1000000000000=b5 at e5⊢
 generalize rt w.locks.locks=b6 at e6⊢
 refine ae (fn:=dE) rfl ?_
 cases b1
 ·simp(maxSteps:=9999999) [dE,e1]
 cases b2
 ·simp(maxSteps:=9999999) [dE,e1,e2]
 cases b3
 ·simp(maxSteps:=9999999) [dE,e1,e2,e3]
 cases b4
 rotate_left
 ·simp(maxSteps:=9999999) [dE,e1,e2,e3,h4]
 cases b5
 ·simp(maxSteps:=9999999) [dE,e1,e2,e3,h4,e5]
 cases b6
 ·simp(maxSteps:=9999999) [dE,e1,e2,e3,h4,e5,e6]
 cases b7
 ·simp(maxSteps:=9999999) [dE,e1,e2,e3,h4,e5,e6,h7]
 cases b8
 ·simp(maxSteps:=9999999) [dE,e1,e2,e3,h4,e5,e6,h7,h8]
 simp(maxSteps:=9999999) [dE,e1,e2,e3,h4,e5,e6,h7,h8]
 have h7:w.sites.length=3:=by have:=beq_iff_eq.1 h7;omega
 have h8:w.servers.length=3:=by have:=beq_iff_eq.1 h8;omega
 refine aA aM Cl.fin [.f,.t,.f,.f,.f,.f,.f,.f,.f,.f,.f,.f,.f,.f,.f,.f,.f,.f,.f,.f,.f,.f,.f,.f,.f,.f,.f,.f,.f,.f,.f,.f,.f,.f,.f,.f,.f,.f,.f,.f,.f,.f,.f,.f,.f,.f,.f,.f,.f,.f,.f,.f,.f,.f,.t,.t,.t,.f,.f,.f,.f,.f,.f,.f,.f,.f,.f,.f,.f,.f,.f,.f,.f,.f,.f,.f,.f,.f,.f,.f,.f,.f,.f,.f,.f,.f,.f,.f,.f,.f,.f,.f,.f,.f,.f,.f,.f,.f,.f,.f,.f,.f,.f,.f,.f,.f,.f,.f,.f,.f,.f,.f,.f,.f,.f,.f,.f,.f,.f,.f,.f,.f,.f,.f,.f,.f] (fun k=>[(56,aa .i64 k)]) w.pages.length (Ck w) rfl (by simp) (fun k hk _=> ?_) (fun _ hp=> ?_)
 ·obtain⟨q1,q2⟩:=ua hpl hk
  have e7:=DM (hpp _ (List.getElem_mem hk))
  have e8:=vG hsl w.pages[k].site w.pages[k].top
  have hx:=XPage.e.eq_1 w.pages[k]
  have hy:=XPage.e.eq_1 w.pages[k-1]
  have hb:Ck w k=(!(ru w.pages[k])||(!(dK w.pages[k].id w.nextPage)||((dK 0 k&& !(dK w.pages[k-1].id w.pages[k].id))||dK (gv (PN w.pages[k].site w.pages[k].top) w.storage.buckets) 0))):=by simp[Ck,hk,q2]
  rw[hb]
  generalize ru w.pages[k]=b9 at e7⊢
  generalize gv (PN w.pages[k].site w.pages[k].top) w.storage.buckets=F at e8⊢
  cases b9
  ·simp +contextual (maxSteps:=9999999) [ee,hk,hx,e7,aD hpl hk,aS hk]
  cases c1:dK w.pages[k].id w.nextPage
  ·simp +contextual (maxSteps:=9999999) [ee,hk,hx,e7,c1,aD hpl hk,aS hk]
  cases c2:dK 0 k
  ·simp +contextual (maxSteps:=9999999) [ee,hk,hx,e7,e8,c1,c2,aD hpl hk,aS hk]
  have q3:=q1 c2
  simp +contextual (maxSteps:=9999999) [ee,hk,q2,q3,hx,hy,e7,e8,c1,c2,aD hpl hk,aS hk]
 ·simp(maxSteps:=9999999) [ee,hp]
  refine aA aM Cl.fin [.f,.t,.f,.f,.f,.f,.f,.f,.f,.f,.f,.f,.f,.f,.f,.f,.f,.f,.f,.f,.f,.f,.f,.f,.f,.f,.f,.f,.f,.f,.f,.f,.f,.f,.f,.f,.f,.f,.f,.f,.f,.f,.f,.f,.f,.f,.f,.f,.f,.f,.f,.f,.f,.f,.f,.f,.f,.f,.f,.f,.f,.f,.f,.f,.f,.f,.f,.f,.f,.f,.f,.f,.f,.f,.f,.f,.f,.f,.f,.f,.f,.f,.f,.f,.f,.f,.f,.f,.f,.f,.f,.f,.f,.f,.f,.f,.f,.f,.f,.t,.t,.t,.f,.f,.f,.f,.f,.f,.f,.f,.f,.f,.f,.f,.f,.f,.f,.f,.f,.f,.f,.f,.f,.f,.f,.f] (fun k=>[(101,aa .i64 k)]) 3 (Cm w) rfl (by simp) (fun k hk _=> ?_) (fun _ hp=> ?_)
  ·have k1:k<w.sites.length:=by omega
   have k2:k<w.servers.length:=by omega
   have k3:k<Lv.length:=hk
   have l3:dK (k:Int) 3=true:=mG (by omega)
   have ws:=aD (n:=3) (by decide) hk
   have e7:=DN (hst _ (List.getElem_mem k1))
   have e8:=zA (hsv _ (List.getElem_mem k2))
   have hx:=XSite.e.eq_1 w.sites[k]
   have hy:=XServer.e.eq_1 w.servers[k]
   have e9:=vL w.sites[k].name
   have e10:=Ou k3 w.sites[k].name
   have hb:Cm w k=(!(rz w.sites[k])||(!(w.sites[k].name==Lv[k])|| !(xw w.servers[k]))):=by simp[Cm,k1,k2,k3]
   rw[hb]
   generalize rz w.sites[k]=b9 at e7⊢
   generalize xw w.servers[k]=b10 at e8⊢
   rw[←e10]
   generalize zY w.sites[k].name=F at e9⊢
   obtain⟨b11,h9⟩:∃g,(F==(k:Int))=g:=⟨_,rfl⟩
   rw[h9]
   cases b9
   ·simp +contextual (maxSteps:=9999999) [f9,hk,k1,hx,e7,ws,l3,h7,h8]
   cases b11
   ·simp +contextual (maxSteps:=9999999) [f9,hk,k1,k3,hx,e7,e9,h9,vY,ws,l3,h7,h8]
   simp +contextual (maxSteps:=9999999) [f9,hk,k1,k2,k3,hx,hy,e7,e8,e9,h9,vY,ws,l3,h7,h8]
  ·simp(maxSteps:=9999999) [f9,hp,h7,h8,show dK 3 3=false from rfl]
theorem BI {w:XWorld}(h:w.Ok 1048576):ag Ph aF 373 [w.v]=some (ar (xx w)):=by
 have hm:w.Ok maxLen:=XWorld.Ok.mono (by unfold maxLen;omega) h
 obtain⟨_,_,⟨hsl,hsb⟩,⟨hpl,hpp⟩,_,⟨hll,hlk⟩,_,⟨htl,hst⟩,hvl,hsv⟩:=hm
 have e1:=br w.now 0 999999990000
 have e2:=br w.device 1 1000000
 have e3:=xS h.2.2.1.1 h.2.2.1.2
 have e5:=br w.nextPage 1 1000000000000
 have e6:=ud hll hlk
 unfold xx
 obtain⟨b4,h4⟩:∃g,dK 6 w.pages.length=g:=⟨_,rfl⟩
 obtain⟨b7,h7⟩:∃g,((w.sites.length:Int)==3)=g:=⟨_,rfl⟩
 obtain⟨b8,h8⟩:∃g,((w.servers.length:Int)==3)=g:=⟨_,rfl⟩
 rw[h4,h7,h8]
 generalize rg w.now 0 999999990000=b1 at e1⊢
 generalize rg w.device 1 1000000=b2 at e2⊢
 generalize DS w.storage.buckets=b3 at e3⊢
 generalize rg w.nextPage 1 1000000000000=b5 at e5⊢
 generalize rt w.locks.locks=b6 at e6⊢
 refine ae (fn:=ig) rfl ?_
 cases b7
 ·simp(maxSteps:=9999999) [ig,h7]
 cases b8
 ·simp(maxSteps:=9999999) [ig,h7,h8]
 cases b4
 rotate_left
 ·simp(maxSteps:=9999999) [ig,h4,h7,h8]
 simp(maxSteps:=9999999) [ig,h4,h7,h8]
 have h7:w.sites.length=3:=by have:=beq_iff_eq.1 h7;omega
 have h8:w.servers.length=3:=by have:=beq_iff_eq.1 h8;omega
 refine aA aM Cl.fin [.f,.t,.f,.t,.f,.f,.f,.f,.f,.f,.f,.f,.f,.f,.f,.f,.f,.f,.f,.f,.f,.f,.f,.f,.f,.f,.f,.f,.f,.f,.f,.f,.f,.f,.f,.f,.f,.f,.f,.f,.f,.f,.f,.f,.f,.f,.f,.f,.f,.f,.f,.f,.f,.f,.f,.f,.f,.f,.f,.f,.f,.f,.f,.f,.f,.f,.f,.f,.f,.f,.f,.f,.f,.f,.f,.f,.f,.f,.f,.f,.f,.f,.f,.f,.f,.f,.f,.f,.f,.f,.f,.f,.f,.f,.f,.f,.f,.f,.f,.f,.f,.f,.f,.f,.f,.f,.f,.f,.f,.f,.f,.f,.f,.f,.f,.f,.f,.f,.f,.f,.f,.f,.f,.f,.f,.f] (fun k=>[(3,aa .i64 k)]) 3 (Cm w) rfl (by simp) (fun k hk _=> ?_) (fun _ hp=> ?_)
 ·have k1:k<w.sites.length:=by omega
  have k2:k<w.servers.length:=by omega
  have k3:k<Lv.length:=hk
  have l3:dK (k:Int) 3=true:=mG (by omega)
  have ws:=aD (n:=3) (by decide) hk
  have e7:=Ei (hst _ (List.getElem_mem k1))
  have e8:=Ab (hsv _ (List.getElem_mem k2))
  have hx:=XSite.e.eq_1 w.sites[k]
  have hy:=XServer.e.eq_1 w.servers[k]
  have e9:=Af
  have hb:Cm w k=(!(rz w.sites[k])||(!(w.sites[k].name==Lv[k])|| !(xw w.servers[k]))):=by simp[Cm,k1,k2,k3]
  rw[hb]
  generalize rz w.sites[k]=b9 at e7⊢
  generalize xw w.servers[k]=b10 at e8⊢
  obtain⟨b11,h9⟩:∃g,(w.sites[k].name==Lv[k])=g:=⟨_,rfl⟩
  rw[h9]
  cases b9
  ·simp +contextual (maxSteps:=9999999) [fb,hk,k1,hx,e7,ws,l3,h7,h8]
  cases b11
  ·simp +contextual (maxSteps:=9999999) [fb,hk,k1,k3,hx,e7,e9,h9,vY,ws,l3,h7,h8]
  simp +contextual (maxSteps:=9999999) [fb,hk,k1,k2,k3,hx,hy,e7,e8,e9,h9,vY,ws,l3,h7,h8]
 ·simp(maxSteps:=9999999) [fb,hp,h7,h8,show dK 3 3=false from rfl]
  refine aA aM Cl.fin [.f,.t,.f,.f,.t,.f,.f,.f,.f,.f,.f,.f,.f,.f,.f,.f,.f,.f,.f,.f,.f,.f,.f,.f,.f,.f,.f,.f,.f,.f,.f,.f,.f,.f,.f,.f,.f,.f,.f,.f,.f,.f,.f,.f,.f,.f,.f,.f,.f,.f,.f,.f,.f,.f,.f,.f,.f,.f,.f,.f,.f,.f,.f,.f,.f,.f,.f,.f,.f,.f,.f,.f,.f,.f,.f,.f,.f,.f,.f,.f,.f,.f,.f,.f,.f,.f,.f,.f,.f,.f,.f,.f,.f,.f,.f,.f,.f,.f,.f,.f,.f,.f,.f,.f,.f,.f,.f,.f,.f,.f,.f,.f,.f,.f,.f,.f,.f,.f,.f,.f,.f,.f,.f,.f,.f,.f] (fun k=>[(4,aa .i64 k)]) w.pages.length (Ck w) rfl (by simp) (fun k hk _=> ?_) (fun _ hp=> ?_)
  ·obtain⟨q1,q2⟩:=ua hpl hk
   have e7:=Eh (hpp _ (List.getElem_mem hk))
   have e8:=v5 hsl w.pages[k].site w.pages[k].top
   have hx:=XPage.e.eq_1 w.pages[k]
   have hy:=XPage.e.eq_1 w.pages[k-1]
   have hb:Ck w k=(!(ru w.pages[k])||(!(dK w.pages[k].id w.nextPage)||((dK 0 k&& !(dK w.pages[k-1].id w.pages[k].id))||dK (gv (PN w.pages[k].site w.pages[k].top) w.storage.buckets) 0))):=by simp[Ck,hk,q2]
   rw[hb]
   generalize ru w.pages[k]=b9 at e7⊢
   generalize gv (PN w.pages[k].site w.pages[k].top) w.storage.buckets=F at e8⊢
   cases b9
   ·simp +contextual (maxSteps:=9999999) [cN,hk,hx,e7,aD hpl hk,aS hk]
   cases c1:dK w.pages[k].id w.nextPage
   ·simp +contextual (maxSteps:=9999999) [cN,hk,hx,e7,c1,aD hpl hk,aS hk]
   cases c2:dK 0 k
   ·simp +contextual (maxSteps:=9999999) [cN,hk,hx,e7,e8,c1,c2,aD hpl hk,aS hk]
   have q3:=q1 c2
   simp +contextual (maxSteps:=9999999) [cN,hk,q2,q3,hx,hy,e7,e8,c1,c2,aD hpl hk,aS hk]
  ·cases b1
   ·simp(maxSteps:=9999999) [cN,hp,e1]
   cases b2
   ·simp(maxSteps:=9999999) [cN,hp,e1,e2]
   cases b3
   ·simp(maxSteps:=9999999) [cN,hp,e1,e2,e3]
   cases b5
   ·simp(maxSteps:=9999999) [cN,hp,e1,e2,e3,e5]
   simp(maxSteps:=9999999) [cN,hp,e1,e2,e3,e5,e6]
end Gi
