/- Of this proof. -/
import Derived.Test.YtgmnakghjemjlabGreatGki
import Derived.Test.YtgmnakghjemjlabGreatGlN
import Derived.Test.YtgmnakghjemjlabGreatGke
set_option linter.unusedSimpArgs false
set_option linter.unusedVariables false
namespace Gi
open Go Go.RowKit
set_option maxHeartbeats 8000000
set_option maxRecDepth 4000
attribute [local simp] bw rW bg bY dS fY dR fX f7 f6 um uB uo uC uq uD ur uE ut uF uu uG uw uH uy uI uz uJ V.cells plain bo gr isInt isStr isBool bin cT jF cU jG fZ un asList L.view ap V.view viewL aU ar cX bZ bP comp aK bu dz cr bD bB bC bx bc bU aO bH aS aX bJ bV bI bG bK V.flat L.flat dJ dk bt putAt thaw thawL thawT V.ow f5 dW dX cV f4 cW dV freezeVs freezeLs freezeL V.mut L.mut aJ cG iK aN be aG dv bM bi bS L.ren aV dL ce dO bQ bF wp_seq wp_block bA ed cY ca cZ wp_skip wp_exit wp_ret cK cI cS cL df dg de cq aW L.notArr aR aP aQ dZ bp storeD a9 fT br cE bh nK L.mov L.closed V.closed PV.bare PV.flat
def wY (b:XBucket):Bool:=cC b.site&&(cC b.top&&(C9 b.reg&&(b.reg.site==b.site&&(JY b.caches.caches&&(JZ b.disk.base&&(Da b.replica&&(rg b.lastUsed 0 1000000000000&& !(dA 2500 (Jm b:Nat)))))))))
theorem yS {b:XBucket}(h:b.Ok 1048576):ag Ph aE 387 [b.v]=some (au (wY b)):=by
 have hm:=XBucket.Ok.mono (B:=maxLen) (by unfold maxLen;omega) h
 have e1:=bn hm.1
 have e2:=bn hm.2.1
 have e3:=qS hm.2.2.1
 have e5:=vo hm.2.2.2.1
 have e6:=vp (Nat.le_refl 1048576) h.2.2.2.2.1.1
 have e7:=wR hm.2.2.2.2.2.1
 have e8:=aZ b.lastUsed 0 1000000000000
 have e9:=A3 h
 unfold wY
 obtain⟨b4,h4⟩:∃g,(b.reg.site==b.site)=g:=⟨_,rfl⟩
 rw[h4]
 generalize cC b.site=b1 at e1⊢
 generalize cC b.top=b2 at e2⊢
 generalize C9 b.reg=b3 at e3⊢
 generalize JY b.caches.caches=b5 at e5⊢
 generalize JZ b.disk.base=b6 at e6⊢
 generalize Da b.replica=b7 at e7⊢
 generalize rg b.lastUsed 0 1000000000000=b8 at e8⊢
 refine ae (fn:=dh) rfl ?_
 cases b1
 ·simp(maxSteps:=9999999) [dh,e1]
 cases b2
 ·simp(maxSteps:=9999999) [dh,e1,e2]
 cases b3
 ·simp(maxSteps:=9999999) [dh,e1,e2,e3]
 cases b4
 ·simp(maxSteps:=9999999) [dh,e1,e2,e3,h4]
 cases b5
 ·simp(maxSteps:=9999999) [dh,e1,e2,e3,h4,e5]
 cases b6
 ·simp(maxSteps:=9999999) [dh,e1,e2,e3,h4,e5,e6]
 cases b7
 ·simp(maxSteps:=9999999) [dh,e1,e2,e3,h4,e5,e6,e7]
 cases b8
 ·simp(maxSteps:=9999999) [dh,e1,e2,e3,h4,e5,e6,e7,e8]
 simp(maxSteps:=9999999) [dh,e1,e2,e3,h4,e5,e6,e7,e8,e9]
theorem zv {b:XBucket}(h:b.Ok 1048576):ag Ph aE 384 [b.v]=some (au (wY b)):=by
 have hm:=XBucket.Ok.mono (B:=maxLen) (by unfold maxLen;omega) h
 have e1:=co hm.1
 have e2:=co hm.2.1
 have e3:=rf hm.2.2.1
 have e5:=vH hm.2.2.2.1
 have e6:=vI (Nat.le_refl 1048576) h.2.2.2.2.1.1
 have e7:=xp hm.2.2.2.2.2.1
 have e8:=bq b.lastUsed 0 1000000000000
 have e9:=Bb h
 unfold wY
 obtain⟨b4,h4⟩:∃g,(b.reg.site==b.site)=g:=⟨_,rfl⟩
 rw[h4]
 generalize cC b.site=b1 at e1⊢
 generalize cC b.top=b2 at e2⊢
 generalize C9 b.reg=b3 at e3⊢
 generalize JY b.caches.caches=b5 at e5⊢
 generalize JZ b.disk.base=b6 at e6⊢
 generalize Da b.replica=b7 at e7⊢
 generalize rg b.lastUsed 0 1000000000000=b8 at e8⊢
 refine ae (fn:=dj) rfl ?_
 cases b1
 ·simp(maxSteps:=9999999) [dj,e1]
 cases b2
 ·simp(maxSteps:=9999999) [dj,e1,e2]
 cases b3
 ·simp(maxSteps:=9999999) [dj,e1,e2,e3]
 cases b4
 ·simp(maxSteps:=9999999) [dj,e1,e2,e3,h4]
 cases b5
 ·simp(maxSteps:=9999999) [dj,e1,e2,e3,h4,e5]
 cases b6
 ·simp(maxSteps:=9999999) [dj,e1,e2,e3,h4,e5,e6]
 cases b7
 ·simp(maxSteps:=9999999) [dj,e1,e2,e3,h4,e5,e6,e7]
 cases b8
 ·simp(maxSteps:=9999999) [dj,e1,e2,e3,h4,e5,e6,e7,e8]
 simp(maxSteps:=9999999) [dj,e1,e2,e3,h4,e5,e6,e7,e8,e9]
def JA (l:List XBucket)(k:Nat):Bool:=match l[k]?,l[k-1]? with
 |some x,some y=> !(wY x)||(dA 0 k&& !(vS y x))
 |_,_=>false
def Db (l:List XBucket):Bool:= !(fA l.length (JA l))&& !(dA 9 l.length)
theorem wS {l:List XBucket}(hl:l.length≤1048576)(h:∀x∈l,x.Ok 1048576):ag Ph aE 379 [.agg [.pv (.lst (l.map XBucket.e))]]=some (au (Db l)):=by
 have hm:l.length≤maxLen:=by unfold maxLen;omega
 unfold Db
 refine ae (fn:=mB) rfl ?_
 simp +contextual (maxSteps:=9999999) [mB]
 refine aC aT Cl.fin [.f,.t,.f,.f,.f,.f,.t,.t,.t,.f,.f,.f,.f,.f,.f,.f,.f,.f,.f,.f,.f,.f,.f,.f,.f,.f,.f,.f,.f,.f,.f,.f,.f,.f,.f,.f] (fun k=>[(8,aa .i64 k)]) l.length (JA l) rfl (by simp) (fun k hk _=> ?_) (fun _ hp=> ?_)
 ·obtain⟨q1,q2⟩:=tN hm hk
  have e1:=yS (h _ (List.getElem_mem hk))
  have e2:=sn l[k-1] l[k]
  have hx:=XBucket.e.eq_1 l[k]
  have hy:=XBucket.e.eq_1 l[k-1]
  have hb:JA l k=(!(wY l[k])||(dA 0 k&& !(vS l[k-1] l[k]))):=by simp[JA,hk,q2]
  rw[hb]
  generalize wY l[k]=b1 at e1⊢
  generalize vS l[k-1] l[k]=b2 at e2⊢
  cases b1
  ·simp +contextual (maxSteps:=9999999) [fc,hk,hx,e1,aF hm hk,aY hk]
  cases b3:dA 0 k
  ·simp +contextual (maxSteps:=9999999) [fc,hk,hx,e1,b3,aF hm hk,aY hk]
  have q3:=q1 b3
  cases b2<;>simp +contextual (maxSteps:=9999999) [fc,hk,q2,q3,hx,hy,e1,e2,b3,aF hm hk,aY hk]
 ·simp(maxSteps:=9999999) [fc,hp]
theorem xq {l:List XBucket}(hl:l.length≤1048576)(h:∀x∈l,x.Ok 1048576):ag Ph aE 377 [.agg [.pv (.lst (l.map XBucket.e))]]=some (au (Db l)):=by
 have hm:l.length≤maxLen:=by unfold maxLen;omega
 unfold Db
 refine ae (fn:=mN) rfl ?_
 simp +contextual (maxSteps:=9999999) [mN]
 refine aC aT Cl.fin [.f,.t,.f,.t,.f,.f,.f,.f,.f,.f,.f,.f,.f,.f,.f,.f,.f,.f,.f,.f,.f,.f,.f,.f,.f,.f,.f,.f,.f,.f,.f,.f,.f,.f,.f,.f,.f,.f,.f,.f,.f,.f,.f,.f,.f,.f,.f,.f] (fun k=>[(3,aa .i64 k)]) l.length (JA l) rfl (by simp) (fun k hk _=> ?_) (fun _ hp=> ?_)
 ·obtain⟨q1,q2⟩:=tN hm hk
  have e1:=zv (h _ (List.getElem_mem hk))
  have e2:=Bq l[k-1] l[k]
  have hx:=XBucket.e.eq_1 l[k]
  have hy:=XBucket.e.eq_1 l[k-1]
  have hb:JA l k=(!(wY l[k])||(dA 0 k&& !(vS l[k-1] l[k]))):=by simp[JA,hk,q2]
  rw[hb]
  generalize wY l[k]=b1 at e1⊢
  generalize vS l[k-1] l[k]=b2 at e2⊢
  cases b1
  ·simp +contextual (maxSteps:=9999999) [ff,hk,hx,e1,aF hm hk,aY hk]
  cases b3:dA 0 k
  ·simp +contextual (maxSteps:=9999999) [ff,hk,hx,e1,b3,aF hm hk,aY hk]
  have q3:=q1 b3
  cases b2<;>simp +contextual (maxSteps:=9999999) [ff,hk,q2,q3,hx,hy,e1,e2,b3,aF hm hk,aY hk]
 ·simp(maxSteps:=9999999) [ff,hp]
theorem M5 {k:Nat}(hk:k<Kb.length)(s:List UInt8):(zr s==(k:Int))=(s==Kb[k]):=by
 have hk':k<3:=hk
 by_cases h1:s=[98,97,110,107]
 ·subst h1
  obtain rfl|rfl|rfl:k=0∨k=1∨k=2:=by omega
  all_goals rfl
 by_cases h2:s=[110,101,119,115]
 ·subst h2
  obtain rfl|rfl|rfl:k=0∨k=1∨k=2:=by omega
  all_goals rfl
 by_cases h3:s=[115,104,111,112]
 ·subst h3
  obtain rfl|rfl|rfl:k=0∨k=1∨k=2:=by omega
  all_goals rfl
 have e:zr s= -1:=by simp[zr,ib,Kb,List.findIdx?_cons,h1,h2,h3]
 have q:((-1:Int)==(k:Int))=false:=by rw[beq_eq_false_iff_ne];omega
 rw[e,q]
 symm
 rw[beq_eq_false_iff_ne]
 obtain rfl|rfl|rfl:k=0∨k=1∨k=2:=by omega
 ·exact h1
 ·exact h2
 ·exact h3
def BJ (w:XWorld)(k:Nat):Bool:=match w.pages[k]?,w.pages[k-1]? with
 |some x,some y=> !(qV x)||(!(dA x.id w.nextPage)||((dA 0 k&& !(dA y.id x.id))||dA (ib (Og x.site x.top) w.storage.buckets) 0))
 |_,_=>false
def BK (w:XWorld)(k:Nat):Bool:=match w.sites[k]?,w.servers[k]?,Kb[k]? with
 |some s,some v,some n=> !(qW s)||(!(s.name==n)|| !(wZ v))
 |_,_,_=>false
def pG (w:XWorld):Bool:=rg w.now 0 999999990000&&(rg w.device 1 1000000&&(Db w.storage.buckets&&(!(dA 6 w.pages.length)&&(rg w.nextPage 1 1000000000000&&(qU w.locks.locks&&(((w.sites.length:Int)==3)&&(((w.servers.length:Int)==3)&&(!(fA w.pages.length (BJ w))&& !(fA 3 (BK w))))))))))
theorem rq {w:XWorld}(h:w.Ok 1048576):ag Ph aE 374 [w.v]=some (au (pG w)):=by
 have hm:w.Ok maxLen:=XWorld.Ok.mono (by unfold maxLen;omega) h
 obtain⟨_,_,⟨hsl,hsb⟩,⟨hpl,hpp⟩,_,⟨hll,hlk⟩,_,⟨htl,hst⟩,hvl,hsv⟩:=hm
 have e1:=aZ w.now 0 999999990000
 have e2:=aZ w.device 1 1000000
 have e3:=wS h.2.2.1.1 h.2.2.1.2
 have e5:=aZ w.nextPage 1 1000000000000
 have e6:=tF hll hlk
 unfold pG
 obtain⟨b4,h4⟩:∃g,dA 6 w.pages.length=g:=⟨_,rfl⟩
 obtain⟨b7,h7⟩:∃g,((w.sites.length:Int)==3)=g:=⟨_,rfl⟩
 obtain⟨b8,h8⟩:∃g,((w.servers.length:Int)==3)=g:=⟨_,rfl⟩
 rw[h4,h7,h8]
 generalize rg w.now 0 999999990000=b1 at e1⊢
 generalize rg w.device 1 1000000=b2 at e2⊢
 generalize Db w.storage.buckets=b3 at e3⊢
 generalize rg w.nextPage 1 1000000000000=b5 at e5⊢
 generalize qU w.locks.locks=b6 at e6⊢
 refine ae (fn:=dG) rfl ?_
 cases b1
 ·simp(maxSteps:=9999999) [dG,e1]
 cases b2
 ·simp(maxSteps:=9999999) [dG,e1,e2]
 cases b3
 ·simp(maxSteps:=9999999) [dG,e1,e2,e3]
 cases b4
 rotate_left
 ·simp(maxSteps:=9999999) [dG,e1,e2,e3,h4]
 cases b5
 ·simp(maxSteps:=9999999) [dG,e1,e2,e3,h4,e5]
 cases b6
 ·simp(maxSteps:=9999999) [dG,e1,e2,e3,h4,e5,e6]
 cases b7
 ·simp(maxSteps:=9999999) [dG,e1,e2,e3,h4,e5,e6,h7]
 cases b8
 ·simp(maxSteps:=9999999) [dG,e1,e2,e3,h4,e5,e6,h7,h8]
 simp(maxSteps:=9999999) [dG,e1,e2,e3,h4,e5,e6,h7,h8]
 have h7:w.sites.length=3:=by have:=beq_iff_eq.1 h7;omega
 have h8:w.servers.length=3:=by have:=beq_iff_eq.1 h8;omega
 refine aC aT Cl.fin [.f,.t,.f,.f,.f,.f,.f,.f,.f,.f,.f,.f,.f,.f,.f,.f,.f,.f,.f,.f,.f,.f,.f,.f,.f,.f,.f,.f,.f,.f,.f,.f,.f,.f,.f,.f,.f,.f,.f,.f,.f,.f,.f,.f,.f,.f,.f,.f,.f,.f,.f,.f,.f,.f,.t,.t,.t,.f,.f,.f,.f,.f,.f,.f,.f,.f,.f,.f,.f,.f,.f,.f,.f,.f,.f,.f,.f,.f,.f,.f,.f,.f,.f,.f,.f,.f,.f,.f,.f,.f,.f,.f,.f,.f,.f,.f,.f,.f,.f,.f,.f,.f,.f,.f,.f,.f,.f,.f,.f,.f,.f,.f,.f,.f,.f,.f,.f,.f,.f,.f,.f,.f,.f,.f,.f,.f] (fun k=>[(56,aa .i64 k)]) w.pages.length (BJ w) rfl (by simp) (fun k hk _=> ?_) (fun _ hp=> ?_)
 ·obtain⟨q1,q2⟩:=tN hpl hk
  have e7:=C5 (hpp _ (List.getElem_mem hk))
  have e8:=vn hsl w.pages[k].site w.pages[k].top
  have hx:=XPage.e.eq_1 w.pages[k]
  have hy:=XPage.e.eq_1 w.pages[k-1]
  have hb:BJ w k=(!(qV w.pages[k])||(!(dA w.pages[k].id w.nextPage)||((dA 0 k&& !(dA w.pages[k-1].id w.pages[k].id))||dA (ib (Og w.pages[k].site w.pages[k].top) w.storage.buckets) 0))):=by simp[BJ,hk,q2]
  rw[hb]
  generalize qV w.pages[k]=b9 at e7⊢
  generalize ib (Og w.pages[k].site w.pages[k].top) w.storage.buckets=F at e8⊢
  cases b9
  ·simp +contextual (maxSteps:=9999999) [eu,hk,hx,e7,aF hpl hk,aY hk]
  cases c1:dA w.pages[k].id w.nextPage
  ·simp +contextual (maxSteps:=9999999) [eu,hk,hx,e7,c1,aF hpl hk,aY hk]
  cases c2:dA 0 k
  ·simp +contextual (maxSteps:=9999999) [eu,hk,hx,e7,e8,c1,c2,aF hpl hk,aY hk]
  have q3:=q1 c2
  simp +contextual (maxSteps:=9999999) [eu,hk,q2,q3,hx,hy,e7,e8,c1,c2,aF hpl hk,aY hk]
 ·simp(maxSteps:=9999999) [eu,hp]
  refine aC aT Cl.fin [.f,.t,.f,.f,.f,.f,.f,.f,.f,.f,.f,.f,.f,.f,.f,.f,.f,.f,.f,.f,.f,.f,.f,.f,.f,.f,.f,.f,.f,.f,.f,.f,.f,.f,.f,.f,.f,.f,.f,.f,.f,.f,.f,.f,.f,.f,.f,.f,.f,.f,.f,.f,.f,.f,.f,.f,.f,.f,.f,.f,.f,.f,.f,.f,.f,.f,.f,.f,.f,.f,.f,.f,.f,.f,.f,.f,.f,.f,.f,.f,.f,.f,.f,.f,.f,.f,.f,.f,.f,.f,.f,.f,.f,.f,.f,.f,.f,.f,.f,.t,.t,.t,.f,.f,.f,.f,.f,.f,.f,.f,.f,.f,.f,.f,.f,.f,.f,.f,.f,.f,.f,.f,.f,.f,.f,.f] (fun k=>[(101,aa .i64 k)]) 3 (BK w) rfl (by simp) (fun k hk _=> ?_) (fun _ hp=> ?_)
  ·have k1:k<w.sites.length:=by omega
   have k2:k<w.servers.length:=by omega
   have k3:k<Kb.length:=hk
   have l3:dA (k:Int) 3=true:=lY (by omega)
   have ws:=aF (n:=3) (by decide) hk
   have e7:=C6 (hst _ (List.getElem_mem k1))
   have e8:=yU (hsv _ (List.getElem_mem k2))
   have hx:=XSite.e.eq_1 w.sites[k]
   have hy:=XServer.e.eq_1 w.servers[k]
   have e9:=vt w.sites[k].name
   have e10:=M5 k3 w.sites[k].name
   have hb:BK w k=(!(qW w.sites[k])||(!(w.sites[k].name==Kb[k])|| !(wZ w.servers[k]))):=by simp[BK,k1,k2,k3]
   rw[hb]
   generalize qW w.sites[k]=b9 at e7⊢
   generalize wZ w.servers[k]=b10 at e8⊢
   rw[←e10]
   generalize zr w.sites[k].name=F at e9⊢
   obtain⟨b11,h9⟩:∃g,(F==(k:Int))=g:=⟨_,rfl⟩
   rw[h9]
   cases b9
   ·simp +contextual (maxSteps:=9999999) [f9,hk,k1,hx,e7,ws,l3,h7,h8]
   cases b11
   ·simp +contextual (maxSteps:=9999999) [f9,hk,k1,k3,hx,e7,e9,h9,nI,ws,l3,h7,h8]
   simp +contextual (maxSteps:=9999999) [f9,hk,k1,k2,k3,hx,hy,e7,e8,e9,h9,nI,ws,l3,h7,h8]
  ·simp(maxSteps:=9999999) [f9,hp,h7,h8,show dA 3 3=false from rfl]
theorem rB {w:XWorld}(h:w.Ok 1048576):ag Ph aE 373 [w.v]=some (au (pG w)):=by
 have hm:w.Ok maxLen:=XWorld.Ok.mono (by unfold maxLen;omega) h
 obtain⟨_,_,⟨hsl,hsb⟩,⟨hpl,hpp⟩,_,⟨hll,hlk⟩,_,⟨htl,hst⟩,hvl,hsv⟩:=hm
 have e1:=bq w.now 0 999999990000
 have e2:=bq w.device 1 1000000
 have e3:=xq h.2.2.1.1 h.2.2.1.2
 have e5:=bq w.nextPage 1 1000000000000
 have e6:=tR hll hlk
 unfold pG
 obtain⟨b4,h4⟩:∃g,dA 6 w.pages.length=g:=⟨_,rfl⟩
 obtain⟨b7,h7⟩:∃g,((w.sites.length:Int)==3)=g:=⟨_,rfl⟩
 obtain⟨b8,h8⟩:∃g,((w.servers.length:Int)==3)=g:=⟨_,rfl⟩
 rw[h4,h7,h8]
 generalize rg w.now 0 999999990000=b1 at e1⊢
 generalize rg w.device 1 1000000=b2 at e2⊢
 generalize Db w.storage.buckets=b3 at e3⊢
 generalize rg w.nextPage 1 1000000000000=b5 at e5⊢
 generalize qU w.locks.locks=b6 at e6⊢
 refine ae (fn:=hZ) rfl ?_
 cases b7
 ·simp(maxSteps:=9999999) [hZ,h7]
 cases b8
 ·simp(maxSteps:=9999999) [hZ,h7,h8]
 cases b4
 rotate_left
 ·simp(maxSteps:=9999999) [hZ,h4,h7,h8]
 simp(maxSteps:=9999999) [hZ,h4,h7,h8]
 have h7:w.sites.length=3:=by have:=beq_iff_eq.1 h7;omega
 have h8:w.servers.length=3:=by have:=beq_iff_eq.1 h8;omega
 refine aC aT Cl.fin [.f,.t,.f,.t,.f,.f,.f,.f,.f,.f,.f,.f,.f,.f,.f,.f,.f,.f,.f,.f,.f,.f,.f,.f,.f,.f,.f,.f,.f,.f,.f,.f,.f,.f,.f,.f,.f,.f,.f,.f,.f,.f,.f,.f,.f,.f,.f,.f,.f,.f,.f,.f,.f,.f,.f,.f,.f,.f,.f,.f,.f,.f,.f,.f,.f,.f,.f,.f,.f,.f,.f,.f,.f,.f,.f,.f,.f,.f,.f,.f,.f,.f,.f,.f,.f,.f,.f,.f,.f,.f,.f,.f,.f,.f,.f,.f,.f,.f,.f,.f,.f,.f,.f,.f,.f,.f,.f,.f,.f,.f,.f,.f,.f,.f,.f,.f,.f,.f,.f,.f,.f,.f,.f,.f,.f,.f] (fun k=>[(3,aa .i64 k)]) 3 (BK w) rfl (by simp) (fun k hk _=> ?_) (fun _ hp=> ?_)
 ·have k1:k<w.sites.length:=by omega
  have k2:k<w.servers.length:=by omega
  have k3:k<Kb.length:=hk
  have l3:dA (k:Int) 3=true:=lY (by omega)
  have ws:=aF (n:=3) (by decide) hk
  have e7:=DA (hst _ (List.getElem_mem k1))
  have e8:=zx (hsv _ (List.getElem_mem k2))
  have hx:=XSite.e.eq_1 w.sites[k]
  have hy:=XServer.e.eq_1 w.servers[k]
  have e9:=zA
  have hb:BK w k=(!(qW w.sites[k])||(!(w.sites[k].name==Kb[k])|| !(wZ w.servers[k]))):=by simp[BK,k1,k2,k3]
  rw[hb]
  generalize qW w.sites[k]=b9 at e7⊢
  generalize wZ w.servers[k]=b10 at e8⊢
  obtain⟨b11,h9⟩:∃g,(w.sites[k].name==Kb[k])=g:=⟨_,rfl⟩
  rw[h9]
  cases b9
  ·simp +contextual (maxSteps:=9999999) [fg,hk,k1,hx,e7,ws,l3,h7,h8]
  cases b11
  ·simp +contextual (maxSteps:=9999999) [fg,hk,k1,k3,hx,e7,e9,h9,nI,ws,l3,h7,h8]
  simp +contextual (maxSteps:=9999999) [fg,hk,k1,k2,k3,hx,hy,e7,e8,e9,h9,nI,ws,l3,h7,h8]
 ·simp(maxSteps:=9999999) [fg,hp,h7,h8,show dA 3 3=false from rfl]
  refine aC aT Cl.fin [.f,.t,.f,.f,.t,.f,.f,.f,.f,.f,.f,.f,.f,.f,.f,.f,.f,.f,.f,.f,.f,.f,.f,.f,.f,.f,.f,.f,.f,.f,.f,.f,.f,.f,.f,.f,.f,.f,.f,.f,.f,.f,.f,.f,.f,.f,.f,.f,.f,.f,.f,.f,.f,.f,.f,.f,.f,.f,.f,.f,.f,.f,.f,.f,.f,.f,.f,.f,.f,.f,.f,.f,.f,.f,.f,.f,.f,.f,.f,.f,.f,.f,.f,.f,.f,.f,.f,.f,.f,.f,.f,.f,.f,.f,.f,.f,.f,.f,.f,.f,.f,.f,.f,.f,.f,.f,.f,.f,.f,.f,.f,.f,.f,.f,.f,.f,.f,.f,.f,.f,.f,.f,.f,.f,.f,.f] (fun k=>[(4,aa .i64 k)]) w.pages.length (BJ w) rfl (by simp) (fun k hk _=> ?_) (fun _ hp=> ?_)
  ·obtain⟨q1,q2⟩:=tN hpl hk
   have e7:=Dz (hpp _ (List.getElem_mem hk))
   have e8:=vG hsl w.pages[k].site w.pages[k].top
   have hx:=XPage.e.eq_1 w.pages[k]
   have hy:=XPage.e.eq_1 w.pages[k-1]
   have hb:BJ w k=(!(qV w.pages[k])||(!(dA w.pages[k].id w.nextPage)||((dA 0 k&& !(dA w.pages[k-1].id w.pages[k].id))||dA (ib (Og w.pages[k].site w.pages[k].top) w.storage.buckets) 0))):=by simp[BJ,hk,q2]
   rw[hb]
   generalize qV w.pages[k]=b9 at e7⊢
   generalize ib (Og w.pages[k].site w.pages[k].top) w.storage.buckets=F at e8⊢
   cases b9
   ·simp +contextual (maxSteps:=9999999) [cR,hk,hx,e7,aF hpl hk,aY hk]
   cases c1:dA w.pages[k].id w.nextPage
   ·simp +contextual (maxSteps:=9999999) [cR,hk,hx,e7,c1,aF hpl hk,aY hk]
   cases c2:dA 0 k
   ·simp +contextual (maxSteps:=9999999) [cR,hk,hx,e7,e8,c1,c2,aF hpl hk,aY hk]
   have q3:=q1 c2
   simp +contextual (maxSteps:=9999999) [cR,hk,q2,q3,hx,hy,e7,e8,c1,c2,aF hpl hk,aY hk]
  ·cases b1
   ·simp(maxSteps:=9999999) [cR,hp,e1]
   cases b2
   ·simp(maxSteps:=9999999) [cR,hp,e1,e2]
   cases b3
   ·simp(maxSteps:=9999999) [cR,hp,e1,e2,e3]
   cases b5
   ·simp(maxSteps:=9999999) [cR,hp,e1,e2,e3,e5]
   simp(maxSteps:=9999999) [cR,hp,e1,e2,e3,e5,e6]
end Gi
namespace Gi
open Go Go.RowKit
set_option maxHeartbeats 8000000
set_option maxRecDepth 4000
attribute [local simp] bw ah aw aH bg bY Opd.ev put V.cells plain bo gr isInt isStr isBool bin bN oe od un asList L.view ap V.view viewL aU ar bz bP comp aK bu dz cr bD bB bC bx bc bU aO bH aS aX bJ bV bI bG bK V.flat L.flat dJ dk bt putAt thaw thawL thawT freezeVs freezeLs freezeL V.mut L.mut aJ aV dL ce dO bQ bF wp_seq wp_block n5 wp_cond wp_skip wp_exit wp_ret cK cI cS cL df dg de cq aW L.notArr aR aP aQ dY bp storeD a9 fT br cE bh nK L.mov L.closed V.closed PV.bare PV.flat
theorem sr {B:Nat}(hB:B≤1048576){x:XResponse}(h:x.Ok B):ag Ph aE 334 [.agg [.pv (.int .i64 x.type), .pv (.int .i64 x.status), .pv (.int .i64 x.version), .pv (.lst (am x.body)), .pv (.bool x.shares)]]=some (.agg [.pv (.int .i64 x.type), .pv (.int .i64 x.status), .pv (.int .i64 x.version), .down 1 (am x.body), .pv (.bool x.shares)]):=by
 obtain⟨h_type,h_status,h_version,h_body⟩:=h
 have c0:=lS (R:=am x.body) ⟨oR _,iP _,by rw[bv];omega⟩
 refine ae (fn:=jW) rfl ?_
 simp[jW,c0]
theorem Be {B:Nat}(hB:B≤1048576){x:XResponse}(h:x.Ok B):ag Ph aE 329 [.agg [.pv (.int .i64 x.type), .pv (.int .i64 x.status), .pv (.int .i64 x.version), .pv (.lst (am x.body)), .pv (.bool x.shares)]]=some (.agg [.pv (.int .i64 x.type), .pv (.int .i64 x.status), .pv (.int .i64 x.version), .down 1 (am x.body), .pv (.bool x.shares)]):=by
 obtain⟨h_type,h_status,h_version,h_body⟩:=h
 have F0:Flat 1 (am x.body):=⟨oR _,iP _,by rw[bv];omega⟩
 have hf0:=F0.flat
 have hw0:=F0.wid
 have m0:=eF (m:=(am x.body).length) (z:=1) (by have:=F0.len;omega) (by omega)
 rw[Nat.mul_one]at m0
 generalize (am x.body)=R0 at F0 hf0 hw0 m0⊢
 refine ae (fn:=oD) rfl ?_
 simp[oD,hf0,hw0,m0]
theorem vx {B:Nat}(hB:B≤1048576){x:XOutbox}(h:x.Ok B):ag Ph aE 501 [.agg [.pv (.int .i64 x.dev), .pv (.int .i64 x.next), .pv (.lst (x.writes.map XWrite.e))]]=some (.agg [.pv (.int .i64 x.dev), .pv (.int .i64 x.next), .down 7 (x.writes.map XWrite.e)]):=by
 obtain⟨h_dev,h_next,h_writes⟩:=h
 have F0:Flat 7 (x.writes.map XWrite.e):=⟨dH (e:=XWrite.e) (fun _=>rfl) _,dC (e:=XWrite.e) (z:=7) (fun _=>rfl) _,by rw[List.length_map];have:=h_writes.1;omega⟩
 have hf0:=F0.flat
 have hw0:=F0.wid
 have m0:=eF (m:=(x.writes.map XWrite.e).length) (z:=72) (by have:=F0.len;omega) (by omega)
 generalize (x.writes.map XWrite.e)=R0 at F0 hf0 hw0 m0⊢
 refine ae (fn:=lE) rfl ?_
 simp[lE,hf0,hw0,m0]
theorem Bi {B:Nat}(hB:B≤1048576){x:XOutbox}(h:x.Ok B):ag Ph aE 500 [.agg [.pv (.int .i64 x.dev), .pv (.int .i64 x.next), .pv (.lst (x.writes.map XWrite.e))]]=some (.agg [.pv (.int .i64 x.dev), .pv (.int .i64 x.next), .down 7 (x.writes.map XWrite.e)]):=by
 obtain⟨h_dev,h_next,h_writes⟩:=h
 have F0:Flat 7 (x.writes.map XWrite.e):=⟨dH (e:=XWrite.e) (fun _=>rfl) _,dC (e:=XWrite.e) (z:=7) (fun _=>rfl) _,by rw[List.length_map];have:=h_writes.1;omega⟩
 have hf0:=F0.flat
 have hw0:=F0.wid
 have m0:=eF (m:=(x.writes.map XWrite.e).length) (z:=72) (by have:=F0.len;omega) (by omega)
 generalize (x.writes.map XWrite.e)=R0 at F0 hf0 hw0 m0⊢
 refine ae (fn:=oH) rfl ?_
 simp[oH,hf0,hw0,m0]
theorem yZ {B:Nat}(hB:B≤1048576){x:XSync}(h:x.Ok B):ag Ph aE 499 [.agg [.pv (.int .i64 x.outbox.dev), .pv (.int .i64 x.outbox.next), .pv (.lst (x.outbox.writes.map XWrite.e)), .pv (.int .i64 x.tries), .pv (.int .i64 x.wait)]]=some (.agg [.pv (.int .i64 x.outbox.dev), .pv (.int .i64 x.outbox.next), .down 7 (x.outbox.writes.map XWrite.e), .pv (.int .i64 x.tries), .pv (.int .i64 x.wait)]):=by
 obtain⟨h_outbox,h_tries,h_wait⟩:=h
 have c0:=vx hB h_outbox
 refine ae (fn:=np) rfl ?_
 simp[np,c0]
theorem Bk {B:Nat}(hB:B≤1048576){x:XSync}(h:x.Ok B):ag Ph aE 497 [.agg [.pv (.int .i64 x.outbox.dev), .pv (.int .i64 x.outbox.next), .pv (.lst (x.outbox.writes.map XWrite.e)), .pv (.int .i64 x.tries), .pv (.int .i64 x.wait)]]=some (.agg [.pv (.int .i64 x.outbox.dev), .pv (.int .i64 x.outbox.next), .down 7 (x.outbox.writes.map XWrite.e), .pv (.int .i64 x.tries), .pv (.int .i64 x.wait)]):=by
 obtain⟨h_outbox,h_tries,h_wait⟩:=h
 have c0:=Bi hB h_outbox
 refine ae (fn:=oJ) rfl ?_
 simp[oJ,c0]
theorem wU {B:Nat}(hB:B≤1048576){x:XLockTable}(h:x.Ok B):ag Ph aE 458 [.agg [.pv (.lst (x.locks.map XLock.e))]]=some (.agg [.down 4 (x.locks.map XLock.e)]):=by
 have h_locks:=h
 have F0:Flat 4 (x.locks.map XLock.e):=⟨dH (e:=XLock.e) (fun _=>rfl) _,dC (e:=XLock.e) (z:=4) (fun _=>rfl) _,by rw[List.length_map];have:=h_locks.1;omega⟩
 have hf0:=F0.flat
 have hw0:=F0.wid
 have m0:=eF (m:=(x.locks.map XLock.e).length) (z:=32) (by have:=F0.len;omega) (by omega)
 generalize (x.locks.map XLock.e)=R0 at F0 hf0 hw0 m0⊢
 refine ae (fn:=mE) rfl ?_
 simp[mE,hf0,hw0,m0]
theorem Bm {B:Nat}(hB:B≤1048576){x:XLockTable}(h:x.Ok B):ag Ph aE 452 [.agg [.pv (.lst (x.locks.map XLock.e))]]=some (.agg [.down 4 (x.locks.map XLock.e)]):=by
 have h_locks:=h
 have F0:Flat 4 (x.locks.map XLock.e):=⟨dH (e:=XLock.e) (fun _=>rfl) _,dC (e:=XLock.e) (z:=4) (fun _=>rfl) _,by rw[List.length_map];have:=h_locks.1;omega⟩
 have hf0:=F0.flat
 have hw0:=F0.wid
 have m0:=eF (m:=(x.locks.map XLock.e).length) (z:=32) (by have:=F0.len;omega) (by omega)
 generalize (x.locks.map XLock.e)=R0 at F0 hf0 hw0 m0⊢
 refine ae (fn:=oL) rfl ?_
 simp[oL,hf0,hw0,m0]
theorem tJ {B:Nat}(hB:B≤1048576){x:XChannel}(h:x.Ok B):ag Ph aE 459 [.agg [.pv (.lst (x.mails.map XMail.e))]]=some (.agg [.down 3 (x.mails.map XMail.e)]):=by
 have h_mails:=h
 have F0:Flat 3 (x.mails.map XMail.e):=⟨dH (e:=XMail.e) (fun _=>rfl) _,dC (e:=XMail.e) (z:=3) (fun _=>rfl) _,by rw[List.length_map];have:=h_mails.1;omega⟩
 have hf0:=F0.flat
 have hw0:=F0.wid
 have m0:=eF (m:=(x.mails.map XMail.e).length) (z:=24) (by have:=F0.len;omega) (by omega)
 generalize (x.mails.map XMail.e)=R0 at F0 hf0 hw0 m0⊢
 refine ae (fn:=kL) rfl ?_
 simp[kL,hf0,hw0,m0]
theorem Bn {B:Nat}(hB:B≤1048576){x:XChannel}(h:x.Ok B):ag Ph aE 453 [.agg [.pv (.lst (x.mails.map XMail.e))]]=some (.agg [.down 3 (x.mails.map XMail.e)]):=by
 have h_mails:=h
 have F0:Flat 3 (x.mails.map XMail.e):=⟨dH (e:=XMail.e) (fun _=>rfl) _,dC (e:=XMail.e) (z:=3) (fun _=>rfl) _,by rw[List.length_map];have:=h_mails.1;omega⟩
 have hf0:=F0.flat
 have hw0:=F0.wid
 have m0:=eF (m:=(x.mails.map XMail.e).length) (z:=24) (by have:=F0.len;omega) (by omega)
 generalize (x.mails.map XMail.e)=R0 at F0 hf0 hw0 m0⊢
 refine ae (fn:=oM) rfl ?_
 simp[oM,hf0,hw0,m0]
theorem yY {B:Nat}(hB:B≤1048576){x:XSite}(h:x.Ok B):ag Ph aE 460 [.agg [.pv (.str x.name), .pv (.int .i64 x.version), .pv (.lst (x.files.map nI)), .pv (.bool x.shared)]]=some (.agg [.pv (.str x.name), .pv (.int .i64 x.version), .down 1 (x.files.map nI), .pv (.bool x.shared)]):=by
 obtain⟨h_name,h_version,h_files⟩:=h
 have F0:Flat 1 (x.files.map nI):=⟨dH (e:=nI) (fun _=>rfl) _,dC (e:=nI) (z:=1) (fun _=>rfl) _,by rw[List.length_map];have:=h_files.1;omega⟩
 have hf0:=F0.flat
 have hw0:=F0.wid
 have m0:=eF (m:=(x.files.map nI).length) (z:=16) (by have:=F0.len;omega) (by omega)
 generalize (x.files.map nI)=R0 at F0 hf0 hw0 m0⊢
 refine ae (fn:=nn) rfl ?_
 simp[nn,hf0,hw0,m0]
theorem Bf {B:Nat}(hB:B≤1048576){x:XSite}(h:x.Ok B):ag Ph aE 454 [.agg [.pv (.str x.name), .pv (.int .i64 x.version), .pv (.lst (x.files.map nI)), .pv (.bool x.shared)]]=some (.agg [.pv (.str x.name), .pv (.int .i64 x.version), .down 1 (x.files.map nI), .pv (.bool x.shared)]):=by
 obtain⟨h_name,h_version,h_files⟩:=h
 have F0:Flat 1 (x.files.map nI):=⟨dH (e:=nI) (fun _=>rfl) _,dC (e:=nI) (z:=1) (fun _=>rfl) _,by rw[List.length_map];have:=h_files.1;omega⟩
 have hf0:=F0.flat
 have hw0:=F0.wid
 have m0:=eF (m:=(x.files.map nI).length) (z:=16) (by have:=F0.len;omega) (by omega)
 generalize (x.files.map nI)=R0 at F0 hf0 hw0 m0⊢
 refine ae (fn:=oE) rfl ?_
 simp[oE,hf0,hw0,m0]
theorem vz {B:Nat}(hB:B≤1048576){x:XServer}(h:x.Ok B):ag Ph aE 461 [.agg [.pv (.str x.store.name), .pv (.lst (x.store.items.map XItem.e)), .pv (.int .i64 x.store.auto), .pv (.lst (x.applied.map XApplied.e)), .pv (.lst (x.changes.map XWrite.e))]]=some (.agg [.pv (.str x.store.name),nd 4 (x.store.items.map XItem.e), .pv (.int .i64 x.store.auto), .down 2 (x.applied.map XApplied.e), .down 7 (x.changes.map XWrite.e)]):=by
 obtain⟨h_store,h_applied,h_changes⟩:=h
 have c0:=lU hB h_store
 have F0:Flat 2 (x.applied.map XApplied.e):=⟨dH (e:=XApplied.e) (fun _=>rfl) _,dC (e:=XApplied.e) (z:=2) (fun _=>rfl) _,by rw[List.length_map];have:=h_applied.1;omega⟩
 have hf0:=F0.flat
 have hw0:=F0.wid
 have m0:=eF (m:=(x.applied.map XApplied.e).length) (z:=16) (by have:=F0.len;omega) (by omega)
 generalize (x.applied.map XApplied.e)=R0 at F0 hf0 hw0 m0⊢
 have F1:Flat 7 (x.changes.map XWrite.e):=⟨dH (e:=XWrite.e) (fun _=>rfl) _,dC (e:=XWrite.e) (z:=7) (fun _=>rfl) _,by rw[List.length_map];have:=h_changes.1;omega⟩
 have hf1:=F1.flat
 have hw1:=F1.wid
 have m1:=eF (m:=(x.changes.map XWrite.e).length) (z:=72) (by have:=F1.len;omega) (by omega)
 generalize (x.changes.map XWrite.e)=R1 at F1 hf1 hw1 m1⊢
 have N0:=eG 4 (x.store.items.map XItem.e)
 generalize nd 4 (x.store.items.map XItem.e)=n0 at N0 c0⊢
 rcases N0 with⟨-,rfl⟩|⟨-,rfl⟩<;>(refine ae (fn:=lG) rfl ?_;simp[lG,c0,hf0,hw0,m0,hf1,hw1,m1])
theorem Bj {B:Nat}(hB:B≤1048576){x:XServer}(h:x.Ok B):ag Ph aE 455 [.agg [.pv (.str x.store.name), .pv (.lst (x.store.items.map XItem.e)), .pv (.int .i64 x.store.auto), .pv (.lst (x.applied.map XApplied.e)), .pv (.lst (x.changes.map XWrite.e))]]=some (.agg [.pv (.str x.store.name),nd 4 (x.store.items.map XItem.e), .pv (.int .i64 x.store.auto), .down 2 (x.applied.map XApplied.e), .down 7 (x.changes.map XWrite.e)]):=by
 obtain⟨h_store,h_applied,h_changes⟩:=h
 have c0:=pa hB h_store
 have F0:Flat 2 (x.applied.map XApplied.e):=⟨dH (e:=XApplied.e) (fun _=>rfl) _,dC (e:=XApplied.e) (z:=2) (fun _=>rfl) _,by rw[List.length_map];have:=h_applied.1;omega⟩
 have hf0:=F0.flat
 have hw0:=F0.wid
 have m0:=eF (m:=(x.applied.map XApplied.e).length) (z:=16) (by have:=F0.len;omega) (by omega)
 generalize (x.applied.map XApplied.e)=R0 at F0 hf0 hw0 m0⊢
 have F1:Flat 7 (x.changes.map XWrite.e):=⟨dH (e:=XWrite.e) (fun _=>rfl) _,dC (e:=XWrite.e) (z:=7) (fun _=>rfl) _,by rw[List.length_map];have:=h_changes.1;omega⟩
 have hf1:=F1.flat
 have hw1:=F1.wid
 have m1:=eF (m:=(x.changes.map XWrite.e).length) (z:=72) (by have:=F1.len;omega) (by omega)
 generalize (x.changes.map XWrite.e)=R1 at F1 hf1 hw1 m1⊢
 have N0:=eG 4 (x.store.items.map XItem.e)
 generalize nd 4 (x.store.items.map XItem.e)=n0 at N0 c0⊢
 rcases N0 with⟨-,rfl⟩|⟨-,rfl⟩<;>(refine ae (fn:=oI) rfl ?_;simp[oI,c0,hf0,hw0,m0,hf1,hw1,m1])
theorem tL {B:Nat}(hB:B≤1048576){x:XReplica}(h:x.Ok B):ag Ph aE 492 [.agg [.pv (.str x.base.name), .pv (.lst (x.base.items.map XItem.e)), .pv (.int .i64 x.base.auto), .pv (.int .i64 x.seen), .pv (.int .i64 x.sync.outbox.dev), .pv (.int .i64 x.sync.outbox.next), .pv (.lst (x.sync.outbox.writes.map XWrite.e)), .pv (.int .i64 x.sync.tries), .pv (.int .i64 x.sync.wait)]]=some (.agg [.pv (.str x.base.name),nd 4 (x.base.items.map XItem.e), .pv (.int .i64 x.base.auto), .pv (.int .i64 x.seen), .pv (.int .i64 x.sync.outbox.dev), .pv (.int .i64 x.sync.outbox.next), .down 7 (x.sync.outbox.writes.map XWrite.e), .pv (.int .i64 x.sync.tries), .pv (.int .i64 x.sync.wait)]):=by
 obtain⟨h_base,h_seen,h_sync⟩:=h
 have c0:=lU hB h_base
 have c1:=yZ hB h_sync
 have N0:=eG 4 (x.base.items.map XItem.e)
 generalize nd 4 (x.base.items.map XItem.e)=n0 at N0 c0 c1⊢
 rcases N0 with⟨-,rfl⟩|⟨-,rfl⟩<;>(refine ae (fn:=kN) rfl ?_;simp[kN,c0,c1])
theorem Bl {B:Nat}(hB:B≤1048576){x:XReplica}(h:x.Ok B):ag Ph aE 488 [.agg [.pv (.str x.base.name), .pv (.lst (x.base.items.map XItem.e)), .pv (.int .i64 x.base.auto), .pv (.int .i64 x.seen), .pv (.int .i64 x.sync.outbox.dev), .pv (.int .i64 x.sync.outbox.next), .pv (.lst (x.sync.outbox.writes.map XWrite.e)), .pv (.int .i64 x.sync.tries), .pv (.int .i64 x.sync.wait)]]=some (.agg [.pv (.str x.base.name),nd 4 (x.base.items.map XItem.e), .pv (.int .i64 x.base.auto), .pv (.int .i64 x.seen), .pv (.int .i64 x.sync.outbox.dev), .pv (.int .i64 x.sync.outbox.next), .down 7 (x.sync.outbox.writes.map XWrite.e), .pv (.int .i64 x.sync.tries), .pv (.int .i64 x.sync.wait)]):=by
 obtain⟨h_base,h_seen,h_sync⟩:=h
 have c0:=pa hB h_base
 have c1:=Bk hB h_sync
 have N0:=eG 4 (x.base.items.map XItem.e)
 generalize nd 4 (x.base.items.map XItem.e)=n0 at N0 c0 c1⊢
 rcases N0 with⟨-,rfl⟩|⟨-,rfl⟩<;>(refine ae (fn:=oK) rfl ?_;simp[oK,c0,c1])
end Gi
