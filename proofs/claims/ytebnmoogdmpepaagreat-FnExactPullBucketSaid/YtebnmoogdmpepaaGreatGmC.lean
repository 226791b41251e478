/- Of this proof. -/
import Derived.Test.YtebnmoogdmpepaaGreatGpI
set_option linter.unusedSimpArgs false
set_option linter.unusedVariables false
namespace Gi
open Go Go.RowKit
set_option maxHeartbeats 8000000
set_option maxRecDepth 4000
attribute [local simp] start oH bJ cI cS ed cR dZ eu ep pz pI pA pJ pB pK pC pL pD pM pE pO pF pP pG pQ pH pR V.cells plain bA fR isInt isStr isBool bin bY gj bZ gl ee un asList L.view aj V.view viewL aW am ce bD bS comp aQ bI cH bP bq bo bp aC aq aY al aB aI au bi bF aE br bt V.flat L.flat db da bB putAt thaw thawL thawT V.ow ej cV cW ca eh cd cU freezeVs freezeLs freezeL V.mut L.mut aH dE fK aZ bC aN dv bR bj bV L.ren aP dg bW dq bU bH wp_seq wp_block bg cZ cf bE cj wp_skip wp_exit wp_ret ct cr cz cu cC cD cB bO aF L.notArr aU aS aT cY bz storeD bc eP bu co ba k8 L.mov L.closed V.closed PV.bare PV.flat
theorem QP {k:Nat}(hk:k<As.length)(s:List UInt8):(jY s==(k:Int))=(s==As[k]):=by
 have hk':k<3:=hk
 by_cases h1:s=[98,97,110,107]
 ·subst h1
  obtain rfl|rfl|rfl:k=0∨k=1∨k=2:=by omega
  all_goals rfl
 by_cases h2:s=[110,101,119,115]
 ·subst h2
  obtain rfl|rfl|rfl:k=0∨k=1∨k=2:=by omega
  all_goals rfl
 by_cases h3:s=[115,104,111,112]
 ·subst h3
  obtain rfl|rfl|rfl:k=0∨k=1∨k=2:=by omega
  all_goals rfl
 have e:jY s= -1:=by simp[jY,dR,As,List.findIdx?_cons,h1,h2,h3]
 have q:((-1:Int)==(k:Int))=false:=by rw[beq_eq_false_iff_ne];omega
 rw[e,q]
 symm
 rw[beq_eq_false_iff_ne]
 obtain rfl|rfl|rfl:k=0∨k=1∨k=2:=by omega
 ·exact h1
 ·exact h2
 ·exact h3
def D4 (w:XWorld)(k:Nat):Bool:=match w.pages[k]?,w.pages[k-1]? with
 |some x,some y=> !(ue x)||(!(cT x.id w.nextPage)||((cT 0 k&& !(cT y.id x.id))||cT (dR (BB x.site x.top) w.storage.buckets) 0))
 |_,_=>false
def D5 (w:XWorld)(k:Nat):Bool:=match w.sites[k]?,w.servers[k]?,As[k]? with
 |some s,some v,some n=> !(uf s)||(!(s.name==n)|| !(r7 v))
 |_,_,_=>false
def r8 (w:XWorld):Bool:=rg w.now 0 999999990000&&(rg w.device 1 1000000&&(oK w.storage.buckets&&(!(cT 6 w.pages.length)&&(rg w.nextPage 1 1000000000000&&(ud w.locks.locks&&(((w.sites.length:Int)==3)&&(((w.servers.length:Int)==3)&&(!(gD w.pages.length (D4 w))&& !(gD 3 (D5 w))))))))))
theorem uy {w:XWorld}(h:w.Ok 1048576):ag Ph aM 374 [w.v]=some (aA (r8 w)):=by
 have hm:w.Ok maxLen:=XWorld.Ok.mono (by unfold maxLen;omega) h
 obtain⟨_,_,⟨hsl,hsb⟩,⟨hpl,hpp⟩,_,⟨hll,hlk⟩,_,⟨htl,hst⟩,hvl,hsv⟩:=hm
 have e1:=bL w.now 0 999999990000
 have e2:=bL w.device 1 1000000
 have e3:=zF h.2.2.1.1 h.2.2.1.2
 have e5:=bL w.nextPage 1 1000000000000
 have e6:=wG hll hlk
 unfold r8
 obtain⟨b4,h4⟩:∃g,cT 6 w.pages.length=g:=⟨_,rfl⟩
 obtain⟨b7,h7⟩:∃g,((w.sites.length:Int)==3)=g:=⟨_,rfl⟩
 obtain⟨b8,h8⟩:∃g,((w.servers.length:Int)==3)=g:=⟨_,rfl⟩
 rw[h4,h7,h8]
 generalize rg w.now 0 999999990000=b1 at e1⊢
 generalize rg w.device 1 1000000=b2 at e2⊢
 generalize oK w.storage.buckets=b3 at e3⊢
 generalize rg w.nextPage 1 1000000000000=b5 at e5⊢
 generalize ud w.locks.locks=b6 at e6⊢
 refine ae (fn:=eJ) rfl ?_
 cases b1
 ·simp(maxSteps:=9999999) [eJ,e1]
 cases b2
 ·simp(maxSteps:=9999999) [eJ,e1,e2]
 cases b3
 ·simp(maxSteps:=9999999) [eJ,e1,e2,e3]
 cases b4
 rotate_left
 ·simp(maxSteps:=9999999) [eJ,e1,e2,e3,h4]
 cases b5
 ·simp(maxSteps:=9999999) [eJ,e1,e2,e3,h4,e5]
 cases b6
 ·simp(maxSteps:=9999999) [eJ,e1,e2,e3,h4,e5,e6]
 cases b7
 ·simp(maxSteps:=9999999) [eJ,e1,e2,e3,h4,e5,e6,h7]
 cases b8
 ·simp(maxSteps:=9999999) [eJ,e1,e2,e3,h4,e5,e6,h7,h8]
 simp(maxSteps:=9999999) [eJ,e1,e2,e3,h4,e5,e6,h7,h8]
 have h7:w.sites.length=3:=by have:=beq_iff_eq.1 h7;omega
 have h8:w.servers.length=3:=by have:=beq_iff_eq.1 h8;omega
 refine aG bm Cl.fin [.f,.t,.f,.f,.f,.f,.f,.f,.f,.f,.f,.f,.f,.f,.f,.f,.f,.f,.f,.f,.f,.f,.f,.f,.f,.f,.f,.f,.f,.f,.f,.f,.f,.f,.f,.f,.f,.f,.f,.f,.f,.f,.f,.f,.f,.f,.f,.f,.f,.f,.f,.f,.f,.f,.t,.t,.t,.f,.f,.f,.f,.f,.f,.f,.f,.f,.f,.f,.f,.f,.f,.f,.f,.f,.f,.f,.f,.f,.f,.f,.f,.f,.f,.f,.f,.f,.f,.f,.f,.f,.f,.f,.f,.f,.f,.f,.f,.f,.f,.f,.f,.f,.f,.f,.f,.f,.f,.f,.f,.f,.f,.f,.f,.f,.f,.f,.f,.f,.f,.f,.f,.f,.f,.f,.f,.f] (fun k=>[(56,aa .i64 k)]) w.pages.length (D4 w) rfl (by simp) (fun k hk _=> ?_) (fun _ hp=> ?_)
 ·obtain⟨q1,q2⟩:=wQ hpl hk
  have e7:=FA (hpp _ (Zf hk))
  have e8:=mC hsl w.pages[k].site w.pages[k].top
  have hx:=XPage.e.eq_1 w.pages[k]
  have hy:=XPage.e.eq_1 w.pages[k-1]
  have hb:D4 w k=(!(ue w.pages[k])||(!(cT w.pages[k].id w.nextPage)||((cT 0 k&& !(cT w.pages[k-1].id w.pages[k].id))||cT (dR (BB w.pages[k].site w.pages[k].top) w.storage.buckets) 0))):=by simp[D4,hk,q2]
  rw[hb]
  generalize ue w.pages[k]=b9 at e7⊢
  generalize dR (BB w.pages[k].site w.pages[k].top) w.storage.buckets=F at e8⊢
  cases b9
  ·simp +contextual (maxSteps:=9999999) [eY,hk,hx,e7,aR hpl hk,bd hk]
  cases c1:cT w.pages[k].id w.nextPage
  ·simp +contextual (maxSteps:=9999999) [eY,hk,hx,e7,c1,aR hpl hk,bd hk]
  cases c2:cT 0 k
  ·simp +contextual (maxSteps:=9999999) [eY,hk,hx,e7,e8,c1,c2,aR hpl hk,bd hk]
  have q3:=q1 c2
  simp +contextual (maxSteps:=9999999) [eY,hk,q2,q3,hx,hy,e7,e8,c1,c2,aR hpl hk,bd hk]
 ·simp(maxSteps:=9999999) [eY,hp]
  refine aG bm Cl.fin [.f,.t,.f,.f,.f,.f,.f,.f,.f,.f,.f,.f,.f,.f,.f,.f,.f,.f,.f,.f,.f,.f,.f,.f,.f,.f,.f,.f,.f,.f,.f,.f,.f,.f,.f,.f,.f,.f,.f,.f,.f,.f,.f,.f,.f,.f,.f,.f,.f,.f,.f,.f,.f,.f,.f,.f,.f,.f,.f,.f,.f,.f,.f,.f,.f,.f,.f,.f,.f,.f,.f,.f,.f,.f,.f,.f,.f,.f,.f,.f,.f,.f,.f,.f,.f,.f,.f,.f,.f,.f,.f,.f,.f,.f,.f,.f,.f,.f,.f,.t,.t,.t,.f,.f,.f,.f,.f,.f,.f,.f,.f,.f,.f,.f,.f,.f,.f,.f,.f,.f,.f,.f,.f,.f,.f,.f] (fun k=>[(101,aa .i64 k)]) 3 (D5 w) rfl (by simp) (fun k hk _=> ?_) (fun _ hp=> ?_)
  ·have k1:k<w.sites.length:=by omega
   have k2:k<w.servers.length:=by omega
   have k3:k<As.length:=hk
   have l3:cT (k:Int) 3=true:=jH (by omega)
   have ws:=aR (n:=3) (by decide) hk
   have e7:=FB (hst _ (Zf k1))
   have e8:=tf (hsv _ (Zf k2))
   have hx:=XSite.e.eq_1 w.sites[k]
   have hy:=XServer.e.eq_1 w.servers[k]
   have e9:=mD w.sites[k].name
   have e10:=QP k3 w.sites[k].name
   have hb:D5 w k=(!(uf w.sites[k])||(!(w.sites[k].name==As[k])|| !(r7 w.servers[k]))):=by simp[D5,k1,k2,k3]
   rw[hb]
   generalize uf w.sites[k]=b9 at e7⊢
   generalize r7 w.servers[k]=b10 at e8⊢
   rw[←e10]
   generalize jY w.sites[k].name=F at e9⊢
   obtain⟨b11,h9⟩:∃g,(F==(k:Int))=g:=⟨_,rfl⟩
   rw[h9]
   cases b9
   ·simp +contextual (maxSteps:=9999999) [gS,hk,k1,hx,e7,ws,l3,h7,h8]
   cases b11
   ·simp +contextual (maxSteps:=9999999) [gS,hk,k1,k3,hx,e7,e9,h9,vC,ws,l3,h7,h8]
   simp +contextual (maxSteps:=9999999) [gS,hk,k1,k2,k3,hx,hy,e7,e8,e9,h9,vC,ws,l3,h7,h8]
  ·simp(maxSteps:=9999999) [gS,hp,h7,h8,show cT 3 3=false from rfl]
theorem uC {w:XWorld}(h:w.Ok 1048576):ag Ph aM 373 [w.v]=some (aA (r8 w)):=by
 have hm:w.Ok maxLen:=XWorld.Ok.mono (by unfold maxLen;omega) h
 obtain⟨_,_,⟨hsl,hsb⟩,⟨hpl,hpp⟩,_,⟨hll,hlk⟩,_,⟨htl,hst⟩,hvl,hsv⟩:=hm
 have e1:=cq w.now 0 999999990000
 have e2:=cq w.device 1 1000000
 have e3:=nG h.2.2.1.1 h.2.2.1.2
 have e5:=cq w.nextPage 1 1000000000000
 have e6:=wU hll hlk
 unfold r8
 obtain⟨b4,h4⟩:∃g,cT 6 w.pages.length=g:=⟨_,rfl⟩
 obtain⟨b7,h7⟩:∃g,((w.sites.length:Int)==3)=g:=⟨_,rfl⟩
 obtain⟨b8,h8⟩:∃g,((w.servers.length:Int)==3)=g:=⟨_,rfl⟩
 rw[h4,h7,h8]
 generalize rg w.now 0 999999990000=b1 at e1⊢
 generalize rg w.device 1 1000000=b2 at e2⊢
 generalize oK w.storage.buckets=b3 at e3⊢
 generalize rg w.nextPage 1 1000000000000=b5 at e5⊢
 generalize ud w.locks.locks=b6 at e6⊢
 refine ae (fn:=ja) rfl ?_
 cases b7
 ·simp(maxSteps:=9999999) [ja,h7]
 cases b8
 ·simp(maxSteps:=9999999) [ja,h7,h8]
 cases b4
 rotate_left
 ·simp(maxSteps:=9999999) [ja,h4,h7,h8]
 simp(maxSteps:=9999999) [ja,h4,h7,h8]
 have h7:w.sites.length=3:=by have:=beq_iff_eq.1 h7;omega
 have h8:w.servers.length=3:=by have:=beq_iff_eq.1 h8;omega
 refine aG bm Cl.fin [.f,.t,.f,.t,.f,.f,.f,.f,.f,.f,.f,.f,.f,.f,.f,.f,.f,.f,.f,.f,.f,.f,.f,.f,.f,.f,.f,.f,.f,.f,.f,.f,.f,.f,.f,.f,.f,.f,.f,.f,.f,.f,.f,.f,.f,.f,.f,.f,.f,.f,.f,.f,.f,.f,.f,.f,.f,.f,.f,.f,.f,.f,.f,.f,.f,.f,.f,.f,.f,.f,.f,.f,.f,.f,.f,.f,.f,.f,.f,.f,.f,.f,.f,.f,.f,.f,.f,.f,.f,.f,.f,.f,.f,.f,.f,.f,.f,.f,.f,.f,.f,.f,.f,.f,.f,.f,.f,.f,.f,.f,.f,.f,.f,.f,.f,.f,.f,.f,.f,.f,.f,.f,.f,.f,.f,.f] (fun k=>[(3,aa .i64 k)]) 3 (D5 w) rfl (by simp) (fun k hk _=> ?_) (fun _ hp=> ?_)
 ·have k1:k<w.sites.length:=by omega
  have k2:k<w.servers.length:=by omega
  have k3:k<As.length:=hk
  have l3:cT (k:Int) 3=true:=jH (by omega)
  have ws:=aR (n:=3) (by decide) hk
  have e7:=Gb (hst _ (Zf k1))
  have e8:=tA (hsv _ (Zf k2))
  have hx:=XSite.e.eq_1 w.sites[k]
  have hy:=XServer.e.eq_1 w.servers[k]
  have e9:=tB
  have hb:D5 w k=(!(uf w.sites[k])||(!(w.sites[k].name==As[k])|| !(r7 w.servers[k]))):=by simp[D5,k1,k2,k3]
  rw[hb]
  generalize uf w.sites[k]=b9 at e7⊢
  generalize r7 w.servers[k]=b10 at e8⊢
  obtain⟨b11,h9⟩:∃g,(w.sites[k].name==As[k])=g:=⟨_,rfl⟩
  rw[h9]
  cases b9
  ·simp +contextual (maxSteps:=9999999) [fQ,hk,k1,hx,e7,ws,l3,h7,h8]
  cases b11
  ·simp +contextual (maxSteps:=9999999) [fQ,hk,k1,k3,hx,e7,e9,h9,vC,ws,l3,h7,h8]
  simp +contextual (maxSteps:=9999999) [fQ,hk,k1,k2,k3,hx,hy,e7,e8,e9,h9,vC,ws,l3,h7,h8]
 ·simp(maxSteps:=9999999) [fQ,hp,h7,h8,show cT 3 3=false from rfl]
  refine aG bm Cl.fin [.f,.t,.f,.f,.t,.f,.f,.f,.f,.f,.f,.f,.f,.f,.f,.f,.f,.f,.f,.f,.f,.f,.f,.f,.f,.f,.f,.f,.f,.f,.f,.f,.f,.f,.f,.f,.f,.f,.f,.f,.f,.f,.f,.f,.f,.f,.f,.f,.f,.f,.f,.f,.f,.f,.f,.f,.f,.f,.f,.f,.f,.f,.f,.f,.f,.f,.f,.f,.f,.f,.f,.f,.f,.f,.f,.f,.f,.f,.f,.f,.f,.f,.f,.f,.f,.f,.f,.f,.f,.f,.f,.f,.f,.f,.f,.f,.f,.f,.f,.f,.f,.f,.f,.f,.f,.f,.f,.f,.f,.f,.f,.f,.f,.f,.f,.f,.f,.f,.f,.f,.f,.f,.f,.f,.f,.f] (fun k=>[(4,aa .i64 k)]) w.pages.length (D4 w) rfl (by simp) (fun k hk _=> ?_) (fun _ hp=> ?_)
  ·obtain⟨q1,q2⟩:=wQ hpl hk
   have e7:=Ga (hpp _ (Zf hk))
   have e8:=jC hsl w.pages[k].site w.pages[k].top
   have hx:=XPage.e.eq_1 w.pages[k]
   have hy:=XPage.e.eq_1 w.pages[k-1]
   have hb:D4 w k=(!(ue w.pages[k])||(!(cT w.pages[k].id w.nextPage)||((cT 0 k&& !(cT w.pages[k-1].id w.pages[k].id))||cT (dR (BB w.pages[k].site w.pages[k].top) w.storage.buckets) 0))):=by simp[D4,hk,q2]
   rw[hb]
   generalize ue w.pages[k]=b9 at e7⊢
   generalize dR (BB w.pages[k].site w.pages[k].top) w.storage.buckets=F at e8⊢
   cases b9
   ·simp +contextual (maxSteps:=9999999) [dL,hk,hx,e7,aR hpl hk,bd hk]
   cases c1:cT w.pages[k].id w.nextPage
   ·simp +contextual (maxSteps:=9999999) [dL,hk,hx,e7,c1,aR hpl hk,bd hk]
   cases c2:cT 0 k
   ·simp +contextual (maxSteps:=9999999) [dL,hk,hx,e7,e8,c1,c2,aR hpl hk,bd hk]
   have q3:=q1 c2
   simp +contextual (maxSteps:=9999999) [dL,hk,q2,q3,hx,hy,e7,e8,c1,c2,aR hpl hk,bd hk]
  ·cases b1
   ·simp(maxSteps:=9999999) [dL,hp,e1]
   cases b2
   ·simp(maxSteps:=9999999) [dL,hp,e1,e2]
   cases b3
   ·simp(maxSteps:=9999999) [dL,hp,e1,e2,e3]
   cases b5
   ·simp(maxSteps:=9999999) [dL,hp,e1,e2,e3,e5]
   simp(maxSteps:=9999999) [dL,hp,e1,e2,e3,e5,e6]
end Gi
namespace Gi
open Go Go.RowKit
set_option maxHeartbeats 8000000
set_option maxRecDepth 4000
attribute [local simp] start ah aJ bf bJ cI Opd.ev put V.cells plain bA fR isInt isStr isBool bin cK qh qg un asList L.view aj V.view viewL aW am cF bS comp aQ bI cH bP bq bo bp aC aq aY al aB aI au bi bF aE br bt V.flat L.flat db da bB putAt thaw thawL thawT freezeVs freezeLs freezeL V.mut L.mut aH aP dg bW dq bU bH wp_seq wp_block qb wp_cond wp_skip wp_exit wp_ret ct cr cz cu cC cD cB bO aF L.notArr aU aS aT eV bz storeD bc eP bu co ba k8 L.mov L.closed V.closed PV.bare PV.flat
def fU (b0 b1:AObj)(rows:List (List PV)):Nat→List AObj
 |0=>[b0,b1, .box [.nil]]
 |k+1=>[b0,b1, .box [.arr 3], .darr 24 (rows.take (k+1))]
theorem wM {B:Nat}(hB:B≤1048576){x:XStorage}(h:x.Ok B):ag Ph aM 456 [.agg [.pv (.lst (x.buckets.map XBucket.e))]]=some (.agg [nd 24 (x.buckets.map XBucket.e)]):=by
 have h_buckets:=h
 have e1:∀k(hk:k<x.buckets.length),_:=fun k hk=>mE hB (h_buckets.2 _ (Zf hk))
 have hl:x.buckets.length≤1048576:=Zc h_buckets.1 hB
 refine ae (fn:=mo) rfl ?_
 simp[mo]
 refine dD bm Cl.fin x.buckets.length [.f,.f,.t,.t,.f,.f,.f,.f,.t,.t,.t,.f,.f,.f,.f,.f,.f,.f,.f,.f,.f,.f,.f] (fun k=>[(10,aa .i64 k)]) (fU (.box [.pv (.lst (x.buckets.map XBucket.e))]) (.box [.nil]) (x.buckets.map XBucket.e)) rfl ?_ ?_ ?_
 ·exact Kn.q [0,1,2] (by simp[fU,aU,aS,aT,eV,bz,aZ,bC,aN,dv,bR,bj,bV,L.ren,aI])
 ·intro k hk
  have ek:=e1 k hk
  have hx:=XBucket.e.eq_1 x.buckets[k]
  have ht:=de (e:=XBucket.e) hk
  rw[hx]at ht
  have N0:=dM 2 (x.buckets[k].caches.caches.map XCache.e)
  generalize nd 2 (x.buckets[k].caches.caches.map XCache.e)=n0 at N0 ek
  have N1:=dM 3 (x.buckets[k].disk.base.stores.map XStore.e)
  generalize nd 3 (x.buckets[k].disk.base.stores.map XStore.e)=n1 at N1 ek
  have N2:=dM 4 (x.buckets[k].replica.base.items.map XItem.e)
  generalize nd 4 (x.buckets[k].replica.base.items.map XItem.e)=n2 at N2 ek
  cases k with
  |zero=>
   simp only[fU,ht]
   rcases N0 with⟨q0,rfl⟩|⟨q0,rfl⟩<;>rcases N1 with⟨q1,rfl⟩|⟨q1,rfl⟩<;>rcases N2 with⟨q2,rfl⟩|⟨q2,rfl⟩
   ·simp only[q0,q1,q2]at ek
    simp[aV,hk,hx,ek,df,q0,q1,q2]
    exact Kn.q [0,1,2,8]
   ·simp only[q0,q1]at ek
    simp[aV,hk,hx,ek,df,q0,q1]
    exact Kn.q [0,1,2,9]
   ·simp only[q0,q2]at ek
    simp[aV,hk,hx,ek,df,q0,q2]
    exact Kn.q [0,1,2,9]
   ·simp only[q0]at ek
    simp[aV,hk,hx,ek,df,q0]
    exact Kn.q [0,1,2,10]
   ·simp only[q1,q2]at ek
    simp[aV,hk,hx,ek,df,q1,q2]
    exact Kn.q [0,1,2,9]
   ·simp only[q1]at ek
    simp[aV,hk,hx,ek,df,q1]
    exact Kn.q [0,1,2,10]
   ·simp only[q2]at ek
    simp[aV,hk,hx,ek,df,q2]
    exact Kn.q [0,1,2,10]
   ·simp[aV,hk,hx,ek,df]
    exact Kn.q [0,1,2,11]
  |succ k=>
   obtain⟨i1,i2,i3,i4,i5,i6⟩:=oJ (n:=x.buckets.length) (by unfold maxLen;omega) hk
   have b1:min (k+1) x.buckets.length=k+1:=by omega
   have m1:=eR (m:=k+1+1) (z:=328) (by omega) (by omega)
   simp only[fU,ht]
   generalize hT:List.take (k+1) _=T
   have hTl:T.length=k+1:=by rw[←hT];simp;omega
   rcases N0 with⟨q0,rfl⟩|⟨q0,rfl⟩<;>rcases N1 with⟨q1,rfl⟩|⟨q1,rfl⟩<;>rcases N2 with⟨q2,rfl⟩|⟨q2,rfl⟩
   ·simp only[q0,q1,q2]at ek
    simp[aV,hk,hx,ek,i1,i2,i3,i4,i5,i6,hTl,m1,q0,q1,q2]
    exact Kn.q [0,1,2,9]
   ·simp only[q0,q1]at ek
    simp[aV,hk,hx,ek,i1,i2,i3,i4,i5,i6,hTl,m1,q0,q1]
    exact Kn.q [0,1,2,10]
   ·simp only[q0,q2]at ek
    simp[aV,hk,hx,ek,i1,i2,i3,i4,i5,i6,hTl,m1,q0,q2]
    exact Kn.q [0,1,2,10]
   ·simp only[q0]at ek
    simp[aV,hk,hx,ek,i1,i2,i3,i4,i5,i6,hTl,m1,q0]
    exact Kn.q [0,1,2,11]
   ·simp only[q1,q2]at ek
    simp[aV,hk,hx,ek,i1,i2,i3,i4,i5,i6,hTl,m1,q1,q2]
    exact Kn.q [0,1,2,10]
   ·simp only[q1]at ek
    simp[aV,hk,hx,ek,i1,i2,i3,i4,i5,i6,hTl,m1,q1]
    exact Kn.q [0,1,2,11]
   ·simp only[q2]at ek
    simp[aV,hk,hx,ek,i1,i2,i3,i4,i5,i6,hTl,m1,q2]
    exact Kn.q [0,1,2,11]
   ·simp[aV,hk,hx,ek,i1,i2,i3,i4,i5,i6,hTl,m1]
    exact Kn.q [0,1,2,12]
 ·cases hq:x.buckets with
  |nil=>simp[aV,fU,nd]
  |cons q qs=>
   have hT:(x.buckets.map XBucket.e).take (qs.length+1)=x.buckets.map XBucket.e:=Zs (by rw[hq];simp)
   rw[hq]at hT
   simp only[Zo,fU,hT]
   simp[aV,nd]
def jc (b0 b1:AObj)(rows:List (List PV)):Nat→List AObj
 |0=>[b0,b1, .box [.nil]]
 |k+1=>[b0,b1, .box [.arr 3], .darr 24 (rows.take (k+1))]
theorem uE {B:Nat}(hB:B≤1048576){x:XStorage}(h:x.Ok B):ag Ph aM 450 [.agg [.pv (.lst (x.buckets.map XBucket.e))]]=some (.agg [nd 24 (x.buckets.map XBucket.e)]):=by
 have h_buckets:=h
 have e1:∀k(hk:k<x.buckets.length),_:=fun k hk=>pw hB (h_buckets.2 _ (Zf hk))
 have hl:x.buckets.length≤1048576:=Zc h_buckets.1 hB
 refine ae (fn:=qK) rfl ?_
 simp[qK]
 refine dD bm Cl.fin x.buckets.length [.f,.t,.t,.t,.t,.f,.f,.f,.f,.f,.f,.f,.f,.f,.f,.f,.f,.f,.f,.f,.f,.f,.f,.f,.f] (fun k=>[(4,aa .i64 k)]) (jc (.box [.pv (.lst (x.buckets.map XBucket.e))]) (.box [.nil]) (x.buckets.map XBucket.e)) rfl ?_ ?_ ?_
 ·exact Kn.q [0,1,2] (by simp[jc,aU,aS,aT,eV,bz,aZ,bC,aN,dv,bR,bj,bV,L.ren,aI])
 ·intro k hk
  have ek:=e1 k hk
  have hx:=XBucket.e.eq_1 x.buckets[k]
  have ht:=de (e:=XBucket.e) hk
  rw[hx]at ht
  have N0:=dM 2 (x.buckets[k].caches.caches.map XCache.e)
  generalize nd 2 (x.buckets[k].caches.caches.map XCache.e)=n0 at N0 ek
  have N1:=dM 3 (x.buckets[k].disk.base.stores.map XStore.e)
  generalize nd 3 (x.buckets[k].disk.base.stores.map XStore.e)=n1 at N1 ek
  have N2:=dM 4 (x.buckets[k].replica.base.items.map XItem.e)
  generalize nd 4 (x.buckets[k].replica.base.items.map XItem.e)=n2 at N2 ek
  cases k with
  |zero=>
   simp only[jc,ht]
   rcases N0 with⟨q0,rfl⟩|⟨q0,rfl⟩<;>rcases N1 with⟨q1,rfl⟩|⟨q1,rfl⟩<;>rcases N2 with⟨q2,rfl⟩|⟨q2,rfl⟩
   ·simp only[q0,q1,q2]at ek
    simp[bG,hk,hx,ek,df,q0,q1,q2]
    exact Kn.q [0,1,2,7]
   ·simp only[q0,q1]at ek
    simp[bG,hk,hx,ek,df,q0,q1]
    exact Kn.q [0,1,2,8]
   ·simp only[q0,q2]at ek
    simp[bG,hk,hx,ek,df,q0,q2]
    exact Kn.q [0,1,2,8]
   ·simp only[q0]at ek
    simp[bG,hk,hx,ek,df,q0]
    exact Kn.q [0,1,2,9]
   ·simp only[q1,q2]at ek
    simp[bG,hk,hx,ek,df,q1,q2]
    exact Kn.q [0,1,2,8]
   ·simp only[q1]at ek
    simp[bG,hk,hx,ek,df,q1]
    exact Kn.q [0,1,2,9]
   ·simp only[q2]at ek
    simp[bG,hk,hx,ek,df,q2]
    exact Kn.q [0,1,2,9]
   ·simp[bG,hk,hx,ek,df]
    exact Kn.q [0,1,2,10]
  |succ k=>
   obtain⟨i1,i2,i3,i4,i5,i6⟩:=oJ (n:=x.buckets.length) (by unfold maxLen;omega) hk
   have b1:min (k+1) x.buckets.length=k+1:=by omega
   have m1:=eR (m:=k+1+1) (z:=328) (by omega) (by omega)
   simp only[jc,ht]
   generalize hT:List.take (k+1) _=T
   have hTl:T.length=k+1:=by rw[←hT];simp;omega
   rcases N0 with⟨q0,rfl⟩|⟨q0,rfl⟩<;>rcases N1 with⟨q1,rfl⟩|⟨q1,rfl⟩<;>rcases N2 with⟨q2,rfl⟩|⟨q2,rfl⟩
   ·simp only[q0,q1,q2]at ek
    simp[bG,hk,hx,ek,i1,i2,i3,i4,i5,i6,hTl,m1,q0,q1,q2]
    exact Kn.q [0,1,2,8]
   ·simp only[q0,q1]at ek
    simp[bG,hk,hx,ek,i1,i2,i3,i4,i5,i6,hTl,m1,q0,q1]
    exact Kn.q [0,1,2,9]
   ·simp only[q0,q2]at ek
    simp[bG,hk,hx,ek,i1,i2,i3,i4,i5,i6,hTl,m1,q0,q2]
    exact Kn.q [0,1,2,9]
   ·simp only[q0]at ek
    simp[bG,hk,hx,ek,i1,i2,i3,i4,i5,i6,hTl,m1,q0]
    exact Kn.q [0,1,2,10]
   ·simp only[q1,q2]at ek
    simp[bG,hk,hx,ek,i1,i2,i3,i4,i5,i6,hTl,m1,q1,q2]
    exact Kn.q [0,1,2,9]
   ·simp only[q1]at ek
    simp[bG,hk,hx,ek,i1,i2,i3,i4,i5,i6,hTl,m1,q1]
    exact Kn.q [0,1,2,10]
   ·simp only[q2]at ek
    simp[bG,hk,hx,ek,i1,i2,i3,i4,i5,i6,hTl,m1,q2]
    exact Kn.q [0,1,2,10]
   ·simp[bG,hk,hx,ek,i1,i2,i3,i4,i5,i6,hTl,m1]
    exact Kn.q [0,1,2,11]
 ·cases hq:x.buckets with
  |nil=>simp[bG,jc,nd]
  |cons q qs=>
   have hT:(x.buckets.map XBucket.e).take (qs.length+1)=x.buckets.map XBucket.e:=Zs (by rw[hq];simp)
   rw[hq]at hT
   simp only[Zo,jc,hT]
   simp[bG,nd]
def Vh (rows:List (List PV))(k:Nat):List AObj:=[.darr 11 (rows.take k)]
theorem zH {B:Nat}(hB:B≤1048576){xs:List XPage}(h:xs.length≤B∧∀x∈xs,x.Ok B):ag Ph aM 457 [cA (xs.map XPage.e)]=some (.one (.down 11 (xs.map XPage.e))):=by
 have hl:xs.length≤1048576:=Zc h.1 hB
 have e1:∀k(hk:k<xs.length),_:=fun k hk=>By hB (h.2 _ (Zf hk))
 refine ae (fn:=nZ) rfl ?_
 simp[nZ]
 refine dD bm Cl.fin xs.length [.f,.f,.f,.t,.f,.f,.f,.t,.t,.t,.f,.f,.f,.f,.f,.f,.f,.f,.f,.f] (fun k=>[(3, .one (.arr 0)),(9,aa .i64 k)]) (Vh (xs.map XPage.e)) rfl ?_ ?_ ?_
 ·exact Kn.q [0] (by simp[Vh,aU,aS,aT,eV,bz,aZ,bC,aN,dv,bR,bj,bV,L.ren,aI])
 ·intro k hk
  have ek:=e1 k hk
  have hx:=XPage.e.eq_1 xs[k]
  have ht:=de (e:=XPage.e) hk
  rw[hx]at ht
  cases k with
  |zero=>
   simp only[Vh,ht]
   simp[gY,hk,hx,ek,df]
   exact Kn.q [6]
  |succ k=>
   obtain⟨i1,i2,i3,i4,i5,i6⟩:=oJ (n:=xs.length) (by unfold maxLen;omega) hk
   have m1:=eR (m:=k+1+1) (z:=144) (by omega) (by omega)
   simp only[Vh,ht]
   generalize hT:List.take (k+1) _=T
   have hTl:T.length=k+1:=by rw[←hT];simp;omega
   simp[gY,hk,hx,ek,i1,i2,i3,i4,i5,i6,hTl,m1]
   exact Kn.q [6]
 ·have hT:(xs.map XPage.e).take xs.length=xs.map XPage.e:=Zs (by simp)
  simp only[Vh,hT]
  simp[gY]
def hw (b0 b1:AObj)(o:L→AObj)(rest:List AObj)(n z:Nat)(rows:List (List PV)):Nat→List AObj
 |0=>b0::b1::o .nil::rest
 |k+1=>b0::b1::o (.arr n)::(rest++[.darr z (rows.take (k+1))])
theorem rZ {B:Nat}(hB:B≤1048576){x:XWorld}(h:x.Ok B):ag Ph aM 434 [.agg [.pv (.int .i64 x.now), .pv (.bool x.online), .pv (.int .i64 x.device), .pv (.lst (x.storage.buckets.map XBucket.e)), .pv (.lst (x.pages.map XPage.e)), .pv (.int .i64 x.nextPage), .pv (.lst (x.locks.locks.map XLock.e)), .pv (.lst (x.channel.mails.map XMail.e)), .pv (.lst (x.sites.map XSite.e)), .pv (.lst (x.servers.map XServer.e))]]=some (.agg [.pv (.int .i64 x.now), .pv (.bool x.online), .pv (.int .i64 x.device),nd 24 (x.storage.buckets.map XBucket.e), .down 11 (x.pages.map XPage.e), .pv (.int .i64 x.nextPage), .down 4 (x.locks.locks.map XLock.e), .down 3 (x.channel.mails.map XMail.e),nd 4 (x.sites.map XSite.e),nd 5 (x.servers.map XServer.e)]):=by
 obtain⟨h_now,h_device,h_storage,h_pages,h_nextPage,h_locks,h_channel,h_sites,h_servers⟩:=h
 have c0:=wM hB h_storage
 have c1:=zH hB h_pages
 have c2:=zG hB h_locks
 have c3:=wK hB h_channel
 have e_sites:∀k(hk:k<x.sites.length),_:=fun k hk=>Bz hB (h_sites.2 _ (Zf hk))
 have e_servers:∀k(hk:k<x.servers.length),_:=fun k hk=>yb hB (h_servers.2 _ (Zf hk))
 have hl1:x.sites.length≤1048576:=Zc h_sites.1 hB
 have hl2:x.servers.length≤1048576:=Zc h_servers.1 hB
 clear h_now h_device h_storage h_pages h_nextPage h_locks h_channel h_sites h_servers
 have N:=dM 24 (x.storage.buckets.map XBucket.e)
 generalize nd 24 (x.storage.buckets.map XBucket.e)=n at N c0⊢
 rcases N with⟨-,rfl⟩|⟨-,rfl⟩
 ·refine ae (fn:=iX) rfl ?_
  simp[iX,c0,c1,c2,c3]
  refine dD bm Cl.fin x.sites.length [.f,.t,.t,.t,.f,.f,.f,.f,.f,.f,.f,.f,.f,.f,.f,.f,.f,.f,.f,.f,.f,.f,.f,.f,.f,.f,.f,.t,.t,.t,.f,.f,.f,.f,.f,.f,.f,.f,.f,.f,.f,.f,.f,.f,.f,.f,.f,.f,.f,.f,.f,.f,.f,.f,.f,.f,.f,.f] (fun k=>[(29,aa .i64 k)]) (hw (.box [.pv (.int .i64 x.now), .pv (.bool x.online), .pv (.int .i64 x.device), .pv (.lst (x.storage.buckets.map XBucket.e)), .pv (.lst (x.pages.map XPage.e)), .pv (.int .i64 x.nextPage), .pv (.lst (x.locks.locks.map XLock.e)), .pv (.lst (x.channel.mails.map XMail.e)), .pv (.lst (x.sites.map XSite.e)), .pv (.lst (x.servers.map XServer.e))]) (.box [.pv (.int .i64 0), .pv (.bool false), .pv (.int .i64 0), .nil, .nil, .pv (.int .i64 0), .nil, .nil, .nil, .nil]) (fun c=> .box [.pv (.int .i64 x.now), .pv (.bool x.online), .pv (.int .i64 x.device), .nil, .arr 3, .pv (.int .i64 x.nextPage), .arr 4, .arr 5,c, .pv (.lst (x.servers.map XServer.e))]) [.darr 11 (x.pages.map XPage.e), .darr 4 (x.locks.locks.map XLock.e), .darr 3 (x.channel.mails.map XMail.e)] 6 4 (x.sites.map XSite.e)) rfl ?_ ?_ ?_
  ·exact Kn.q [0,1,2,3,4,5] (by simp[hw,Zg,Zi,aU,aS,aT,eV,bz,aZ,bC,aN,dv,bR,bj,bV,L.ren,aI])
  ·intro k hk
   have ek:=e_sites k hk
   have hx:=XSite.e.eq_1 x.sites[k]
   have ht:=de (e:=XSite.e) hk
   rw[hx]at ht
   cases k with
   |zero=>
    simp only[hw,Zg,Zi,ht]
    simp[di,hk,hx,ek,df]
    exact Kn.q [0,1,2,3,4,5,9]
   |succ k=>
    obtain⟨i1,i2,i3,i4,i5,i6⟩:=oJ (n:=x.sites.length) (by unfold maxLen;omega) hk
    have m1:=eR (m:=k+1+1) (z:=56) (by omega) (by omega)
    simp only[hw,Zg,Zi,ht]
    generalize hT:List.take (k+1) _=T
    have hTl:T.length=k+1:=by rw[←hT];simp;omega
    simp[di,hk,hx,ek,i1,i2,i3,i4,i5,i6,hTl,m1]
    exact Kn.q [0,1,2,3,4,5,10]
  ·cases hq:x.sites with
   |nil=>
    simp only[Z4,hw]
    simp[di,nd]
    refine dD bm Cl.fin x.servers.length [.f,.f,.t,.t,.f,.f,.f,.f,.f,.f,.f,.f,.f,.f,.f,.f,.f,.f,.f,.f,.f,.f,.f,.f,.f,.f,.f,.f,.f,.f,.f,.f,.f,.f,.f,.f,.f,.f,.f,.f,.f,.f,.f,.t,.t,.t,.f,.f,.f,.f,.f,.f,.f,.f,.f,.f,.f,.f] (fun k=>[(45,aa .i64 k)]) (hw (.box [.pv (.int .i64 x.now), .pv (.bool x.online), .pv (.int .i64 x.device), .pv (.lst (x.storage.buckets.map XBucket.e)), .pv (.lst (x.pages.map XPage.e)), .pv (.int .i64 x.nextPage), .pv (.lst (x.locks.locks.map XLock.e)), .pv (.lst (x.channel.mails.map XMail.e)), .pv (.lst []), .pv (.lst (x.servers.map XServer.e))]) (.box [.pv (.int .i64 0), .pv (.bool false), .pv (.int .i64 0), .nil, .nil, .pv (.int .i64 0), .nil, .nil, .nil, .nil]) (fun c=> .box [.pv (.int .i64 x.now), .pv (.bool x.online), .pv (.int .i64 x.device), .nil, .arr 3, .pv (.int .i64 x.nextPage), .arr 4, .arr 5, .nil,c]) [.darr 11 (x.pages.map XPage.e), .darr 4 (x.locks.locks.map XLock.e), .darr 3 (x.channel.mails.map XMail.e)] 6 5 (x.servers.map XServer.e)) rfl ?_ ?_ ?_
    ·exact Kn.q [0,1,2,3,4,5] (by simp[hw,Zg,Zi,aU,aS,aT,eV,bz,aZ,bC,aN,dv,bR,bj,bV,L.ren,aI])
    ·intro k hk
     have ek:=e_servers k hk
     have hx:=XServer.e.eq_1 x.servers[k]
     have ht:=de (e:=XServer.e) hk
     rw[hx]at ht
     have N0:=dM 4 (x.servers[k].store.items.map XItem.e)
     generalize nd 4 (x.servers[k].store.items.map XItem.e)=n0 at N0 ek
     cases k with
     |zero=>
      simp only[hw,Zg,Zi,ht]
      rcases N0 with⟨q0,rfl⟩|⟨q0,rfl⟩
      ·simp only[q0]at ek
       simp[aK,hk,hx,ek,df,q0]
       exact Kn.q [0,1,2,3,4,5,10]
      ·simp[aK,hk,hx,ek,df]
       exact Kn.q [0,1,2,3,4,5,11]
     |succ k=>
      obtain⟨i1,i2,i3,i4,i5,i6⟩:=oJ (n:=x.servers.length) (by unfold maxLen;omega) hk
      have m1:=eR (m:=k+1+1) (z:=96) (by omega) (by omega)
      simp only[hw,Zg,Zi,ht]
      generalize hT:List.take (k+1) _=T
      have hTl:T.length=k+1:=by rw[←hT];simp;omega
      rcases N0 with⟨q0,rfl⟩|⟨q0,rfl⟩
      ·simp only[q0]at ek
       simp[aK,hk,hx,ek,i1,i2,i3,i4,i5,i6,hTl,m1,q0]
       exact Kn.q [0,1,2,3,4,5,11]
      ·simp[aK,hk,hx,ek,i1,i2,i3,i4,i5,i6,hTl,m1]
       exact Kn.q [0,1,2,3,4,5,12]
    ·cases hq2:x.servers with
     |nil=>simp[aK,hw,nd]
     |cons u us=>
      have hT2:(x.servers.map XServer.e).take (us.length+1)=x.servers.map XServer.e:=Zs (by rw[hq2];simp)
      rw[hq2]at hT2
      simp only[Zo,hw,hT2,Zg,Zi]
      simp[aK,nd]
   |cons q qs=>
    have hT:(x.sites.map XSite.e).take (qs.length+1)=x.sites.map XSite.e:=Zs (by rw[hq];simp)
    rw[hq]at hT
    simp only[Zo,hw,hT,Zg,Zi]
    simp[di,nd]
    refine dD bm Cl.fin x.servers.length [.f,.f,.t,.t,.f,.f,.f,.f,.f,.f,.f,.f,.f,.f,.f,.f,.f,.f,.f,.f,.f,.f,.f,.f,.f,.f,.f,.f,.f,.f,.f,.f,.f,.f,.f,.f,.f,.f,.f,.f,.f,.f,.f,.t,.t,.t,.f,.f,.f,.f,.f,.f,.f,.f,.f,.f,.f,.f] (fun k=>[(45,aa .i64 k)]) (hw (.box [.pv (.int .i64 x.now), .pv (.bool x.online), .pv (.int .i64 x.device), .pv (.lst (x.storage.buckets.map XBucket.e)), .pv (.lst (x.pages.map XPage.e)), .pv (.int .i64 x.nextPage), .pv (.lst (x.locks.locks.map XLock.e)), .pv (.lst (x.channel.mails.map XMail.e)), .pv (.lst (XSite.e q::qs.map XSite.e)), .pv (.lst (x.servers.map XServer.e))]) (.box [.pv (.int .i64 0), .pv (.bool false), .pv (.int .i64 0), .nil, .nil, .pv (.int .i64 0), .nil, .nil, .nil, .nil]) (fun c=> .box [.pv (.int .i64 x.now), .pv (.bool x.online), .pv (.int .i64 x.device), .nil, .arr 3, .pv (.int .i64 x.nextPage), .arr 4, .arr 5, .arr 6,c]) [.darr 11 (x.pages.map XPage.e), .darr 4 (x.locks.locks.map XLock.e), .darr 3 (x.channel.mails.map XMail.e), .darr 4 (XSite.e q::qs.map XSite.e)] 7 5 (x.servers.map XServer.e)) rfl ?_ ?_ ?_
    ·exact Kn.q [0,1,2,3,4,5,6] (by simp[hw,Zg,Zi,aU,aS,aT,eV,bz,aZ,bC,aN,dv,bR,bj,bV,L.ren,aI])
    ·intro k hk
     have ek:=e_servers k hk
     have hx:=XServer.e.eq_1 x.servers[k]
     have ht:=de (e:=XServer.e) hk
     rw[hx]at ht
     have N0:=dM 4 (x.servers[k].store.items.map XItem.e)
     generalize nd 4 (x.servers[k].store.items.map XItem.e)=n0 at N0 ek
     cases k with
     |zero=>
      simp only[hw,Zg,Zi,ht]
      rcases N0 with⟨q0,rfl⟩|⟨q0,rfl⟩
      ·simp only[q0]at ek
       simp[aK,hk,hx,ek,df,q0]
       exact Kn.q [0,1,2,3,4,5,6,11]
      ·simp[aK,hk,hx,ek,df]
       exact Kn.q [0,1,2,3,4,5,6,12]
     |succ k=>
      obtain⟨i1,i2,i3,i4,i5,i6⟩:=oJ (n:=x.servers.length) (by unfold maxLen;omega) hk
      have m1:=eR (m:=k+1+1) (z:=96) (by omega) (by omega)
      simp only[hw,Zg,Zi,ht]
      generalize hT:List.take (k+1) _=T
      have hTl:T.length=k+1:=by rw[←hT];simp;omega
      rcases N0 with⟨q0,rfl⟩|⟨q0,rfl⟩
      ·simp only[q0]at ek
       simp[aK,hk,hx,ek,i1,i2,i3,i4,i5,i6,hTl,m1,q0]
       exact Kn.q [0,1,2,3,4,5,6,12]
      ·simp[aK,hk,hx,ek,i1,i2,i3,i4,i5,i6,hTl,m1]
       exact Kn.q [0,1,2,3,4,5,6,13]
    ·cases hq2:x.servers with
     |nil=>simp[aK,hw,nd]
     |cons u us=>
      have hT2:(x.servers.map XServer.e).take (us.length+1)=x.servers.map XServer.e:=Zs (by rw[hq2];simp)
      rw[hq2]at hT2
      simp only[Zo,hw,hT2,Zg,Zi]
      simp[aK,nd]
 ·refine ae (fn:=iX) rfl ?_
  simp[iX,c0,c1,c2,c3]
  refine dD bm Cl.fin x.sites.length [.f,.t,.t,.t,.f,.f,.f,.f,.f,.f,.f,.f,.f,.f,.f,.f,.f,.f,.f,.f,.f,.f,.f,.f,.f,.f,.f,.t,.t,.t,.f,.f,.f,.f,.f,.f,.f,.f,.f,.f,.f,.f,.f,.f,.f,.f,.f,.f,.f,.f,.f,.f,.f,.f,.f,.f,.f,.f] (fun k=>[(29,aa .i64 k)]) (hw (.box [.pv (.int .i64 x.now), .pv (.bool x.online), .pv (.int .i64 x.device), .pv (.lst (x.storage.buckets.map XBucket.e)), .pv (.lst (x.pages.map XPage.e)), .pv (.int .i64 x.nextPage), .pv (.lst (x.locks.locks.map XLock.e)), .pv (.lst (x.channel.mails.map XMail.e)), .pv (.lst (x.sites.map XSite.e)), .pv (.lst (x.servers.map XServer.e))]) (.box [.pv (.int .i64 0), .pv (.bool false), .pv (.int .i64 0), .nil, .nil, .pv (.int .i64 0), .nil, .nil, .nil, .nil]) (fun c=> .box [.pv (.int .i64 x.now), .pv (.bool x.online), .pv (.int .i64 x.device), .arr 3, .arr 4, .pv (.int .i64 x.nextPage), .arr 5, .arr 6,c, .pv (.lst (x.servers.map XServer.e))]) [.darr 24 (x.storage.buckets.map XBucket.e), .darr 11 (x.pages.map XPage.e), .darr 4 (x.locks.locks.map XLock.e), .darr 3 (x.channel.mails.map XMail.e)] 7 4 (x.sites.map XSite.e)) rfl ?_ ?_ ?_
  ·exact Kn.q [0,1,2,3,4,5,6] (by simp[hw,Zg,Zi,aU,aS,aT,eV,bz,aZ,bC,aN,dv,bR,bj,bV,L.ren,aI])
  ·intro k hk
   have ek:=e_sites k hk
   have hx:=XSite.e.eq_1 x.sites[k]
   have ht:=de (e:=XSite.e) hk
   rw[hx]at ht
   cases k with
   |zero=>
    simp only[hw,Zg,Zi,ht]
    simp[di,hk,hx,ek,df]
    exact Kn.q [0,1,2,3,4,5,6,10]
   |succ k=>
    obtain⟨i1,i2,i3,i4,i5,i6⟩:=oJ (n:=x.sites.length) (by unfold maxLen;omega) hk
    have m1:=eR (m:=k+1+1) (z:=56) (by omega) (by omega)
    simp only[hw,Zg,Zi,ht]
    generalize hT:List.take (k+1) _=T
    have hTl:T.length=k+1:=by rw[←hT];simp;omega
    simp[di,hk,hx,ek,i1,i2,i3,i4,i5,i6,hTl,m1]
    exact Kn.q [0,1,2,3,4,5,6,11]
  ·cases hq:x.sites with
   |nil=>
    simp only[Z4,hw]
    simp[di,nd]
    refine dD bm Cl.fin x.servers.length [.f,.f,.t,.t,.f,.f,.f,.f,.f,.f,.f,.f,.f,.f,.f,.f,.f,.f,.f,.f,.f,.f,.f,.f,.f,.f,.f,.f,.f,.f,.f,.f,.f,.f,.f,.f,.f,.f,.f,.f,.f,.f,.f,.t,.t,.t,.f,.f,.f,.f,.f,.f,.f,.f,.f,.f,.f,.f] (fun k=>[(45,aa .i64 k)]) (hw (.box [.pv (.int .i64 x.now), .pv (.bool x.online), .pv (.int .i64 x.device), .pv (.lst (x.storage.buckets.map XBucket.e)), .pv (.lst (x.pages.map XPage.e)), .pv (.int .i64 x.nextPage), .pv (.lst (x.locks.locks.map XLock.e)), .pv (.lst (x.channel.mails.map XMail.e)), .pv (.lst []), .pv (.lst (x.servers.map XServer.e))]) (.box [.pv (.int .i64 0), .pv (.bool false), .pv (.int .i64 0), .nil, .nil, .pv (.int .i64 0), .nil, .nil, .nil, .nil]) (fun c=> .box [.pv (.int .i64 x.now), .pv (.bool x.online), .pv (.int .i64 x.device), .arr 3, .arr 4, .pv (.int .i64 x.nextPage), .arr 5, .arr 6, .nil,c]) [.darr 24 (x.storage.buckets.map XBucket.e), .darr 11 (x.pages.map XPage.e), .darr 4 (x.locks.locks.map XLock.e), .darr 3 (x.channel.mails.map XMail.e)] 7 5 (x.servers.map XServer.e)) rfl ?_ ?_ ?_
    ·exact Kn.q [0,1,2,3,4,5,6] (by simp[hw,Zg,Zi,aU,aS,aT,eV,bz,aZ,bC,aN,dv,bR,bj,bV,L.ren,aI])
    ·intro k hk
     have ek:=e_servers k hk
     have hx:=XServer.e.eq_1 x.servers[k]
     have ht:=de (e:=XServer.e) hk
     rw[hx]at ht
     have N0:=dM 4 (x.servers[k].store.items.map XItem.e)
     generalize nd 4 (x.servers[k].store.items.map XItem.e)=n0 at N0 ek
     cases k with
     |zero=>
      simp only[hw,Zg,Zi,ht]
      rcases N0 with⟨q0,rfl⟩|⟨q0,rfl⟩
      ·simp only[q0]at ek
       simp[aK,hk,hx,ek,df,q0]
       exact Kn.q [0,1,2,3,4,5,6,11]
      ·simp[aK,hk,hx,ek,df]
       exact Kn.q [0,1,2,3,4,5,6,12]
     |succ k=>
      obtain⟨i1,i2,i3,i4,i5,i6⟩:=oJ (n:=x.servers.length) (by unfold maxLen;omega) hk
      have m1:=eR (m:=k+1+1) (z:=96) (by omega) (by omega)
      simp only[hw,Zg,Zi,ht]
      generalize hT:List.take (k+1) _=T
      have hTl:T.length=k+1:=by rw[←hT];simp;omega
      rcases N0 with⟨q0,rfl⟩|⟨q0,rfl⟩
      ·simp only[q0]at ek
       simp[aK,hk,hx,ek,i1,i2,i3,i4,i5,i6,hTl,m1,q0]
       exact Kn.q [0,1,2,3,4,5,6,12]
      ·simp[aK,hk,hx,ek,i1,i2,i3,i4,i5,i6,hTl,m1]
       exact Kn.q [0,1,2,3,4,5,6,13]
    ·cases hq2:x.servers with
     |nil=>simp[aK,hw,nd]
     |cons u us=>
      have hT2:(x.servers.map XServer.e).take (us.length+1)=x.servers.map XServer.e:=Zs (by rw[hq2];simp)
      rw[hq2]at hT2
      simp only[Zo,hw,hT2,Zg,Zi]
      simp[aK,nd]
   |cons q qs=>
    have hT:(x.sites.map XSite.e).take (qs.length+1)=x.sites.map XSite.e:=Zs (by rw[hq];simp)
    rw[hq]at hT
    simp only[Zo,hw,hT,Zg,Zi]
    simp[di,nd]
    refine dD bm Cl.fin x.servers.length [.f,.f,.t,.t,.f,.f,.f,.f,.f,.f,.f,.f,.f,.f,.f,.f,.f,.f,.f,.f,.f,.f,.f,.f,.f,.f,.f,.f,.f,.f,.f,.f,.f,.f,.f,.f,.f,.f,.f,.f,.f,.f,.f,.t,.t,.t,.f,.f,.f,.f,.f,.f,.f,.f,.f,.f,.f,.f] (fun k=>[(45,aa .i64 k)]) (hw (.box [.pv (.int .i64 x.now), .pv (.bool x.online), .pv (.int .i64 x.device), .pv (.lst (x.storage.buckets.map XBucket.e)), .pv (.lst (x.pages.map XPage.e)), .pv (.int .i64 x.nextPage), .pv (.lst (x.locks.locks.map XLock.e)), .pv (.lst (x.channel.mails.map XMail.e)), .pv (.lst (XSite.e q::qs.map XSite.e)), .pv (.lst (x.servers.map XServer.e))]) (.box [.pv (.int .i64 0), .pv (.bool false), .pv (.int .i64 0), .nil, .nil, .pv (.int .i64 0), .nil, .nil, .nil, .nil]) (fun c=> .box [.pv (.int .i64 x.now), .pv (.bool x.online), .pv (.int .i64 x.device), .arr 3, .arr 4, .pv (.int .i64 x.nextPage), .arr 5, .arr 6, .arr 7,c]) [.darr 24 (x.storage.buckets.map XBucket.e), .darr 11 (x.pages.map XPage.e), .darr 4 (x.locks.locks.map XLock.e), .darr 3 (x.channel.mails.map XMail.e), .darr 4 (XSite.e q::qs.map XSite.e)] 8 5 (x.servers.map XServer.e)) rfl ?_ ?_ ?_
    ·exact Kn.q [0,1,2,3,4,5,6,7] (by simp[hw,Zg,Zi,aU,aS,aT,eV,bz,aZ,bC,aN,dv,bR,bj,bV,L.ren,aI])
    ·intro k hk
     have ek:=e_servers k hk
     have hx:=XServer.e.eq_1 x.servers[k]
     have ht:=de (e:=XServer.e) hk
     rw[hx]at ht
     have N0:=dM 4 (x.servers[k].store.items.map XItem.e)
     generalize nd 4 (x.servers[k].store.items.map XItem.e)=n0 at N0 ek
     cases k with
     |zero=>
      simp only[hw,Zg,Zi,ht]
      rcases N0 with⟨q0,rfl⟩|⟨q0,rfl⟩
      ·simp only[q0]at ek
       simp[aK,hk,hx,ek,df,q0]
       exact Kn.q [0,1,2,3,4,5,6,7,12]
      ·simp[aK,hk,hx,ek,df]
       exact Kn.q [0,1,2,3,4,5,6,7,13]
     |succ k=>
      obtain⟨i1,i2,i3,i4,i5,i6⟩:=oJ (n:=x.servers.length) (by unfold maxLen;omega) hk
      have m1:=eR (m:=k+1+1) (z:=96) (by omega) (by omega)
      simp only[hw,Zg,Zi,ht]
      generalize hT:List.take (k+1) _=T
      have hTl:T.length=k+1:=by rw[←hT];simp;omega
      rcases N0 with⟨q0,rfl⟩|⟨q0,rfl⟩
      ·simp only[q0]at ek
       simp[aK,hk,hx,ek,i1,i2,i3,i4,i5,i6,hTl,m1,q0]
       exact Kn.q [0,1,2,3,4,5,6,7,13]
      ·simp[aK,hk,hx,ek,i1,i2,i3,i4,i5,i6,hTl,m1]
       exact Kn.q [0,1,2,3,4,5,6,7,14]
    ·cases hq2:x.servers with
     |nil=>simp[aK,hw,nd]
     |cons u us=>
      have hT2:(x.servers.map XServer.e).take (us.length+1)=x.servers.map XServer.e:=Zs (by rw[hq2];simp)
      rw[hq2]at hT2
      simp only[Zo,hw,hT2,Zg,Zi]
      simp[aK,nd]
end Gi
