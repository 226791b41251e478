/- Of this proof. -/
import Derived.Test.YtebnmoogdmpepaaGreatGlO
import Derived.Test.YtebnmoogdmpepaaGreatGkh
set_option linter.unusedSimpArgs false
set_option linter.unusedVariables false
namespace Gi
open Go Go.RowKit
set_option maxHeartbeats 8000000
set_option maxRecDepth 4000
attribute [local simp] start rB bj cf dG fp dF fo fx fw tJ tT tK tU tL tV tM tW tN tX tO tY tP tZ tQ t6 tR t7 V.cells plain bo gn isInt isStr isBool bin cC iT cD iU fq un asList L.view am V.view viewL aY ar cH bP bM comp aJ bH df bY bz bw bx bG bc ca aN bB aT aO bE cd bD bA bF V.flat L.flat dO di bv putAt thaw thawL thawT V.ow fv dK dL cE fu cF dJ freezeVs freezeLs freezeL V.mut L.mut aG ez ie aW bm aF dz bL bf bS L.ren aV dA ce dM bO bh wp_seq wp_block bt dP cI bR cJ wp_skip wp_exit wp_ret cA cy cP cB cW cX cV bX aM L.notArr aS aQ aR dN bp storeD aX fD br ct bd m9 L.mov L.closed V.closed PV.bare PV.flat
theorem Qe {k:Nat}(hk:k<M6.length)(s:List UInt8):(Bs s==(k:Int))=(s==M6[k]):=by
 have hk':k<3:=hk
 by_cases h1:s=[98,97,110,107]
 ·subst h1
  obtain rfl|rfl|rfl:k=0∨k=1∨k=2:=by omega
  all_goals rfl
 by_cases h2:s=[110,101,119,115]
 ·subst h2
  obtain rfl|rfl|rfl:k=0∨k=1∨k=2:=by omega
  all_goals rfl
 by_cases h3:s=[115,104,111,112]
 ·subst h3
  obtain rfl|rfl|rfl:k=0∨k=1∨k=2:=by omega
  all_goals rfl
 have e:Bs s= -1:=by simp[Bs,gu,M6,List.findIdx?_cons,h1,h2,h3]
 have q:((-1:Int)==(k:Int))=false:=by rw[beq_eq_false_iff_ne];omega
 rw[e,q]
 symm
 rw[beq_eq_false_iff_ne]
 obtain rfl|rfl|rfl:k=0∨k=1∨k=2:=by omega
 ·exact h1
 ·exact h2
 ·exact h3
def DP (w:XWorld)(k:Nat):Bool:=match w.pages[k]?,w.pages[k-1]? with
 |some x,some y=> !(sY x)||(!(cQ x.id w.nextPage)||((cQ 0 k&& !(cQ y.id x.id))||cQ (gu (Rx x.site x.top) w.storage.buckets) 0))
 |_,_=>false
def DQ (w:XWorld)(k:Nat):Bool:=match w.sites[k]?,w.servers[k]?,M6[k]? with
 |some s,some v,some n=> !(sZ s)||(!(s.name==n)|| !(yW v))
 |_,_,_=>false
def og (w:XWorld):Bool:=rg w.now 0 999999990000&&(rg w.device 1 1000000&&(we w.storage.buckets&&(!(cQ 6 w.pages.length)&&(rg w.nextPage 1 1000000000000&&(sX w.locks.locks&&(((w.sites.length:Int)==3)&&(((w.servers.length:Int)==3)&&(!(gx w.pages.length (DP w))&& !(gx 3 (DQ w))))))))))
theorem tt {w:XWorld}(h:w.Ok 1048576):ah Ph au 374 [w.v]=some (av (og w)):=by
 have hm:w.Ok maxLen:=XWorld.Ok.mono (by unfold maxLen;omega) h
 obtain⟨_,_,⟨hsl,hsb⟩,⟨hpl,hpp⟩,_,⟨hll,hlk⟩,_,⟨htl,hst⟩,hvl,hsv⟩:=hm
 have e1:=be w.now 0 999999990000
 have e2:=be w.device 1 1000000
 have e3:=yR h.2.2.1.1 h.2.2.1.2
 have e5:=be w.nextPage 1 1000000000000
 have e6:=vI hll hlk
 unfold og
 obtain⟨b4,h4⟩:∃g,cQ 6 w.pages.length=g:=⟨_,rfl⟩
 obtain⟨b7,h7⟩:∃g,((w.sites.length:Int)==3)=g:=⟨_,rfl⟩
 obtain⟨b8,h8⟩:∃g,((w.servers.length:Int)==3)=g:=⟨_,rfl⟩
 rw[h4,h7,h8]
 generalize rg w.now 0 999999990000=b1 at e1⊢
 generalize rg w.device 1 1000000=b2 at e2⊢
 generalize we w.storage.buckets=b3 at e3⊢
 generalize rg w.nextPage 1 1000000000000=b5 at e5⊢
 generalize sX w.locks.locks=b6 at e6⊢
 refine ae (fn:=eh) rfl ?_
 cases b1
 ·simp(maxSteps:=9999999) [eh,e1]
 cases b2
 ·simp(maxSteps:=9999999) [eh,e1,e2]
 cases b3
 ·simp(maxSteps:=9999999) [eh,e1,e2,e3]
 cases b4
 rotate_left
 ·simp(maxSteps:=9999999) [eh,e1,e2,e3,h4]
 cases b5
 ·simp(maxSteps:=9999999) [eh,e1,e2,e3,h4,e5]
 cases b6
 ·simp(maxSteps:=9999999) [eh,e1,e2,e3,h4,e5,e6]
 cases b7
 ·simp(maxSteps:=9999999) [eh,e1,e2,e3,h4,e5,e6,h7]
 cases b8
 ·simp(maxSteps:=9999999) [eh,e1,e2,e3,h4,e5,e6,h7,h8]
 simp(maxSteps:=9999999) [eh,e1,e2,e3,h4,e5,e6,h7,h8]
 have h7:w.sites.length=3:=by have:=beq_iff_eq.1 h7;omega
 have h8:w.servers.length=3:=by have:=beq_iff_eq.1 h8;omega
 refine aC aU Cl.fin [.f,.t,.f,.f,.f,.f,.f,.f,.f,.f,.f,.f,.f,.f,.f,.f,.f,.f,.f,.f,.f,.f,.f,.f,.f,.f,.f,.f,.f,.f,.f,.f,.f,.f,.f,.f,.f,.f,.f,.f,.f,.f,.f,.f,.f,.f,.f,.f,.f,.f,.f,.f,.f,.f,.t,.t,.t,.f,.f,.f,.f,.f,.f,.f,.f,.f,.f,.f,.f,.f,.f,.f,.f,.f,.f,.f,.f,.f,.f,.f,.f,.f,.f,.f,.f,.f,.f,.f,.f,.f,.f,.f,.f,.f,.f,.f,.f,.f,.f,.f,.f,.f,.f,.f,.f,.f,.f,.f,.f,.f,.f,.f,.f,.f,.f,.f,.f,.f,.f,.f,.f,.f,.f,.f,.f,.f] (fun k=>[(56,aa .i64 k)]) w.pages.length (DP w) rfl (by simp) (fun k hk _=> ?_) (fun _ hp=> ?_)
 ·obtain⟨q1,q2⟩:=vQ hpl hk
  have e7:=Fc (hpp _ (Zg hk))
  have e8:=xe hsl w.pages[k].site w.pages[k].top
  have hx:=XPage.e.eq_1 w.pages[k]
  have hy:=XPage.e.eq_1 w.pages[k-1]
  have hb:DP w k=(!(sY w.pages[k])||(!(cQ w.pages[k].id w.nextPage)||((cQ 0 k&& !(cQ w.pages[k-1].id w.pages[k].id))||cQ (gu (Rx w.pages[k].site w.pages[k].top) w.storage.buckets) 0))):=by simp[DP,hk,q2]
  rw[hb]
  generalize sY w.pages[k]=b9 at e7⊢
  generalize gu (Rx w.pages[k].site w.pages[k].top) w.storage.buckets=F at e8⊢
  cases b9
  ·simp +contextual (maxSteps:=9999999) [eL,hk,hx,e7,aE hpl hk,aZ hk]
  cases c1:cQ w.pages[k].id w.nextPage
  ·simp +contextual (maxSteps:=9999999) [eL,hk,hx,e7,c1,aE hpl hk,aZ hk]
  cases c2:cQ 0 k
  ·simp +contextual (maxSteps:=9999999) [eL,hk,hx,e7,e8,c1,c2,aE hpl hk,aZ hk]
  have q3:=q1 c2
  simp +contextual (maxSteps:=9999999) [eL,hk,q2,q3,hx,hy,e7,e8,c1,c2,aE hpl hk,aZ hk]
 ·simp(maxSteps:=9999999) [eL,hp]
  refine aC aU Cl.fin [.f,.t,.f,.f,.f,.f,.f,.f,.f,.f,.f,.f,.f,.f,.f,.f,.f,.f,.f,.f,.f,.f,.f,.f,.f,.f,.f,.f,.f,.f,.f,.f,.f,.f,.f,.f,.f,.f,.f,.f,.f,.f,.f,.f,.f,.f,.f,.f,.f,.f,.f,.f,.f,.f,.f,.f,.f,.f,.f,.f,.f,.f,.f,.f,.f,.f,.f,.f,.f,.f,.f,.f,.f,.f,.f,.f,.f,.f,.f,.f,.f,.f,.f,.f,.f,.f,.f,.f,.f,.f,.f,.f,.f,.f,.f,.f,.f,.f,.f,.t,.t,.t,.f,.f,.f,.f,.f,.f,.f,.f,.f,.f,.f,.f,.f,.f,.f,.f,.f,.f,.f,.f,.f,.f,.f,.f] (fun k=>[(101,aa .i64 k)]) 3 (DQ w) rfl (by simp) (fun k hk _=> ?_) (fun _ hp=> ?_)
  ·have k1:k<w.sites.length:=by omega
   have k2:k<w.servers.length:=by omega
   have k3:k<M6.length:=hk
   have l3:cQ (k:Int) 3=true:=hY (by omega)
   have ws:=aE (n:=3) (by decide) hk
   have e7:=Fe (hst _ (Zg k1))
   have e8:=A8 (hsv _ (Zg k2))
   have hx:=XSite.e.eq_1 w.sites[k]
   have hy:=XServer.e.eq_1 w.servers[k]
   have e9:=xi w.sites[k].name
   have e10:=Qe k3 w.sites[k].name
   have hb:DQ w k=(!(sZ w.sites[k])||(!(w.sites[k].name==M6[k])|| !(yW w.servers[k]))):=by simp[DQ,k1,k2,k3]
   rw[hb]
   generalize sZ w.sites[k]=b9 at e7⊢
   generalize yW w.servers[k]=b10 at e8⊢
   rw[←e10]
   generalize Bs w.sites[k].name=F at e9⊢
   obtain⟨b11,h9⟩:∃g,(F==(k:Int))=g:=⟨_,rfl⟩
   rw[h9]
   cases b9
   ·simp +contextual (maxSteps:=9999999) [gz,hk,k1,hx,e7,ws,l3,h7,h8]
   cases b11
   ·simp +contextual (maxSteps:=9999999) [gz,hk,k1,k3,hx,e7,e9,h9,xA,ws,l3,h7,h8]
   simp +contextual (maxSteps:=9999999) [gz,hk,k1,k2,k3,hx,hy,e7,e8,e9,h9,xA,ws,l3,h7,h8]
  ·simp(maxSteps:=9999999) [gz,hp,h7,h8,show cQ 3 3=false from rfl]
theorem tC {w:XWorld}(h:w.Ok 1048576):ah Ph au 373 [w.v]=some (av (og w)):=by
 have hm:w.Ok maxLen:=XWorld.Ok.mono (by unfold maxLen;omega) h
 obtain⟨_,_,⟨hsl,hsb⟩,⟨hpl,hpp⟩,_,⟨hll,hlk⟩,_,⟨htl,hst⟩,hvl,hsv⟩:=hm
 have e1:=bK w.now 0 999999990000
 have e2:=bK w.device 1 1000000
 have e3:=zC h.2.2.1.1 h.2.2.1.2
 have e5:=bK w.nextPage 1 1000000000000
 have e6:=vU hll hlk
 unfold og
 obtain⟨b4,h4⟩:∃g,cQ 6 w.pages.length=g:=⟨_,rfl⟩
 obtain⟨b7,h7⟩:∃g,((w.sites.length:Int)==3)=g:=⟨_,rfl⟩
 obtain⟨b8,h8⟩:∃g,((w.servers.length:Int)==3)=g:=⟨_,rfl⟩
 rw[h4,h7,h8]
 generalize rg w.now 0 999999990000=b1 at e1⊢
 generalize rg w.device 1 1000000=b2 at e2⊢
 generalize we w.storage.buckets=b3 at e3⊢
 generalize rg w.nextPage 1 1000000000000=b5 at e5⊢
 generalize sX w.locks.locks=b6 at e6⊢
 refine ae (fn:=iK) rfl ?_
 cases b7
 ·simp(maxSteps:=9999999) [iK,h7]
 cases b8
 ·simp(maxSteps:=9999999) [iK,h7,h8]
 cases b4
 rotate_left
 ·simp(maxSteps:=9999999) [iK,h4,h7,h8]
 simp(maxSteps:=9999999) [iK,h4,h7,h8]
 have h7:w.sites.length=3:=by have:=beq_iff_eq.1 h7;omega
 have h8:w.servers.length=3:=by have:=beq_iff_eq.1 h8;omega
 refine aC aU Cl.fin [.f,.t,.f,.t,.f,.f,.f,.f,.f,.f,.f,.f,.f,.f,.f,.f,.f,.f,.f,.f,.f,.f,.f,.f,.f,.f,.f,.f,.f,.f,.f,.f,.f,.f,.f,.f,.f,.f,.f,.f,.f,.f,.f,.f,.f,.f,.f,.f,.f,.f,.f,.f,.f,.f,.f,.f,.f,.f,.f,.f,.f,.f,.f,.f,.f,.f,.f,.f,.f,.f,.f,.f,.f,.f,.f,.f,.f,.f,.f,.f,.f,.f,.f,.f,.f,.f,.f,.f,.f,.f,.f,.f,.f,.f,.f,.f,.f,.f,.f,.f,.f,.f,.f,.f,.f,.f,.f,.f,.f,.f,.f,.f,.f,.f,.f,.f,.f,.f,.f,.f,.f,.f,.f,.f,.f,.f] (fun k=>[(3,aa .i64 k)]) 3 (DQ w) rfl (by simp) (fun k hk _=> ?_) (fun _ hp=> ?_)
 ·have k1:k<w.sites.length:=by omega
  have k2:k<w.servers.length:=by omega
  have k3:k<M6.length:=hk
  have l3:cQ (k:Int) 3=true:=hY (by omega)
  have ws:=aE (n:=3) (by decide) hk
  have e7:=FM (hst _ (Zg k1))
  have e8:=Bx (hsv _ (Zg k2))
  have hx:=XSite.e.eq_1 w.sites[k]
  have hy:=XServer.e.eq_1 w.servers[k]
  have e9:=BA
  have hb:DQ w k=(!(sZ w.sites[k])||(!(w.sites[k].name==M6[k])|| !(yW w.servers[k]))):=by simp[DQ,k1,k2,k3]
  rw[hb]
  generalize sZ w.sites[k]=b9 at e7⊢
  generalize yW w.servers[k]=b10 at e8⊢
  obtain⟨b11,h9⟩:∃g,(w.sites[k].name==M6[k])=g:=⟨_,rfl⟩
  rw[h9]
  cases b9
  ·simp +contextual (maxSteps:=9999999) [fH,hk,k1,hx,e7,ws,l3,h7,h8]
  cases b11
  ·simp +contextual (maxSteps:=9999999) [fH,hk,k1,k3,hx,e7,e9,h9,xA,ws,l3,h7,h8]
  simp +contextual (maxSteps:=9999999) [fH,hk,k1,k2,k3,hx,hy,e7,e8,e9,h9,xA,ws,l3,h7,h8]
 ·simp(maxSteps:=9999999) [fH,hp,h7,h8,show cQ 3 3=false from rfl]
  refine aC aU Cl.fin [.f,.t,.f,.f,.t,.f,.f,.f,.f,.f,.f,.f,.f,.f,.f,.f,.f,.f,.f,.f,.f,.f,.f,.f,.f,.f,.f,.f,.f,.f,.f,.f,.f,.f,.f,.f,.f,.f,.f,.f,.f,.f,.f,.f,.f,.f,.f,.f,.f,.f,.f,.f,.f,.f,.f,.f,.f,.f,.f,.f,.f,.f,.f,.f,.f,.f,.f,.f,.f,.f,.f,.f,.f,.f,.f,.f,.f,.f,.f,.f,.f,.f,.f,.f,.f,.f,.f,.f,.f,.f,.f,.f,.f,.f,.f,.f,.f,.f,.f,.f,.f,.f,.f,.f,.f,.f,.f,.f,.f,.f,.f,.f,.f,.f,.f,.f,.f,.f,.f,.f,.f,.f,.f,.f,.f,.f] (fun k=>[(4,aa .i64 k)]) w.pages.length (DP w) rfl (by simp) (fun k hk _=> ?_) (fun _ hp=> ?_)
  ·obtain⟨q1,q2⟩:=vQ hpl hk
   have e7:=FL (hpp _ (Zg hk))
   have e8:=xD hsl w.pages[k].site w.pages[k].top
   have hx:=XPage.e.eq_1 w.pages[k]
   have hy:=XPage.e.eq_1 w.pages[k-1]
   have hb:DP w k=(!(sY w.pages[k])||(!(cQ w.pages[k].id w.nextPage)||((cQ 0 k&& !(cQ w.pages[k-1].id w.pages[k].id))||cQ (gu (Rx w.pages[k].site w.pages[k].top) w.storage.buckets) 0))):=by simp[DP,hk,q2]
   rw[hb]
   generalize sY w.pages[k]=b9 at e7⊢
   generalize gu (Rx w.pages[k].site w.pages[k].top) w.storage.buckets=F at e8⊢
   cases b9
   ·simp +contextual (maxSteps:=9999999) [dx,hk,hx,e7,aE hpl hk,aZ hk]
   cases c1:cQ w.pages[k].id w.nextPage
   ·simp +contextual (maxSteps:=9999999) [dx,hk,hx,e7,c1,aE hpl hk,aZ hk]
   cases c2:cQ 0 k
   ·simp +contextual (maxSteps:=9999999) [dx,hk,hx,e7,e8,c1,c2,aE hpl hk,aZ hk]
   have q3:=q1 c2
   simp +contextual (maxSteps:=9999999) [dx,hk,q2,q3,hx,hy,e7,e8,c1,c2,aE hpl hk,aZ hk]
  ·cases b1
   ·simp(maxSteps:=9999999) [dx,hp,e1]
   cases b2
   ·simp(maxSteps:=9999999) [dx,hp,e1,e2]
   cases b3
   ·simp(maxSteps:=9999999) [dx,hp,e1,e2,e3]
   cases b5
   ·simp(maxSteps:=9999999) [dx,hp,e1,e2,e3,e5]
   simp(maxSteps:=9999999) [dx,hp,e1,e2,e3,e5,e6]
end Gi
namespace Gi
open Go Go.RowKit
set_option maxHeartbeats 8000000
set_option maxRecDepth 4000
attribute [local simp] start ai az aK bj cf Opd.ev put V.cells plain bo gn isInt isStr isBool bin bV pC pB un asList L.view am V.view viewL aY ar bQ bM comp aJ bH df bY bz bw bx bG bc ca aN bB aT aO bE cd bD bA bF V.flat L.flat dO di bv putAt thaw thawL thawT freezeVs freezeLs freezeL V.mut L.mut aG aV dA ce dM bO bh wp_seq wp_block py wp_cond wp_skip wp_exit wp_ret cA cy cP cB cW cX cV bX aM L.notArr aS aQ aR eJ bp storeD aX fD br ct bd m9 L.mov L.closed V.closed PV.bare PV.flat
def fJ (b0 b1:AObj)(rows:List (List PV)):Nat→List AObj
 |0=>[b0,b1, .box [.nil]]
 |k+1=>[b0,b1, .box [.arr 3], .darr 24 (rows.take (k+1))]
theorem vP {B:Nat}(hB:B≤1048576){x:XStorage}(h:x.Ok B):ah Ph au 456 [.agg [.pv (.lst (x.buckets.map XBucket.e))]]=some (.agg [nd 24 (x.buckets.map XBucket.e)]):=by
 have h_buckets:=h
 have e1:∀k(hk:k<x.buckets.length),_:=fun k hk=>xl hB (h_buckets.2 _ (Zg hk))
 have hl:x.buckets.length≤1048576:=Zc h_buckets.1 hB
 refine ae (fn:=lI) rfl ?_
 simp[lI]
 refine cO aU Cl.fin x.buckets.length [.f,.f,.t,.t,.f,.f,.f,.f,.t,.t,.t,.f,.f,.f,.f,.f,.f,.f,.f,.f,.f,.f,.f] (fun k=>[(10,aa .i64 k)]) (fJ (.box [.pv (.lst (x.buckets.map XBucket.e))]) (.box [.nil]) (x.buckets.map XBucket.e)) rfl ?_ ?_ ?_
 ·exact Kn.q [0,1,2] (by simp[fJ,aS,aQ,aR,eJ,bp,aW,bm,aF,dz,bL,bf,bS,L.ren,aT])
 ·intro k hk
  have ek:=e1 k hk
  have hx:=XBucket.e.eq_1 x.buckets[k]
  have ht:=cu (e:=XBucket.e) hk
  rw[hx]at ht
  have N0:=eu 2 (x.buckets[k].caches.caches.map XCache.e)
  generalize nd 2 (x.buckets[k].caches.caches.map XCache.e)=n0 at N0 ek
  have N1:=eu 3 (x.buckets[k].disk.base.stores.map XStore.e)
  generalize nd 3 (x.buckets[k].disk.base.stores.map XStore.e)=n1 at N1 ek
  have N2:=eu 4 (x.buckets[k].replica.base.items.map XItem.e)
  generalize nd 4 (x.buckets[k].replica.base.items.map XItem.e)=n2 at N2 ek
  cases k with
  |zero=>
   simp only[fJ,ht]
   rcases N0 with⟨q0,rfl⟩|⟨q0,rfl⟩<;>rcases N1 with⟨q1,rfl⟩|⟨q1,rfl⟩<;>rcases N2 with⟨q2,rfl⟩|⟨q2,rfl⟩
   ·simp only[q0,q1,q2]at ek
    simp[aH,hk,hx,ek,cz,q0,q1,q2]
    exact Kn.q [0,1,2,8]
   ·simp only[q0,q1]at ek
    simp[aH,hk,hx,ek,cz,q0,q1]
    exact Kn.q [0,1,2,9]
   ·simp only[q0,q2]at ek
    simp[aH,hk,hx,ek,cz,q0,q2]
    exact Kn.q [0,1,2,9]
   ·simp only[q0]at ek
    simp[aH,hk,hx,ek,cz,q0]
    exact Kn.q [0,1,2,10]
   ·simp only[q1,q2]at ek
    simp[aH,hk,hx,ek,cz,q1,q2]
    exact Kn.q [0,1,2,9]
   ·simp only[q1]at ek
    simp[aH,hk,hx,ek,cz,q1]
    exact Kn.q [0,1,2,10]
   ·simp only[q2]at ek
    simp[aH,hk,hx,ek,cz,q2]
    exact Kn.q [0,1,2,10]
   ·simp[aH,hk,hx,ek,cz]
    exact Kn.q [0,1,2,11]
  |succ k=>
   obtain⟨i1,i2,i3,i4,i5,i6⟩:=od (n:=x.buckets.length) (by unfold maxLen;omega) hk
   have b1:min (k+1) x.buckets.length=k+1:=by omega
   have m1:=ew (m:=k+1+1) (z:=328) (by omega) (by omega)
   simp only[fJ,ht]
   generalize hT:List.take (k+1) _=T
   have hTl:T.length=k+1:=by rw[←hT];simp;omega
   rcases N0 with⟨q0,rfl⟩|⟨q0,rfl⟩<;>rcases N1 with⟨q1,rfl⟩|⟨q1,rfl⟩<;>rcases N2 with⟨q2,rfl⟩|⟨q2,rfl⟩
   ·simp only[q0,q1,q2]at ek
    simp[aH,hk,hx,ek,i1,i2,i3,i4,i5,i6,hTl,m1,q0,q1,q2]
    exact Kn.q [0,1,2,9]
   ·simp only[q0,q1]at ek
    simp[aH,hk,hx,ek,i1,i2,i3,i4,i5,i6,hTl,m1,q0,q1]
    exact Kn.q [0,1,2,10]
   ·simp only[q0,q2]at ek
    simp[aH,hk,hx,ek,i1,i2,i3,i4,i5,i6,hTl,m1,q0,q2]
    exact Kn.q [0,1,2,10]
   ·simp only[q0]at ek
    simp[aH,hk,hx,ek,i1,i2,i3,i4,i5,i6,hTl,m1,q0]
    exact Kn.q [0,1,2,11]
   ·simp only[q1,q2]at ek
    simp[aH,hk,hx,ek,i1,i2,i3,i4,i5,i6,hTl,m1,q1,q2]
    exact Kn.q [0,1,2,10]
   ·simp only[q1]at ek
    simp[aH,hk,hx,ek,i1,i2,i3,i4,i5,i6,hTl,m1,q1]
    exact Kn.q [0,1,2,11]
   ·simp only[q2]at ek
    simp[aH,hk,hx,ek,i1,i2,i3,i4,i5,i6,hTl,m1,q2]
    exact Kn.q [0,1,2,11]
   ·simp[aH,hk,hx,ek,i1,i2,i3,i4,i5,i6,hTl,m1]
    exact Kn.q [0,1,2,12]
 ·cases hq:x.buckets with
  |nil=>simp[aH,fJ,nd]
  |cons q qs=>
   have hT:(x.buckets.map XBucket.e).take (qs.length+1)=x.buckets.map XBucket.e:=Zt (by rw[hq];simp)
   rw[hq]at hT
   simp only[Zn,fJ,hT]
   simp[aH,nd]
def iM (b0 b1:AObj)(rows:List (List PV)):Nat→List AObj
 |0=>[b0,b1, .box [.nil]]
 |k+1=>[b0,b1, .box [.arr 3], .darr 24 (rows.take (k+1))]
theorem Dq {B:Nat}(hB:B≤1048576){x:XStorage}(h:x.Ok B):ah Ph au 450 [.agg [.pv (.lst (x.buckets.map XBucket.e))]]=some (.agg [nd 24 (x.buckets.map XBucket.e)]):=by
 have h_buckets:=h
 have e1:∀k(hk:k<x.buckets.length),_:=fun k hk=>Dp hB (h_buckets.2 _ (Zg hk))
 have hl:x.buckets.length≤1048576:=Zc h_buckets.1 hB
 refine ae (fn:=p6) rfl ?_
 simp[p6]
 refine cO aU Cl.fin x.buckets.length [.f,.t,.t,.t,.t,.f,.f,.f,.f,.f,.f,.f,.f,.f,.f,.f,.f,.f,.f,.f,.f,.f,.f,.f,.f] (fun k=>[(4,aa .i64 k)]) (iM (.box [.pv (.lst (x.buckets.map XBucket.e))]) (.box [.nil]) (x.buckets.map XBucket.e)) rfl ?_ ?_ ?_
 ·exact Kn.q [0,1,2] (by simp[iM,aS,aQ,aR,eJ,bp,aW,bm,aF,dz,bL,bf,bS,L.ren,aT])
 ·intro k hk
  have ek:=e1 k hk
  have hx:=XBucket.e.eq_1 x.buckets[k]
  have ht:=cu (e:=XBucket.e) hk
  rw[hx]at ht
  have N0:=eu 2 (x.buckets[k].caches.caches.map XCache.e)
  generalize nd 2 (x.buckets[k].caches.caches.map XCache.e)=n0 at N0 ek
  have N1:=eu 3 (x.buckets[k].disk.base.stores.map XStore.e)
  generalize nd 3 (x.buckets[k].disk.base.stores.map XStore.e)=n1 at N1 ek
  have N2:=eu 4 (x.buckets[k].replica.base.items.map XItem.e)
  generalize nd 4 (x.buckets[k].replica.base.items.map XItem.e)=n2 at N2 ek
  cases k with
  |zero=>
   simp only[iM,ht]
   rcases N0 with⟨q0,rfl⟩|⟨q0,rfl⟩<;>rcases N1 with⟨q1,rfl⟩|⟨q1,rfl⟩<;>rcases N2 with⟨q2,rfl⟩|⟨q2,rfl⟩
   ·simp only[q0,q1,q2]at ek
    simp[bg,hk,hx,ek,cz,q0,q1,q2]
    exact Kn.q [0,1,2,7]
   ·simp only[q0,q1]at ek
    simp[bg,hk,hx,ek,cz,q0,q1]
    exact Kn.q [0,1,2,8]
   ·simp only[q0,q2]at ek
    simp[bg,hk,hx,ek,cz,q0,q2]
    exact Kn.q [0,1,2,8]
   ·simp only[q0]at ek
    simp[bg,hk,hx,ek,cz,q0]
    exact Kn.q [0,1,2,9]
   ·simp only[q1,q2]at ek
    simp[bg,hk,hx,ek,cz,q1,q2]
    exact Kn.q [0,1,2,8]
   ·simp only[q1]at ek
    simp[bg,hk,hx,ek,cz,q1]
    exact Kn.q [0,1,2,9]
   ·simp only[q2]at ek
    simp[bg,hk,hx,ek,cz,q2]
    exact Kn.q [0,1,2,9]
   ·simp[bg,hk,hx,ek,cz]
    exact Kn.q [0,1,2,10]
  |succ k=>
   obtain⟨i1,i2,i3,i4,i5,i6⟩:=od (n:=x.buckets.length) (by unfold maxLen;omega) hk
   have b1:min (k+1) x.buckets.length=k+1:=by omega
   have m1:=ew (m:=k+1+1) (z:=328) (by omega) (by omega)
   simp only[iM,ht]
   generalize hT:List.take (k+1) _=T
   have hTl:T.length=k+1:=by rw[←hT];simp;omega
   rcases N0 with⟨q0,rfl⟩|⟨q0,rfl⟩<;>rcases N1 with⟨q1,rfl⟩|⟨q1,rfl⟩<;>rcases N2 with⟨q2,rfl⟩|⟨q2,rfl⟩
   ·simp only[q0,q1,q2]at ek
    simp[bg,hk,hx,ek,i1,i2,i3,i4,i5,i6,hTl,m1,q0,q1,q2]
    exact Kn.q [0,1,2,8]
   ·simp only[q0,q1]at ek
    simp[bg,hk,hx,ek,i1,i2,i3,i4,i5,i6,hTl,m1,q0,q1]
    exact Kn.q [0,1,2,9]
   ·simp only[q0,q2]at ek
    simp[bg,hk,hx,ek,i1,i2,i3,i4,i5,i6,hTl,m1,q0,q2]
    exact Kn.q [0,1,2,9]
   ·simp only[q0]at ek
    simp[bg,hk,hx,ek,i1,i2,i3,i4,i5,i6,hTl,m1,q0]
    exact Kn.q [0,1,2,10]
   ·simp only[q1,q2]at ek
    simp[bg,hk,hx,ek,i1,i2,i3,i4,i5,i6,hTl,m1,q1,q2]
    exact Kn.q [0,1,2,9]
   ·simp only[q1]at ek
    simp[bg,hk,hx,ek,i1,i2,i3,i4,i5,i6,hTl,m1,q1]
    exact Kn.q [0,1,2,10]
   ·simp only[q2]at ek
    simp[bg,hk,hx,ek,i1,i2,i3,i4,i5,i6,hTl,m1,q2]
    exact Kn.q [0,1,2,10]
   ·simp[bg,hk,hx,ek,i1,i2,i3,i4,i5,i6,hTl,m1]
    exact Kn.q [0,1,2,11]
 ·cases hq:x.buckets with
  |nil=>simp[bg,iM,nd]
  |cons q qs=>
   have hT:(x.buckets.map XBucket.e).take (qs.length+1)=x.buckets.map XBucket.e:=Zt (by rw[hq];simp)
   rw[hq]at hT
   simp only[Zn,iM,hT]
   simp[bg,nd]
def UN (rows:List (List PV))(k:Nat):List AObj:=[.darr 11 (rows.take k)]
theorem yU {B:Nat}(hB:B≤1048576){xs:List XPage}(h:xs.length≤B∧∀x∈xs,x.Ok B):ah Ph au 457 [ba (xs.map XPage.e)]=some (.one (.down 11 (xs.map XPage.e))):=by
 have hl:xs.length≤1048576:=Zc h.1 hB
 have e1:∀k(hk:k<xs.length),_:=fun k hk=>Ba hB (h.2 _ (Zg hk))
 refine ae (fn:=ny) rfl ?_
 simp[ny]
 refine cO aU Cl.fin xs.length [.f,.f,.f,.t,.f,.f,.f,.t,.t,.t,.f,.f,.f,.f,.f,.f,.f,.f,.f,.f] (fun k=>[(3, .one (.arr 0)),(9,aa .i64 k)]) (UN (xs.map XPage.e)) rfl ?_ ?_ ?_
 ·exact Kn.q [0] (by simp[UN,aS,aQ,aR,eJ,bp,aW,bm,aF,dz,bL,bf,bS,L.ren,aT])
 ·intro k hk
  have ek:=e1 k hk
  have hx:=XPage.e.eq_1 xs[k]
  have ht:=cu (e:=XPage.e) hk
  rw[hx]at ht
  cases k with
  |zero=>
   simp only[UN,ht]
   simp[gH,hk,hx,ek,cz]
   exact Kn.q [6]
  |succ k=>
   obtain⟨i1,i2,i3,i4,i5,i6⟩:=od (n:=xs.length) (by unfold maxLen;omega) hk
   have m1:=ew (m:=k+1+1) (z:=144) (by omega) (by omega)
   simp only[UN,ht]
   generalize hT:List.take (k+1) _=T
   have hTl:T.length=k+1:=by rw[←hT];simp;omega
   simp[gH,hk,hx,ek,i1,i2,i3,i4,i5,i6,hTl,m1]
   exact Kn.q [6]
 ·have hT:(xs.map XPage.e).take xs.length=xs.map XPage.e:=Zt (by simp)
  simp only[UN,hT]
  simp[gH]
def hw (b0 b1:AObj)(o:L→AObj)(rest:List AObj)(n z:Nat)(rows:List (List PV)):Nat→List AObj
 |0=>b0::b1::o .nil::rest
 |k+1=>b0::b1::o (.arr n)::(rest++[.darr z (rows.take (k+1))])
theorem qJ {B:Nat}(hB:B≤1048576){x:XWorld}(h:x.Ok B):ah Ph au 434 [.agg [.pv (.int .i64 x.now), .pv (.bool x.online), .pv (.int .i64 x.device), .pv (.lst (x.storage.buckets.map XBucket.e)), .pv (.lst (x.pages.map XPage.e)), .pv (.int .i64 x.nextPage), .pv (.lst (x.locks.locks.map XLock.e)), .pv (.lst (x.channel.mails.map XMail.e)), .pv (.lst (x.sites.map XSite.e)), .pv (.lst (x.servers.map XServer.e))]]=some (.agg [.pv (.int .i64 x.now), .pv (.bool x.online), .pv (.int .i64 x.device),nd 24 (x.storage.buckets.map XBucket.e), .down 11 (x.pages.map XPage.e), .pv (.int .i64 x.nextPage), .down 4 (x.locks.locks.map XLock.e), .down 3 (x.channel.mails.map XMail.e),nd 4 (x.sites.map XSite.e),nd 5 (x.servers.map XServer.e)]):=by
 obtain⟨h_now,h_device,h_storage,h_pages,h_nextPage,h_locks,h_channel,h_sites,h_servers⟩:=h
 have c0:=vP hB h_storage
 have c1:=yU hB h_pages
 have c2:=yT hB h_locks
 have c3:=vM hB h_channel
 have e_sites:∀k(hk:k<x.sites.length),_:=fun k hk=>Bb hB (h_sites.2 _ (Zg hk))
 have e_servers:∀k(hk:k<x.servers.length),_:=fun k hk=>xp hB (h_servers.2 _ (Zg hk))
 have hl1:x.sites.length≤1048576:=Zc h_sites.1 hB
 have hl2:x.servers.length≤1048576:=Zc h_servers.1 hB
 clear h_now h_device h_storage h_pages h_nextPage h_locks h_channel h_sites h_servers
 have N:=eu 24 (x.storage.buckets.map XBucket.e)
 generalize nd 24 (x.storage.buckets.map XBucket.e)=n at N c0⊢
 rcases N with⟨-,rfl⟩|⟨-,rfl⟩
 ·refine ae (fn:=iF) rfl ?_
  simp[iF,c0,c1,c2,c3]
  refine cO aU Cl.fin x.sites.length [.f,.t,.t,.t,.f,.f,.f,.f,.f,.f,.f,.f,.f,.f,.f,.f,.f,.f,.f,.f,.f,.f,.f,.f,.f,.f,.f,.t,.t,.t,.f,.f,.f,.f,.f,.f,.f,.f,.f,.f,.f,.f,.f,.f,.f,.f,.f,.f,.f,.f,.f,.f,.f,.f,.f,.f,.f,.f] (fun k=>[(29,aa .i64 k)]) (hw (.box [.pv (.int .i64 x.now), .pv (.bool x.online), .pv (.int .i64 x.device), .pv (.lst (x.storage.buckets.map XBucket.e)), .pv (.lst (x.pages.map XPage.e)), .pv (.int .i64 x.nextPage), .pv (.lst (x.locks.locks.map XLock.e)), .pv (.lst (x.channel.mails.map XMail.e)), .pv (.lst (x.sites.map XSite.e)), .pv (.lst (x.servers.map XServer.e))]) (.box [.pv (.int .i64 0), .pv (.bool false), .pv (.int .i64 0), .nil, .nil, .pv (.int .i64 0), .nil, .nil, .nil, .nil]) (fun c=> .box [.pv (.int .i64 x.now), .pv (.bool x.online), .pv (.int .i64 x.device), .nil, .arr 3, .pv (.int .i64 x.nextPage), .arr 4, .arr 5,c, .pv (.lst (x.servers.map XServer.e))]) [.darr 11 (x.pages.map XPage.e), .darr 4 (x.locks.locks.map XLock.e), .darr 3 (x.channel.mails.map XMail.e)] 6 4 (x.sites.map XSite.e)) rfl ?_ ?_ ?_
  ·exact Kn.q [0,1,2,3,4,5] (by simp[hw,Zf,Zi,aS,aQ,aR,eJ,bp,aW,bm,aF,dz,bL,bf,bS,L.ren,aT])
  ·intro k hk
   have ek:=e_sites k hk
   have hx:=XSite.e.eq_1 x.sites[k]
   have ht:=cu (e:=XSite.e) hk
   rw[hx]at ht
   cases k with
   |zero=>
    simp only[hw,Zf,Zi,ht]
    simp[cK,hk,hx,ek,cz]
    exact Kn.q [0,1,2,3,4,5,9]
   |succ k=>
    obtain⟨i1,i2,i3,i4,i5,i6⟩:=od (n:=x.sites.length) (by unfold maxLen;omega) hk
    have m1:=ew (m:=k+1+1) (z:=56) (by omega) (by omega)
    simp only[hw,Zf,Zi,ht]
    generalize hT:List.take (k+1) _=T
    have hTl:T.length=k+1:=by rw[←hT];simp;omega
    simp[cK,hk,hx,ek,i1,i2,i3,i4,i5,i6,hTl,m1]
    exact Kn.q [0,1,2,3,4,5,10]
  ·cases hq:x.sites with
   |nil=>
    simp only[Z8,hw]
    simp[cK,nd]
    refine cO aU Cl.fin x.servers.length [.f,.f,.t,.t,.f,.f,.f,.f,.f,.f,.f,.f,.f,.f,.f,.f,.f,.f,.f,.f,.f,.f,.f,.f,.f,.f,.f,.f,.f,.f,.f,.f,.f,.f,.f,.f,.f,.f,.f,.f,.f,.f,.f,.t,.t,.t,.f,.f,.f,.f,.f,.f,.f,.f,.f,.f,.f,.f] (fun k=>[(45,aa .i64 k)]) (hw (.box [.pv (.int .i64 x.now), .pv (.bool x.online), .pv (.int .i64 x.device), .pv (.lst (x.storage.buckets.map XBucket.e)), .pv (.lst (x.pages.map XPage.e)), .pv (.int .i64 x.nextPage), .pv (.lst (x.locks.locks.map XLock.e)), .pv (.lst (x.channel.mails.map XMail.e)), .pv (.lst []), .pv (.lst (x.servers.map XServer.e))]) (.box [.pv (.int .i64 0), .pv (.bool false), .pv (.int .i64 0), .nil, .nil, .pv (.int .i64 0), .nil, .nil, .nil, .nil]) (fun c=> .box [.pv (.int .i64 x.now), .pv (.bool x.online), .pv (.int .i64 x.device), .nil, .arr 3, .pv (.int .i64 x.nextPage), .arr 4, .arr 5, .nil,c]) [.darr 11 (x.pages.map XPage.e), .darr 4 (x.locks.locks.map XLock.e), .darr 3 (x.channel.mails.map XMail.e)] 6 5 (x.servers.map XServer.e)) rfl ?_ ?_ ?_
    ·exact Kn.q [0,1,2,3,4,5] (by simp[hw,Zf,Zi,aS,aQ,aR,eJ,bp,aW,bm,aF,dz,bL,bf,bS,L.ren,aT])
    ·intro k hk
     have ek:=e_servers k hk
     have hx:=XServer.e.eq_1 x.servers[k]
     have ht:=cu (e:=XServer.e) hk
     rw[hx]at ht
     have N0:=eu 4 (x.servers[k].store.items.map XItem.e)
     generalize nd 4 (x.servers[k].store.items.map XItem.e)=n0 at N0 ek
     cases k with
     |zero=>
      simp only[hw,Zf,Zi,ht]
      rcases N0 with⟨q0,rfl⟩|⟨q0,rfl⟩
      ·simp only[q0]at ek
       simp[aA,hk,hx,ek,cz,q0]
       exact Kn.q [0,1,2,3,4,5,10]
      ·simp[aA,hk,hx,ek,cz]
       exact Kn.q [0,1,2,3,4,5,11]
     |succ k=>
      obtain⟨i1,i2,i3,i4,i5,i6⟩:=od (n:=x.servers.length) (by unfold maxLen;omega) hk
      have m1:=ew (m:=k+1+1) (z:=96) (by omega) (by omega)
      simp only[hw,Zf,Zi,ht]
      generalize hT:List.take (k+1) _=T
      have hTl:T.length=k+1:=by rw[←hT];simp;omega
      rcases N0 with⟨q0,rfl⟩|⟨q0,rfl⟩
      ·simp only[q0]at ek
       simp[aA,hk,hx,ek,i1,i2,i3,i4,i5,i6,hTl,m1,q0]
       exact Kn.q [0,1,2,3,4,5,11]
      ·simp[aA,hk,hx,ek,i1,i2,i3,i4,i5,i6,hTl,m1]
       exact Kn.q [0,1,2,3,4,5,12]
    ·cases hq2:x.servers with
     |nil=>simp[aA,hw,nd]
     |cons u us=>
      have hT2:(x.servers.map XServer.e).take (us.length+1)=x.servers.map XServer.e:=Zt (by rw[hq2];simp)
      rw[hq2]at hT2
      simp only[Zn,hw,hT2,Zf,Zi]
      simp[aA,nd]
   |cons q qs=>
    have hT:(x.sites.map XSite.e).take (qs.length+1)=x.sites.map XSite.e:=Zt (by rw[hq];simp)
    rw[hq]at hT
    simp only[Zn,hw,hT,Zf,Zi]
    simp[cK,nd]
    refine cO aU Cl.fin x.servers.length [.f,.f,.t,.t,.f,.f,.f,.f,.f,.f,.f,.f,.f,.f,.f,.f,.f,.f,.f,.f,.f,.f,.f,.f,.f,.f,.f,.f,.f,.f,.f,.f,.f,.f,.f,.f,.f,.f,.f,.f,.f,.f,.f,.t,.t,.t,.f,.f,.f,.f,.f,.f,.f,.f,.f,.f,.f,.f] (fun k=>[(45,aa .i64 k)]) (hw (.box [.pv (.int .i64 x.now), .pv (.bool x.online), .pv (.int .i64 x.device), .pv (.lst (x.storage.buckets.map XBucket.e)), .pv (.lst (x.pages.map XPage.e)), .pv (.int .i64 x.nextPage), .pv (.lst (x.locks.locks.map XLock.e)), .pv (.lst (x.channel.mails.map XMail.e)), .pv (.lst (XSite.e q::qs.map XSite.e)), .pv (.lst (x.servers.map XServer.e))]) (.box [.pv (.int .i64 0), .pv (.bool false), .pv (.int .i64 0), .nil, .nil, .pv (.int .i64 0), .nil, .nil, .nil, .nil]) (fun c=> .box [.pv (.int .i64 x.now), .pv (.bool x.online), .pv (.int .i64 x.device), .nil, .arr 3, .pv (.int .i64 x.nextPage), .arr 4, .arr 5, .arr 6,c]) [.darr 11 (x.pages.map XPage.e), .darr 4 (x.locks.locks.map XLock.e), .darr 3 (x.channel.mails.map XMail.e), .darr 4 (XSite.e q::qs.map XSite.e)] 7 5 (x.servers.map XServer.e)) rfl ?_ ?_ ?_
    ·exact Kn.q [0,1,2,3,4,5,6] (by simp[hw,Zf,Zi,aS,aQ,aR,eJ,bp,aW,bm,aF,dz,bL,bf,bS,L.ren,aT])
    ·intro k hk
     have ek:=e_servers k hk
     have hx:=XServer.e.eq_1 x.servers[k]
     have ht:=cu (e:=XServer.e) hk
     rw[hx]at ht
     have N0:=eu 4 (x.servers[k].store.items.map XItem.e)
     generalize nd 4 (x.servers[k].store.items.map XItem.e)=n0 at N0 ek
     cases k with
     |zero=>
      simp only[hw,Zf,Zi,ht]
      rcases N0 with⟨q0,rfl⟩|⟨q0,rfl⟩
      ·simp only[q0]at ek
       simp[aA,hk,hx,ek,cz,q0]
       exact Kn.q [0,1,2,3,4,5,6,11]
      ·simp[aA,hk,hx,ek,cz]
       exact Kn.q [0,1,2,3,4,5,6,12]
     |succ k=>
      obtain⟨i1,i2,i3,i4,i5,i6⟩:=od (n:=x.servers.length) (by unfold maxLen;omega) hk
      have m1:=ew (m:=k+1+1) (z:=96) (by omega) (by omega)
      simp only[hw,Zf,Zi,ht]
      generalize hT:List.take (k+1) _=T
      have hTl:T.length=k+1:=by rw[←hT];simp;omega
      rcases N0 with⟨q0,rfl⟩|⟨q0,rfl⟩
      ·simp only[q0]at ek
       simp[aA,hk,hx,ek,i1,i2,i3,i4,i5,i6,hTl,m1,q0]
       exact Kn.q [0,1,2,3,4,5,6,12]
      ·simp[aA,hk,hx,ek,i1,i2,i3,i4,i5,i6,hTl,m1]
       exact Kn.q [0,1,2,3,4,5,6,13]
    ·cases hq2:x.servers with
     |nil=>simp[aA,hw,nd]
     |cons u us=>
      have hT2:(x.servers.map XServer.e).take (us.length+1)=x.servers.map XServer.e:=Zt (by rw[hq2];simp)
      rw[hq2]at hT2
      simp only[Zn,hw,hT2,Zf,Zi]
      simp[aA,nd]
 ·refine ae (fn:=iF) rfl ?_
  simp[iF,c0,c1,c2,c3]
  refine cO aU Cl.fin x.sites.length [.f,.t,.t,.t,.f,.f,.f,.f,.f,.f,.f,.f,.f,.f,.f,.f,.f,.f,.f,.f,.f,.f,.f,.f,.f,.f,.f,.t,.t,.t,.f,.f,.f,.f,.f,.f,.f,.f,.f,.f,.f,.f,.f,.f,.f,.f,.f,.f,.f,.f,.f,.f,.f,.f,.f,.f,.f,.f] (fun k=>[(29,aa .i64 k)]) (hw (.box [.pv (.int .i64 x.now), .pv (.bool x.online), .pv (.int .i64 x.device), .pv (.lst (x.storage.buckets.map XBucket.e)), .pv (.lst (x.pages.map XPage.e)), .pv (.int .i64 x.nextPage), .pv (.lst (x.locks.locks.map XLock.e)), .pv (.lst (x.channel.mails.map XMail.e)), .pv (.lst (x.sites.map XSite.e)), .pv (.lst (x.servers.map XServer.e))]) (.box [.pv (.int .i64 0), .pv (.bool false), .pv (.int .i64 0), .nil, .nil, .pv (.int .i64 0), .nil, .nil, .nil, .nil]) (fun c=> .box [.pv (.int .i64 x.now), .pv (.bool x.online), .pv (.int .i64 x.device), .arr 3, .arr 4, .pv (.int .i64 x.nextPage), .arr 5, .arr 6,c, .pv (.lst (x.servers.map XServer.e))]) [.darr 24 (x.storage.buckets.map XBucket.e), .darr 11 (x.pages.map XPage.e), .darr 4 (x.locks.locks.map XLock.e), .darr 3 (x.channel.mails.map XMail.e)] 7 4 (x.sites.map XSite.e)) rfl ?_ ?_ ?_
  ·exact Kn.q [0,1,2,3,4,5,6] (by simp[hw,Zf,Zi,aS,aQ,aR,eJ,bp,aW,bm,aF,dz,bL,bf,bS,L.ren,aT])
  ·intro k hk
   have ek:=e_sites k hk
   have hx:=XSite.e.eq_1 x.sites[k]
   have ht:=cu (e:=XSite.e) hk
   rw[hx]at ht
   cases k with
   |zero=>
    simp only[hw,Zf,Zi,ht]
    simp[cK,hk,hx,ek,cz]
    exact Kn.q [0,1,2,3,4,5,6,10]
   |succ k=>
    obtain⟨i1,i2,i3,i4,i5,i6⟩:=od (n:=x.sites.length) (by unfold maxLen;omega) hk
    have m1:=ew (m:=k+1+1) (z:=56) (by omega) (by omega)
    simp only[hw,Zf,Zi,ht]
    generalize hT:List.take (k+1) _=T
    have hTl:T.length=k+1:=by rw[←hT];simp;omega
    simp[cK,hk,hx,ek,i1,i2,i3,i4,i5,i6,hTl,m1]
    exact Kn.q [0,1,2,3,4,5,6,11]
  ·cases hq:x.sites with
   |nil=>
    simp only[Z8,hw]
    simp[cK,nd]
    refine cO aU Cl.fin x.servers.length [.f,.f,.t,.t,.f,.f,.f,.f,.f,.f,.f,.f,.f,.f,.f,.f,.f,.f,.f,.f,.f,.f,.f,.f,.f,.f,.f,.f,.f,.f,.f,.f,.f,.f,.f,.f,.f,.f,.f,.f,.f,.f,.f,.t,.t,.t,.f,.f,.f,.f,.f,.f,.f,.f,.f,.f,.f,.f] (fun k=>[(45,aa .i64 k)]) (hw (.box [.pv (.int .i64 x.now), .pv (.bool x.online), .pv (.int .i64 x.device), .pv (.lst (x.storage.buckets.map XBucket.e)), .pv (.lst (x.pages.map XPage.e)), .pv (.int .i64 x.nextPage), .pv (.lst (x.locks.locks.map XLock.e)), .pv (.lst (x.channel.mails.map XMail.e)), .pv (.lst []), .pv (.lst (x.servers.map XServer.e))]) (.box [.pv (.int .i64 0), .pv (.bool false), .pv (.int .i64 0), .nil, .nil, .pv (.int .i64 0), .nil, .nil, .nil, .nil]) (fun c=> .box [.pv (.int .i64 x.now), .pv (.bool x.online), .pv (.int .i64 x.device), .arr 3, .arr 4, .pv (.int .i64 x.nextPage), .arr 5, .arr 6, .nil,c]) [.darr 24 (x.storage.buckets.map XBucket.e), .darr 11 (x.pages.map XPage.e), .darr 4 (x.locks.locks.map XLock.e), .darr 3 (x.channel.mails.map XMail.e)] 7 5 (x.servers.map XServer.e)) rfl ?_ ?_ ?_
    ·exact Kn.q [0,1,2,3,4,5,6] (by simp[hw,Zf,Zi,aS,aQ,aR,eJ,bp,aW,bm,aF,dz,bL,bf,bS,L.ren,aT])
    ·intro k hk
     have ek:=e_servers k hk
     have hx:=XServer.e.eq_1 x.servers[k]
     have ht:=cu (e:=XServer.e) hk
     rw[hx]at ht
     have N0:=eu 4 (x.servers[k].store.items.map XItem.e)
     generalize nd 4 (x.servers[k].store.items.map XItem.e)=n0 at N0 ek
     cases k with
     |zero=>
      simp only[hw,Zf,Zi,ht]
      rcases N0 with⟨q0,rfl⟩|⟨q0,rfl⟩
      ·simp only[q0]at ek
       simp[aA,hk,hx,ek,cz,q0]
       exact Kn.q [0,1,2,3,4,5,6,11]
      ·simp[aA,hk,hx,ek,cz]
       exact Kn.q [0,1,2,3,4,5,6,12]
     |succ k=>
      obtain⟨i1,i2,i3,i4,i5,i6⟩:=od (n:=x.servers.length) (by unfold maxLen;omega) hk
      have m1:=ew (m:=k+1+1) (z:=96) (by omega) (by omega)
      simp only[hw,Zf,Zi,ht]
      generalize hT:List.take (k+1) _=T
      have hTl:T.length=k+1:=by rw[←hT];simp;omega
      rcases N0 with⟨q0,rfl⟩|⟨q0,rfl⟩
      ·simp only[q0]at ek
       simp[aA,hk,hx,ek,i1,i2,i3,i4,i5,i6,hTl,m1,q0]
       exact Kn.q [0,1,2,3,4,5,6,12]
      ·simp[aA,hk,hx,ek,i1,i2,i3,i4,i5,i6,hTl,m1]
       exact Kn.q [0,1,2,3,4,5,6,13]
    ·cases hq2:x.servers with
     |nil=>simp[aA,hw,nd]
     |cons u us=>
      have hT2:(x.servers.map XServer.e).take (us.length+1)=x.servers.map XServer.e:=Zt (by rw[hq2];simp)
      rw[hq2]at hT2
      simp only[Zn,hw,hT2,Zf,Zi]
      simp[aA,nd]
   |cons q qs=>
    have hT:(x.sites.map XSite.e).take (qs.length+1)=x.sites.map XSite.e:=Zt (by rw[hq];simp)
    rw[hq]at hT
    simp only[Zn,hw,hT,Zf,Zi]
    simp[cK,nd]
    refine cO aU Cl.fin x.servers.length [.f,.f,.t,.t,.f,.f,.f,.f,.f,.f,.f,.f,.f,.f,.f,.f,.f,.f,.f,.f,.f,.f,.f,.f,.f,.f,.f,.f,.f,.f,.f,.f,.f,.f,.f,.f,.f,.f,.f,.f,.f,.f,.f,.t,.t,.t,.f,.f,.f,.f,.f,.f,.f,.f,.f,.f,.f,.f] (fun k=>[(45,aa .i64 k)]) (hw (.box [.pv (.int .i64 x.now), .pv (.bool x.online), .pv (.int .i64 x.device), .pv (.lst (x.storage.buckets.map XBucket.e)), .pv (.lst (x.pages.map XPage.e)), .pv (.int .i64 x.nextPage), .pv (.lst (x.locks.locks.map XLock.e)), .pv (.lst (x.channel.mails.map XMail.e)), .pv (.lst (XSite.e q::qs.map XSite.e)), .pv (.lst (x.servers.map XServer.e))]) (.box [.pv (.int .i64 0), .pv (.bool false), .pv (.int .i64 0), .nil, .nil, .pv (.int .i64 0), .nil, .nil, .nil, .nil]) (fun c=> .box [.pv (.int .i64 x.now), .pv (.bool x.online), .pv (.int .i64 x.device), .arr 3, .arr 4, .pv (.int .i64 x.nextPage), .arr 5, .arr 6, .arr 7,c]) [.darr 24 (x.storage.buckets.map XBucket.e), .darr 11 (x.pages.map XPage.e), .darr 4 (x.locks.locks.map XLock.e), .darr 3 (x.channel.mails.map XMail.e), .darr 4 (XSite.e q::qs.map XSite.e)] 8 5 (x.servers.map XServer.e)) rfl ?_ ?_ ?_
    ·exact Kn.q [0,1,2,3,4,5,6,7] (by simp[hw,Zf,Zi,aS,aQ,aR,eJ,bp,aW,bm,aF,dz,bL,bf,bS,L.ren,aT])
    ·intro k hk
     have ek:=e_servers k hk
     have hx:=XServer.e.eq_1 x.servers[k]
     have ht:=cu (e:=XServer.e) hk
     rw[hx]at ht
     have N0:=eu 4 (x.servers[k].store.items.map XItem.e)
     generalize nd 4 (x.servers[k].store.items.map XItem.e)=n0 at N0 ek
     cases k with
     |zero=>
      simp only[hw,Zf,Zi,ht]
      rcases N0 with⟨q0,rfl⟩|⟨q0,rfl⟩
      ·simp only[q0]at ek
       simp[aA,hk,hx,ek,cz,q0]
       exact Kn.q [0,1,2,3,4,5,6,7,12]
      ·simp[aA,hk,hx,ek,cz]
       exact Kn.q [0,1,2,3,4,5,6,7,13]
     |succ k=>
      obtain⟨i1,i2,i3,i4,i5,i6⟩:=od (n:=x.servers.length) (by unfold maxLen;omega) hk
      have m1:=ew (m:=k+1+1) (z:=96) (by omega) (by omega)
      simp only[hw,Zf,Zi,ht]
      generalize hT:List.take (k+1) _=T
      have hTl:T.length=k+1:=by rw[←hT];simp;omega
      rcases N0 with⟨q0,rfl⟩|⟨q0,rfl⟩
      ·simp only[q0]at ek
       simp[aA,hk,hx,ek,i1,i2,i3,i4,i5,i6,hTl,m1,q0]
       exact Kn.q [0,1,2,3,4,5,6,7,13]
      ·simp[aA,hk,hx,ek,i1,i2,i3,i4,i5,i6,hTl,m1]
       exact Kn.q [0,1,2,3,4,5,6,7,14]
    ·cases hq2:x.servers with
     |nil=>simp[aA,hw,nd]
     |cons u us=>
      have hT2:(x.servers.map XServer.e).take (us.length+1)=x.servers.map XServer.e:=Zt (by rw[hq2];simp)
      rw[hq2]at hT2
      simp only[Zn,hw,hT2,Zf,Zi]
      simp[aA,nd]
end Gi
