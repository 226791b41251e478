/- Of this proof. -/
import Derived.Test.YtebnmoogdmpepaaGreatGsm
set_option linter.unusedSimpArgs false
set_option linter.unusedVariables false
namespace Gi
open Go
def Mf :L→Bool
 | .pv _=>true
 | .nil=>true
 |_=>false
def AOp.zOk :AOp→Bool
 | .alloc z=>z.all Mf
 | .build z _=>z.all Mf
 | .storeZ _ _ _=>false
 | .callZ _ _=>false
 | .callM _ _ _=>false
 | .lenZ _=>false
 | .indexZ _ _ _=>false
 | .loadZ _ _ _=>false
 | .callF _ _=>false
 | .allocW z=>z.all Mf
 | .allocAt _ _=>false
 | .boxW _ _=>false
 | .slcW _ _ _ _=>false
 | .delW _ _ _ _=>false
 | .delR _ _ _ _ _=>false
 |_=>true
def ACode.zOk :ACode→Bool
 | .region ops=>ops.all fun o=>o.op.zOk
 | .seq a b=>a.zOk&&b.zOk
 | .cond _ a b=>a.zOk&&b.zOk
 | .block _ c=>c.zOk
 | .loop c=>c.zOk
 |_=>true
def qv (call:Nat→List V→Option V):Prop:=∀k xz r,call k xz=some r→r.clean=true
section
variable {f:List Nat}{h h':List AObj}{σ τ:St}{call:Nat→List V→Option V}
theorem DB :∀{ls:List L},ls.all Mf=true→aF f ls ls
 |[],_=>trivial
 |l::ls,hc=>by
  simp only[Zq,Zm]at hc
  refine⟨.inr ?_,DB hc.2⟩
  cases l with
  |pv p=>rfl
  |nil=>rfl
  |_=>exact absurd hc.1 (by simp[Mf])
theorem P6 {l l':L}(e:l.ren f=some l'):plain l'=plain l:=by
 cases l with
 |ptr o i j=>obtain⟨o',_,rfl⟩:=gv e;rfl
 |arr o=>obtain⟨o',_,rfl⟩:=fQ e;rfl
 |sub o c=>obtain⟨o',_,rfl⟩:=pg e;rfl
 |win o l q=>cases e
 |_=>simp only[L.ren]at e;cases e;rfl
theorem aF.plain :∀{ls ls':List L},aF f ls ls'→ls.all Gi.plain=true→ls'.all Gi.plain=true
 |[],[],_,_=>rfl
 |l::ls,l'::ls',r,e=>by
  simp only[Zq,Zm]at e⊢
  refine⟨?_,aF.plain r.2 e.2⟩
  rcases r.1 with q|q
  ·subst q;exact absurd e.1 (by simp[Gi.plain])
  ·rw[P6 q];exact e.1
 |[],_::_,e,_=>e.elim
 |_::_,[],e,_=>e.elim
theorem bm.plain {v v':V}(r:bm f v v')(e:v.cells.all Gi.plain=true):aF f v.cells v'.cells∧v'.cells.all Gi.plain=true:=by
 cases v with
 |one l=>
  rcases r with q|⟨l',rfl,r⟩
  ·subst q;exact absurd e (by simp[V.cells,Gi.plain])
  ·have:aF f [l] [l']:=⟨.inr r,trivial⟩
   exact⟨this,this.plain e⟩
 |agg ls=>obtain⟨ls',rfl,r⟩:=r;exact⟨r,r.plain e⟩
 |tup xs=>exact absurd e (by simp[V.cells,Gi.plain])
theorem bm.viewL (k:HRel f h h'){v v':V}{ps:List PV}(r:bm f v v')(e:Gi.viewL h v.cells=some ps):eW f v.cells v'.cells∧Gi.viewL h' v'.cells=some ps:=by
 cases v with
 |one l=>
  rcases r with rfl|⟨l',rfl,r1⟩
  ·cases e
  ·obtain⟨a1,a2,_⟩:=(show aF f [l] [l']from⟨.inr r1,trivial⟩).view k e
   exact⟨a1,a2⟩
 |agg ls=>
  obtain⟨ls',rfl,r1⟩:=r
  obtain⟨a1,a2,_⟩:=r1.view k e
  exact⟨a1,a2⟩
 |tup xs=>cases e
theorem eW.length {ls ls':List L}(r:eW f ls ls'):ls.length=ls'.length:=r.rel.length
theorem eW.notArr (k:HRel f h h'){o o':Nat}(ho:f[o]? =some o'):∀{ls ls':List L},eW f ls ls'→ls.all (L.notArr o)=true→ls'.all (L.notArr o')=true
 |[],[],_,_=>rfl
 |l::ls,l'::ls',r,e=>by
  simp only[Zq,Zm]at e⊢
  refine⟨?_,eW.notArr k ho r.2 e.2⟩
  have r1:=r.1
  cases l with
  |arr p=>
   obtain⟨p',h1,rfl⟩:=fQ r1
   have e1:=e.1
   simp only[L.notArr,Yk,beq_eq_false_iff_ne]at e1⊢
   intro q
   subst q
   exact e1 (k.inj h1 ho)
  |ptr p i j=>obtain⟨p',h1,rfl⟩:=gv r1;rfl
  |sub p c=>obtain⟨p',h1,rfl⟩:=pg r1;rfl
  |win p l q=>cases r1
  |_=>simp only[L.ren]at r1;cases r1;rfl
 |[],_::_,e,_=>e.elim
 |_::_,[],e,_=>e.elim
theorem pj (s:Cln f σ τ){d n:Int}{o:Option Opd}(e:bh σ d o=some n):bh τ d o=some n:=by
 cases o with
 |none=>exact e
 |some x=>
  simp only[bh]at e⊢
  split at e
  ·rename_i k m h1
   cases e
   rw[(s.ev x).isInt h1]
  ·cases e
theorem HL (s:Cln f σ τ):∀{ps:List (Nat×Nat×Opd)}{cs cs' ds:List L},aF f cs cs'→dA cs (ps.map fun x=>(x.1,x.2.1,x.2.2.ev σ))=some ds→∃ds',dA cs' (ps.map fun x=>(x.1,x.2.1,x.2.2.ev τ))=some ds'∧aF f ds ds'
 |[],cs,cs',ds,r,e=>by simp only[Yb,dA]at e⊢;cases e;exact⟨_,rfl,r⟩
 |(off,n,x)::ps,cs,cs',ds,r,e=>by
  simp only[Zv,dA]at e⊢
  split at e
  ·rename_i h1
   obtain⟨a1,a2⟩:=(s.ev x).plain h1.2.2
   rw[if_pos ⟨a1.length▸h1.1,by rw[←r.length];exact h1.2.1,a2⟩]
   exact HL s (r.putAt off a1) e
  ·cases e
theorem wA :∀{ls ls':List L}{e:List PV},aF f ls ls'→ce ls=some e→ce ls'=some e
 |[],[],e,_,h=>h
 |l::ls,l'::ls',e,r,h=>by
  cases l with
  |pv p=>
   simp only[ce]at h
   split at h
   ·rename_i ps h1
    have r1:=r.1
    rcases r1 with q|q
    ·cases q
    ·simp only[L.ren]at q
     cases q
     simp only[ce,wA r.2 h1]
     exact h
   ·cases h
  |_=>cases h
 |[],_::_,_,r,_=>r.elim
 |_::_,[],_,r,_=>r.elim
theorem H3 (s:Cln f σ τ):∀(ps:List Opd){es:List (List PV)},dM (ps.map (Opd.ev σ))=some es→dM (ps.map (Opd.ev τ))=some es
 |[],es,h=>h
 |x::ps,es,h=>by
  simp only[Zv,dM]at h⊢
  split at h
  ·rename_i e es' h1 h2
   cases h
   have r:=s.ev x
   have hx:ce (x.ev τ).cells=some e:=by
    cases hv:x.ev σ with
    |one l=>
     rw[hv]at h1 r
     rcases r with q|⟨l',h3,r⟩
     ·subst q;cases h1
     ·rw[h3]
      exact wA (show aF f [l] [l']from⟨.inr r,trivial⟩) h1
    |agg ls=>
     rw[hv]at h1 r
     obtain⟨ls',h3,r⟩:=r
     rw[h3]
     exact wA r h1
    |tup xs=>rw[hv]at h1;cases h1
   rw[hx,H3 s ps h2]
  ·cases h
theorem HQ (s:Cln f σ τ){a:Opd}(hq:bO σ.h (a.ev σ)=true):bO τ.h (a.ev τ)=true:=by
 have r:=s.ev a
 unfold bO at hq
 split at hq
 ·rename_i o i j h1
  rw[h1]at r
  rcases r with q|⟨l',h2,r⟩
  ·cases q
  obtain⟨o',h3,rfl⟩:=gv r
  rw[h2]
  obtain⟨ob,ob',h4,h5,h6⟩:=s.heap.get h3
  rw[h4]at hq
  simp only[bO,h5]
  cases ob with
  |box cs=>obtain⟨cs',rfl,_⟩:=h6;rfl
  |fbox ps=>rw[aI h6 (by simp) (by simp)]
  |_=>cases hq
 ·rename_i e' j' h1
  rw[h1]at r
  rcases r with q|⟨l',h2,r⟩
  ·cases q
  ·simp only[L.ren]at r
   cases r
   rw[h2];rfl
 ·cases hq
theorem Ml (s:Cln f σ τ){a b:Opd}(hq:zR (a.ev σ) (b.ev σ)=true):zR (a.ev τ) (b.ev τ)=true:=by
 have ra:=s.ev a
 have rb:=s.ev b
 unfold zR at hq
 split at hq
 ·rename_i o i j o2 i2 j2 h1 h2
  rw[h1]at ra
  rw[h2]at rb
  rcases ra with q|⟨l',h3,ra⟩
  ·cases q
  obtain⟨o',h4,rfl⟩:=gv ra
  rcases rb with q|⟨l',h5,rb⟩
  ·cases q
  obtain⟨o2',h6,rfl⟩:=gv rb
  rw[h3,h5]
  simp only[zR,Yk,beq_eq_false_iff_ne]at hq⊢
  exact fun e=>by subst e;exact hq (s.heap.inj h4 h6)
 ·rename_i e j o2 i2 j2 h1 h2
  rw[h1]at ra
  rw[h2]at rb
  rcases ra with q|⟨l',h3,ra⟩
  ·cases q
  simp only[L.ren]at ra
  cases ra
  rcases rb with q|⟨l',h5,rb⟩
  ·cases q
  obtain⟨o2',h6,rfl⟩:=gv rb
  rw[h3,h5]
  rfl
 ·cases hq
theorem qF (s:Cln f σ τ){g:Bool}{n:Nat}{a:Opd}{v:V}(e:bo σ.h g n (a.ev σ)=some v):∃v',bj call τ (.load g n a)=some v'∧bm f v v':=by
 simp only[bj]
 unfold bo at e⊢
 have r:=s.ev a
 split at e
 ·rename_i o i j h1
  rw[h1]at r
  rcases r with q|⟨l',h2,r⟩
  ·cases q
  obtain⟨o',h3,rfl⟩:=gv r
  rw[h2]
  obtain⟨ob,ob',h4,h5,h6⟩:=s.heap.get h3
  simp only[h4]at e
  simp only[h5]
  cases ob with
  |box cs=>
   obtain⟨cs',rfl,h6⟩:=h6
   simp only at e⊢
   split at e
   ·rename_i hi
    rw[if_pos hi]
    exact sI h6 e
   ·cases e
  |arr z es=>
   rw[aI h6 (by simp) (by simp)]
   simp only at e⊢
   split at e
   ·rename_i e0 he
    exact sI (sj e0) e
   ·cases e
  |froz z es=>
   rw[aI h6 (by simp) (by simp)]
   simp only at e⊢
   split at e
   ·rename_i e0 he
    exact sI (sj e0) e
   ·cases e
  |darr z es=>
   rw[aI h6 (by simp) (by simp)]
   simp only at e⊢
   split at e
   ·rename_i e0 he
    exact sI (sj e0) e
   ·cases e
  |fbox ps=>
   rw[aI h6 (by simp) (by simp)]
   simp only at e⊢
   split at e
   ·rename_i hi
    rw[if_pos hi]
    exact sI (sj ps) e
   ·cases e
  |_=>cases e
 ·rename_i e0 j h1
  rw[h1]at r
  rcases r with q|⟨l',h2,r⟩
  ·cases q
  simp only[L.ren]at r
  cases r
  rw[h2]
  exact sI (sj e0) e
 ·cases e
theorem N5 (s:Cln f σ τ)(hc:qv call){op:AOp}{v:V}(hz:op.zOk=true)(e:bj call σ op=some v):∃v',bj call τ op=some v'∧bm f v v':=by
 cases op with
 |mv x=>simp only[bj]at e⊢;cases e;exact⟨_,rfl,s.ev x⟩
 |pick c a b=>
  simp only[bj]at e⊢
  split at e
  ·rename_i t h1
   rw[(s.ev c).isBool h1]
   cases e
   refine⟨_,rfl,?_⟩
   cases t
   ·exact s.ev b
   ·exact s.ev a
  ·cases e
 |load g n a=>exact qF s e
 |build zero parts=>
  simp only[bj]at e⊢
  split at e
  ·rename_i cs h1
   cases e
   obtain⟨ds',h2,h3⟩:=HL s (DB hz) h1
   rw[h2]
   exact⟨_,rfl,_,rfl,h3⟩
  ·cases e
 |bin op x y=>
  simp only[bj]at e⊢
  obtain⟨p,q,r,h1,h2,rfl⟩:=TU e
  have r1:=s.ev x
  have r2:=s.ev y
  rw[h1]at r1 e
  rw[h2]at r2 e
  rw[pf r1,pf r2]
  exact⟨_,e,bm.pv r⟩
 |eqB neg x y=>
  simp only[bj]at e⊢
  split at e
  ·rename_i a b h1 h2
   cases e
   rw[(s.ev x).isBool h1,(s.ev y).isBool h2]
   exact⟨_,rfl,bm.pv _⟩
  ·cases e
 |un op x=>
  simp only[bj]at e⊢
  obtain⟨p,r,h1,rfl⟩:=UW e
  have r1:=s.ev x
  rw[h1]at r1 e
  rw[pf r1]
  exact⟨_,e,bm.pv r⟩
 |conv k x=>
  simp only[bj]at e⊢
  split at e
  ·rename_i k' n h1
   cases e
   rw[(s.ev x).isInt h1]
   exact⟨_,rfl,bm.pv _⟩
  ·cases e
 |b2s x=>
  simp only[bj]at e⊢
  split at e
  ·rename_i es h1
   rw[((s.ev x).asList s.heap h1).1]
   simp only
   split at e
   ·rename_i t h2
    cases e
    exact⟨_,rfl,bm.pv _⟩
   ·cases e
  ·cases e
 |slcS x lo hi=>
  simp only[bj]at e⊢
  split at e
  ·rename_i t h1
   rw[(s.ev x).isStr h1]
   simp only
   split at e
   ·rename_i l r h2 h3
    rw[pj s h2,pj s h3]
    simp only
    split at e
    ·rename_i h4
     cases e
     rw[if_pos h4]
     exact⟨_,rfl,bm.pv _⟩
    ·cases e
   ·cases e
  ·cases e
 |fieldA x off=>
  simp only[bj]at e⊢
  have r:=s.ev x
  split at e
  ·rename_i o i j h1
   rw[h1]at r
   rcases r with q|⟨l',h2,r⟩
   ·cases q
   obtain⟨o',h3,rfl⟩:=gv r
   rw[h2]
   cases e
   exact⟨_,rfl, .inr ⟨_,rfl,by simp only[L.ren,h3]⟩⟩
  ·rename_i e0 j h1
   rw[h1]at r
   rcases r with q|⟨l',h2,r⟩
   ·cases q
   simp only[L.ren]at r
   cases r
   rw[h2]
   cases e
   exact⟨_,rfl, .inr ⟨_,rfl,rfl⟩⟩
  ·cases e
 |field x g off n=>
  simp only[bj]at e⊢
  have r:=s.ev x
  split at e
  ·rename_i ls h1
   rw[h1]at r
   obtain⟨ls',h2,r⟩:=r
   rw[h2]
   exact sI r e
  ·cases e
 |indexA z x i=>
  simp only[bj]at e⊢
  split at e
  ·rename_i k n h1
   rw[(s.ev i).isInt h1]
   simp only
   split at e
   ·rename_i hn
    rw[if_pos hn]
    have r:=s.ev x
    unfold aG at e⊢
    split at e
    ·rename_i o h2
     rw[h2]at r
     rcases r with q|⟨l',h3,r⟩
     ·cases q
     obtain⟨o',h4,rfl⟩:=fQ r
     rw[h3]
     obtain⟨ob,ob',h5,h6,h7⟩:=s.heap.get h4
     simp only[h5]at e
     simp only[h6]
     cases ob with
     |arr z' es=>
      rw[aI h7 (by simp) (by simp)]
      simp only at e⊢
      split at e
      ·rename_i h8
       cases e
       rw[if_pos h8]
       exact⟨_,rfl, .inr ⟨_,rfl,by simp only[L.ren,h4]⟩⟩
      ·cases e
     |froz z' es=>
      rw[aI h7 (by simp) (by simp)]
      simp only at e⊢
      split at e
      ·rename_i h8
       cases e
       rw[if_pos h8]
       exact⟨_,rfl, .inr ⟨_,rfl,by simp only[L.ren,h4]⟩⟩
      ·cases e
     |darr z' es=>
      rw[aI h7 (by simp) (by simp)]
      simp only at e⊢
      split at e
      ·rename_i h8
       cases e
       rw[if_pos h8]
       exact⟨_,rfl, .inr ⟨_,rfl,by simp only[L.ren,h4]⟩⟩
      ·cases e
     |_=>cases e
    ·rename_i es h2
     rw[h2]at r
     rw[pf r]
     simp only
     split at e
     ·rename_i e0 h3
      split at e
      ·rename_i h4
       cases e
       rw[if_pos h4]
       exact⟨_,rfl, .inr ⟨_,rfl,rfl⟩⟩
      ·cases e
     ·cases e
    ·cases e
   ·cases e
  ·cases e
 |indexS x i=>
  simp only[bj]at e⊢
  split at e
  ·rename_i t k n h1 h2
   rw[(s.ev x).isStr h1,(s.ev i).isInt h2]
   simp only
   split at e
   ·rename_i hn
    rw[if_pos hn]
    split at e
    ·rename_i b h3
     cases e
     exact⟨_,rfl,bm.pv _⟩
    ·cases e
   ·cases e
  ·cases e
 |extract x i=>
  simp only[bj]at e⊢
  have r:=s.ev x
  split at e
  ·rename_i vs h1
   rw[h1]at r
   obtain⟨ys,h2,r⟩:=r
   rw[h2]
   simp only
   have key:∀{xs ys:List (Bool×List L)}{i:Nat}{x:Bool×List L},bL f xs ys→xs[i]? =some x→∃y,ys[i]? =some y∧x.1=y.1∧aF f x.2 y.2:=fun{xs}=>by
    induction xs with
    |nil=>intro ys i x _ h;simp at h
    |cons a xs ih=>
     intro ys i x r h
     cases ys with
     |nil=>exact r.elim
     |cons b ys=>
      cases i with
      |zero=>simp at h;subst h;exact⟨b,rfl,r.1,r.2.1⟩
      |succ i=>simpa using ih (i:=i) r.2.2 (by simpa using h)
   split at e
   ·rename_i ls h3
    cases e
    obtain⟨⟨b,ls'⟩,h4,h5,h6⟩:=key r h3
    simp only at h5 h6
    subst h5
    rw[h4]
    exact⟨_,rfl,_,rfl,h6⟩
   ·rename_i l h3
    cases e
    obtain⟨⟨b,ls'⟩,h4,h5,h6⟩:=key r h3
    simp only at h5 h6
    subst h5
    cases ls' with
    |nil=>exact h6.elim
    |cons l' ls'=>
     cases ls' with
     |nil=>rw[h4];exact⟨_,rfl,bm.one h6.1⟩
     |cons _ _=>exact h6.2.elim
   ·cases e
  ·cases e
 |len x=>
  simp only[bj]at e⊢
  split at e
  ·rename_i es h1
   cases e
   rw[((s.ev x).asList s.heap h1).1]
   exact⟨_,rfl,bm.pv _⟩
  ·cases e
 |lenS x=>
  simp only[bj]at e⊢
  split at e
  ·rename_i t h1
   cases e
   rw[(s.ev x).isStr h1]
   exact⟨_,rfl,bm.pv _⟩
  ·cases e
 |call k args fl fz=>
  simp only[bj]at e⊢
  split at e
  ·rename_i h0
   rw[if_pos h0]
   split at e
   ·rename_i h1
    split at e
    ·rename_i xz h2
     obtain⟨a1,a2,a3⟩:=(aW.ev s args).view s.heap h2
     rw[←a3,if_pos h1,a2]
     simp only
     split at e
     ·rename_i r h3
      split at e
      ·cases e
      ·rename_i h4
       cases e
       rw[if_neg h4]
       exact⟨_,rfl,FB (hc _ _ _ h3)⟩
     ·cases e
    ·cases e
   ·cases e
  ·cases e
 |mm isMax x y=>
  simp only[bj]at e⊢
  split at e
  ·rename_i k a k' b h1 h2
   rw[(s.ev x).isInt h1,(s.ev y).isInt h2]
   simp only
   split at e
   ·rename_i hk
    cases e
    rw[if_pos hk]
    exact⟨_,rfl,bm.pv _⟩
   ·cases e
  ·cases e
 |callV x args=>
  simp only[bj]at e⊢
  have r:=s.ev x
  split at e
  ·rename_i k caps h1
   rw[h1]at r
   rcases r with q|⟨l',h2,r⟩
   ·cases q
   simp only[L.ren]at r
   cases r
   rw[h2]
   simp only
   split at e
   ·rename_i xz h3
    rw[((aW.ev s args).view s.heap h3).2.1]
    simp only
    split at e
    ·rename_i r h4
     split at e
     ·rename_i h5
      cases e
      rw[if_pos h5]
      exact⟨_,rfl,FB (hc _ _ _ h4)⟩
     ·cases e
    ·cases e
   ·cases e
  ·cases e
 |loadB g n a=>
  simp only[bj]at e⊢
  split at e
  ·rename_i hq
   have hq':bO τ.h (a.ev τ)=true:=HQ s hq
   rw[if_pos hq']
   have key:∃v',bj call τ (.load g n a)=some v'∧bm f v v':=qF s e
   exact key
  ·cases e
 |loadN g n a r=>
  simp only[bj]at e⊢
  split at e
  ·rename_i hq
   rw[if_pos (Ml s hq)]
   have key:∃v',bj call τ (.load g n a)=some v'∧bm f v v':=qF s e
   exact key
  ·cases e
 |loadA g n a=>
  simp only[bj]at e⊢
  split at e
  ·cases e
  ·rename_i hq
   have hq':¬bO τ.h (a.ev τ)=true:=by
    intro hq2
    have r:=s.ev a
    unfold bo at e
    unfold bO at hq
    split at e
    ·rename_i o i j h1
     rw[h1]at r hq
     rcases r with q|⟨l',h2,r⟩
     ·cases q
     obtain⟨o',h3,rfl⟩:=gv r
     rw[h2]at hq2
     obtain⟨ob,ob',h4,h5,h6⟩:=s.heap.get h3
     rw[h4]at e
     simp only[h4]at hq
     simp only[bO,h5]at hq2
     cases ob with
     |box cs=>exact hq rfl
     |fbox ps=>exact hq rfl
     |arr z es=>rw[aI h6 (by simp) (by simp)]at hq2;cases hq2
     |froz z es=>rw[aI h6 (by simp) (by simp)]at hq2;cases hq2
     |darr z es=>rw[aI h6 (by simp) (by simp)]at hq2;cases hq2
     |_=>cases e
    ·rename_i e' j' h1
     rw[h1]at hq
     exact hq rfl
    ·cases e
   rw[if_neg hq']
   have key:∃v',bj call τ (.load g n a)=some v'∧bm f v v':=qF s e
   exact key
 |slcF z x lo hi=>
  simp only[bj]at e⊢
  split at e
  ·rename_i es h1
   have r:=s.ev x
   rw[h1]at r
   rw[pf r]
   simp only
   split at e
   ·rename_i l r h2 h3
    rw[pj s h2,pj s h3]
    simp only
    split at e
    ·rename_i h5
     cases e
     rw[if_pos h5]
     exact⟨_,rfl,bm.pv _⟩
    ·cases e
   ·cases e
  ·cases e
 |buildF z ps=>
  simp only[bj]at e⊢
  split at e
  ·rename_i es h1
   rw[H3 s ps h1]
   simp only
   split at e
   ·rename_i h5
    cases e
    rw[if_pos h5]
    refine⟨_,rfl,?_⟩
    cases es with
    |nil=>exact .inr ⟨_,rfl,rfl⟩
    |cons _ _=>exact bm.pv _
   ·cases e
  ·cases e
 |s2b x=>
  simp only[bj]at e⊢
  split at e
  ·rename_i t h1
   cases e
   rw[(s.ev x).isStr h1]
   exact⟨_,rfl,bm.pv _⟩
  ·cases e
 |eqS neg ks x y=>
  simp only[bj]at e⊢
  have r1:=s.ev x
  have r2:=s.ev y
  split at e
  ·rename_i ls ls' h1 h2
   rw[h1]at r1
   rw[h2]at r2
   obtain⟨ms,h3,r1⟩:=r1
   obtain⟨ms',h4,r2⟩:=r2
   rw[h3,h4]
   simp only
   split at e
   ·rename_i b h5
    cases e
    rw[KL r1 r2 h5]
    exact⟨_,rfl,bm.pv _⟩
   ·cases e
  ·cases e
 |lenZ x=>cases hz
 |indexZ z x i=>cases hz
 |loadZ g n a=>cases hz
 |callF k args=>cases hz
 |slcW z x lo hi=>cases hz
 |_=>cases e
theorem wB (k:HRel f h h'){o o':Nat}(e:f[o]? =some o'){r:Nat×List (List PV)}(hd:aX h o=some r):aX h' o'=some r:=by
 obtain⟨ob,ob',h1,h2,h3⟩:=k.get e
 unfold aX at hd⊢
 rw[h1]at hd
 rw[h2]
 cases ob with
 |arr z es=>rw[aI h3 (by simp) (by simp)];exact hd
 |darr z es=>rw[aI h3 (by simp) (by simp)];exact hd
 |_=>cases hd
theorem Jb (k:HRel f h h'):∀{ls ls':List L},eW f ls ls'→ls.all (L.mov h)=true→ls'.all (L.mov h')=true
 |[],[],_,_=>rfl
 |l::ls,l'::ls',r,e=>by
  simp only[Zq,Zm]at e⊢
  refine⟨?_,Jb k r.2 e.2⟩
  have r1:=r.1
  have e1:=e.1
  cases l with
  |arr o=>
   obtain⟨o',h1,rfl⟩:=fQ r1
   obtain⟨ob,ob',g1,g2,g3⟩:=k.get h1
   simp only[L.mov,g1]at e1
   simp only[L.mov,g2]
   cases ob with
   |arr z es=>rw[aI g3 (by simp) (by simp)];exact e1
   |darr z es=>rw[aI g3 (by simp) (by simp)]
   |_=>cases e1
  |pv p=>simp only[L.ren]at r1;cases r1;exact e1
  |nil=>simp only[L.ren]at r1;cases r1;rfl
  |_=>cases e1
 |[],_::_,e,_=>e.elim
 |_::_,[],e,_=>e.elim
theorem rE :∀{ls ls':List L},eW f ls ls'→∀o'∈al ls',∃o∈al ls,f[o]? =some o'
 |[],[],_,o',h=>by simp[al]at h
 |l::ls,l'::ls',r,o',h=>by
  have r1:=r.1
  cases l with
  |arr o=>
   obtain⟨p,h1,rfl⟩:=fQ r1
   rcases Yh.1 (show o'∈p::al ls' by simpa[al]using h)with rfl|h
   ·exact⟨o,by simp[al],h1⟩
   ·obtain⟨q,h2,h3⟩:=rE r.2 o' h
    exact⟨q,by simp only[al,List.filterMap_cons,Yh];exact .inr h2,h3⟩
  |ptr o i j=>
   obtain⟨p,h1,rfl⟩:=gv r1
   obtain⟨q,h2,h3⟩:=rE r.2 o' (by simpa[al]using h)
   exact⟨q,by simpa[al]using h2,h3⟩
  |sub o c=>
   obtain⟨p,h1,rfl⟩:=pg r1
   obtain⟨q,h2,h3⟩:=rE r.2 o' (by simpa[al]using h)
   exact⟨q,by simpa[al]using h2,h3⟩
  |win o l q=>cases r1
  |_=>
   simp only[L.ren]at r1
   cases r1
   obtain⟨q,h2,h3⟩:=rE r.2 o' (by simpa[al]using h)
   exact⟨q,by simpa[al]using h2,h3⟩
 |[],_::_,e,_,_=>e.elim
 |_::_,[],e,_,_=>e.elim
theorem j7 (k:HRel f h h'):∀{ls ls':List L},eW f ls ls'→(al ls).Nodup→(al ls').Nodup
 |[],[],_,_=>by simp[al]
 |l::ls,l'::ls',r,e=>by
  have r1:=r.1
  cases l with
  |arr o=>
   obtain⟨p,h1,rfl⟩:=fQ r1
   have e':(o::al ls).Nodup:=by simpa[al]using e
   have:(p::al ls').Nodup:=by
    refine Yx.2 ⟨fun hp=> ?_,j7 k r.2 (Yx.1 e').2⟩
    obtain⟨q,h2,h3⟩:=rE r.2 p hp
    exact(Yx.1 e').1 (by rw[k.inj h1 h3];exact h2)
   simpa[al]using this
  |ptr o i j=>obtain⟨p,h1,rfl⟩:=gv r1;simpa[al]using j7 k r.2 (by simpa[al]using e)
  |sub o c=>obtain⟨p,h1,rfl⟩:=pg r1;simpa[al]using j7 k r.2 (by simpa[al]using e)
  |win o l q=>cases r1
  |_=>simp only[L.ren]at r1;cases r1;simpa[al]using j7 k r.2 (by simpa[al]using e)
 |[],_::_,e,_=>e.elim
 |_::_,[],e,_=>e.elim
theorem eW.append :∀{ls ls' ms ms':List L},eW f ls ls'→eW f ms ms'→eW f (ls++ms) (ls'++ms')
 |[],[],_,_,_,k=>k
 |_::_,_::_,_,_,e,k=>⟨e.1,eW.append e.2 k⟩
 |[],_::_,_,_,e,_=>e.elim
 |_::_,[],_,_,e,_=>e.elim
theorem sp.flat :∀{vs vs':List V},sp f vs vs'→eW f (vs.flatMap V.cells) (vs'.flatMap V.cells)
 |[],[],_=>trivial
 |v::vs,v'::vs',e=>by simp only[Yl];exact eW.append e.1 (sp.flat e.2)
 |[],_::_,e=>e.elim
 |_::_,[],e=>e.elim
def R9 (f:List Nat)(a b:Option (Nat×List (List PV))):Prop:=(a=none∧b=none)∨∃o o' es,a=some (o,es)∧b=some (o',es)∧f[o]? =some o'
theorem R7 (k:HRel f h h'){z:Nat}{v v':V}{src:Option (Nat×List (List PV))}(r:bm f v v')(e:fD h z v=some src):∃src',fD h' z v'=some src'∧R9 f src src':=by
 cases v with
 |one l=>
  rcases r with rfl|⟨l',rfl,r⟩
  ·cases e
  cases l with
  |nil=>simp only[L.ren]at r;cases r;simp only[fD]at e⊢;cases e;exact⟨_,rfl, .inl ⟨rfl,rfl⟩⟩
  |arr o=>
   obtain⟨o',h1,rfl⟩:=fQ r
   simp only[fD]at e⊢
   split at e
   ·rename_i z' es hd
    rw[wB k h1 hd]
    simp only
    split at e
    ·rename_i hz
     cases e
     rw[if_pos hz]
     exact⟨_,rfl, .inr ⟨o,o',es,rfl,rfl,h1⟩⟩
    ·cases e
   ·cases e
  |_=>cases e
 |_=>cases e
theorem Tn (k:HRel f h h'){z:Nat}{v v':V}{src src':Option (Nat×List (List PV))}{ys:List (List PV)}(r:bm f v v')(rs:R9 f src src')(e:m9 h z src v=some ys):m9 h' z src' v'=some ys∧eW f v.cells v'.cells:=by
 cases v with
 |one l=>
  rcases r with rfl|⟨l',rfl,r⟩
  ·cases e
  cases l with
  |nil=>simp only[L.ren]at r;cases r;simp only[m9]at e⊢;exact⟨e,rfl,trivial⟩
  |pv p=>
   simp only[L.ren]at r
   cases r
   cases p with
   |lst l=>simp only[m9]at e⊢;exact⟨e,rfl,trivial⟩
   |_=>cases e
  |arr o=>
   have r0:=r
   obtain⟨o',h1,rfl⟩:=fQ r
   simp only[m9]at e⊢
   split at e
   ·rename_i z' es hd
    rw[wB k h1 hd]
    simp only
    split at e
    ·rename_i hz
     cases e
     have hn:ct src' o'=true:=by
      rcases rs with⟨rfl,rfl⟩|⟨p,p',es',rfl,rfl,hp⟩
      ·rfl
      ·have:=hz.2
       simp only[ct,Yk,beq_eq_false_iff_ne]at this⊢
       exact fun q=>this (k.inj hp (by rw[q];exact h1))
     rw[if_pos ⟨hz.1,hn⟩]
     exact⟨rfl,r0,trivial⟩
    ·cases e
   ·cases e
  |_=>cases e
 |_=>cases e
theorem HRel.push0 (k:HRel f h h')(ob:AObj)(hb:∀cs,ob≠ .box cs):HRel (f++[h'.length]) (h++[ob]) (h'++[ob]):=by
 refine k.push ?_
 cases ob with
 |box cs=>exact absurd rfl (hb cs)
 |dead=>trivial
 |_=>rfl
theorem HRel.new (k:HRel f h h'):(f++[h'.length])[h.length]? =some h'.length:=by rw[←k.len];simp
theorem Eb (s:Cln f σ τ)(hc:qv call){op:AOp}{v:V}{h1:List AObj}(hb:∀n a x,op≠ .storeB n a x)(hb2:∀n a x,op≠ .storeD n a x)(hz:op.zOk=true)(e:cf call σ op=some (v,h1)):∃v' h1' g,cf call τ op=some (v',h1')∧HRel (f++g) h1 h1'∧bm (f++g) v v':=by
 cases op with
 |alloc zero=>
  simp only[cf]at e⊢
  cases e
  exact⟨_,_,[τ.h.length],rfl,s.heap.push ⟨zero,rfl,DB hz⟩, .inr ⟨_,rfl,by simp only[L.ren,s.heap.new]⟩⟩
 |box x=>
  simp only[cf]at e⊢
  split at e
  ·rename_i hp
   cases e
   obtain⟨a1,a2⟩:=(s.ev x).plain hp
   rw[if_pos a2]
   exact⟨_,_,[τ.h.length],rfl,s.heap.push ⟨_,rfl,a1.mono⟩, .inr ⟨_,rfl,by simp only[L.ren,s.heap.new]⟩⟩
  ·cases e
 |buildS z parts=>
  simp only[cf]at e⊢
  split at e
  ·rename_i hp
   split at e
   ·rename_i es he
    cases e
    obtain⟨a1,a2⟩:=(aW.ev s parts).rows s.heap he
    have hlen:∀{vs vs':List V},sp f vs vs'→(vs.all (fun v=>v.cells.length==z))=(vs'.all (fun v=>v.cells.length==z))∧vs.length=vs'.length:=fun{vs}=>by
     induction vs with
     |nil=>intro vs' r;cases vs' with
      |nil=>exact⟨rfl,rfl⟩
      |cons _ _=>exact r.elim
     |cons a vs ih=>intro vs' r;cases vs' with
      |nil=>exact r.elim
      |cons b vs'=>
       obtain⟨i1,i2⟩:=ih r.2
       refine⟨by simp only[Zq,r.1.length,i1],by simp[i2]⟩
    obtain⟨b1,b2⟩:=hlen a1
    rw[b1,b2]at hp
    rw[if_pos hp,a2]
    have k:=s.heap.freezeVs a1
    exact⟨_,_,[_],rfl,k.push0 _ (by simp), .inr ⟨_,rfl,by simp only[L.ren,k.new]⟩⟩
   ·cases e
  ·cases e
 |store n a x=>
  simp only[cf,bv]at e⊢
  have r:=s.ev a
  have rx:=s.ev x
  by_cases hn:(x.ev σ).cells.length=n
  ·rw[if_pos hn]at e
   generalize hv:a.ev σ=va at e r
   cases va with
   |one l=>
    cases l with
    |ptr o i j=>
     rcases r with q|⟨l',h2,r⟩
     ·cases q
     obtain⟨o',h3,rfl⟩:=gv r
     rw[h2]
     obtain⟨ob,ob',h4,h5,h6⟩:=s.heap.get h3
     simp only[h4]at e
     simp only[h5]
     cases ob with
     |box cs=>
      obtain⟨cs',rfl,h6⟩:=h6
      simp only at e⊢
      split at e
      ·rename_i hh hcs
       split at hcs
       ·rename_i hp
        cases hcs
        cases e
        obtain⟨a1,a2⟩:=rx.plain hp.2.2
        rw[if_pos (a1.length▸hn),if_pos ⟨hp.1,by rw[←h6.length];exact hp.2.1,a2⟩]
        refine⟨_,_,[],rfl,?_,bm.none⟩
        rw[Zz]
        exact s.heap.set h3 ⟨_,rfl,h6.putAt j a1⟩
       ·cases hcs
      ·cases e
     |arr z es=>
      rw[aI h6 (by simp) (by simp)]
      simp only at e⊢
      cases he:es[i]? with
      |none=>simp[he]at e
      |some e0=>
       cases hps:Gi.viewL σ.h (x.ev σ).cells with
       |none=>simp[he,hps]at e
       |some ps=>
        simp only[he,hps]at e
        obtain⟨a1,a2⟩:=rx.viewL s.heap hps
        split at e
        ·rename_i hh hcs
         split at hcs
         ·rename_i hp
          cases hcs
          cases e
          simp only[a2]
          rw[if_pos (a1.length▸hn),if_pos ⟨hp.1,eW.notArr s.heap h3 a1 hp.2⟩]
          refine⟨_,_,[],rfl,?_,bm.none⟩
          rw[Zz]
          exact(s.heap.freezeLs a1).set h3 rfl
         ·cases hcs
        ·cases e
     |_=>simp at e
    |_=>simp at e
   |_=>simp at e
  ·rw[if_neg hn]at e
   simp at e
 |make bytes zero n=>
  simp only[cf]at e⊢
  split at e
  ·rename_i k m h2
   rw[(s.ev n).isInt h2]
   simp only
   split at e
   ·rename_i h3
    cases e
    rw[if_pos h3]
    exact⟨_,_,[τ.h.length],rfl,s.heap.push0 _ (by simp), .inr ⟨_,rfl,by simp only[L.ren,s.heap.new]⟩⟩
   ·cases e
  ·cases e
 |append z bytes x y=>
  simp only[cf]at e⊢
  have r:=s.ev x
  split at e
  ·rename_i ys h2 h3
   rw[h2]at r
   rcases r with q|⟨l',h4,r⟩
   ·cases q
   simp only[L.ren]at r
   cases r
   rw[h4,((s.ev y).asList s.heap h3).1]
   simp only
   split at e
   ·rename_i h5
    cases e
    rw[if_pos h5]
    exact⟨_,_,[τ.h.length],rfl,s.heap.push0 _ (by simp), .inr ⟨_,rfl,by simp only[L.ren,s.heap.new]⟩⟩
   ·cases e
  ·rename_i o ys h2 h3
   rw[h2]at r
   rcases r with q|⟨l',h4,r⟩
   ·cases q
   obtain⟨o',h5,rfl⟩:=fQ r
   obtain⟨a1,a2⟩:=(s.ev y).asList s.heap h3
   rw[h4,a1]
   obtain⟨ob,ob',h6,h7,h8⟩:=s.heap.get h5
   simp only[h6]at e
   simp only[h7]
   cases ob with
   |arr z' es=>
    rw[aI h8 (by simp) (by simp)]
    simp only at e⊢
    split at e
    ·rename_i h9
     cases e
     rw[if_pos ⟨h9.1,h9.2.1,h9.2.2.1,h9.2.2.2.1,eW.notArr s.heap h5 a2 h9.2.2.2.2⟩]
     have k:=s.heap.set h5 (ob:= .dead) (ob':= .dead) trivial
     have k2:=k.push0 (.arr z (es++ys)) (by simp)
     simp only[Ym]at k2
     have hn:=k.new
     simp only[Ym]at hn
     exact⟨_,_,[_],rfl,k2, .inr ⟨_,rfl,by simp only[L.ren,hn]⟩⟩
    ·cases e
   |_=>cases e
  ·cases e
 |appendS bytes x y=>
  simp only[cf]at e⊢
  have r:=s.ev x
  split at e
  ·rename_i t h2 h3
   rw[h2]at r
   rcases r with q|⟨l',h4,r⟩
   ·cases q
   simp only[L.ren]at r
   cases r
   rw[h4,(s.ev y).isStr h3]
   simp only
   split at e
   ·rename_i h5
    cases e
    rw[if_pos h5]
    exact⟨_,_,[τ.h.length],rfl,s.heap.push0 _ (by simp), .inr ⟨_,rfl,by simp only[L.ren,s.heap.new]⟩⟩
   ·cases e
  ·rename_i o t h2 h3
   rw[h2]at r
   rcases r with q|⟨l',h4,r⟩
   ·cases q
   obtain⟨o',h5,rfl⟩:=fQ r
   rw[h4,(s.ev y).isStr h3]
   obtain⟨ob,ob',h6,h7,h8⟩:=s.heap.get h5
   simp only[h6]at e
   simp only[h7]
   cases ob with
   |arr z' es=>
    rw[aI h8 (by simp) (by simp)]
    simp only at e⊢
    split at e
    ·rename_i h9
     cases e
     rw[if_pos h9]
     have k:=s.heap.set h5 (ob:= .dead) (ob':= .dead) trivial
     have k2:=k.push0 (.arr 1 (es++ag t)) (by simp)
     simp only[Ym]at k2
     have hn:=k.new
     simp only[Ym]at hn
     exact⟨_,_,[_],rfl,k2, .inr ⟨_,rfl,by simp only[L.ren,hn]⟩⟩
    ·cases e
   |_=>cases e
  ·cases e
 |slcL z x lo hi=>
  simp only[cf]at e⊢
  split at e
  ·rename_i es h2
   obtain⟨a1,a2⟩:=(s.ev x).asList s.heap h2
   rw[a1]
   simp only
   split at e
   ·rename_i l r h3 h4
    rw[pj s h3,pj s h4]
    simp only
    split at e
    ·rename_i h5
     cases e
     rw[if_pos h5]
     refine⟨_,_,[],rfl,?_,bm.pv _⟩
     rw[Zz]
     exact s.heap.freezeLs a2
    ·cases e
   ·cases e
  ·cases e
 |callD k args=>
  simp only[cf]at e⊢
  split at e
  ·rename_i xz h2
   obtain⟨a1,a2,a3⟩:=(aW.ev s args).view s.heap h2
   rw[a2]
   simp only
   split at e
   ·rename_i r h3
    cases e
    refine⟨_,_,[],rfl,?_,FB (hc _ _ _ h3)⟩
    rw[Zz]
    exact s.heap.freezeVs a1
   ·cases e
  ·cases e
 |storeB n a x=>exact absurd rfl (hb n a x)
 |storeD n a x=>exact absurd rfl (hb2 n a x)
 |storeZ n a x=>cases hz
 |allocAt i zero=>cases hz
 |boxW n x=>cases hz
 |allocW zero=>
  simp only[cf]at e⊢
  cases e
  have k1:=s.heap.push (ob:= .box zero) (ob':= .box zero) ⟨zero,rfl,DB hz⟩
  have k2:=k1.push0 .res (by simp)
  rw[Zo,Zo,Zo]at k2
  have hn:(f++([τ.h.length]++[(τ.h++[AObj.box zero]).length]))[σ.h.length]? =some τ.h.length:=by rw[←s.heap.len];simp
  exact⟨_,_,_,rfl,k2, .inr ⟨_,rfl,by simp only[L.ren,hn]⟩⟩
 |callZ k args=>cases hz
 |callM k x y=>cases hz
 |delW z b x y=>cases hz
 |delR k z x i j=>cases hz
 |callC k args=>
  simp only[cf]at e⊢
  split at e
  ·rename_i xz h2
   obtain⟨a1,a2,a3⟩:=(aW.ev s args).view s.heap h2
   rw[a2]
   simp only
   split at e
   ·rename_i r h3
    have e':=(Option.some.inj e)
    have hk:HRel f (if r.closed=true then σ.h else Gi.freezeVs σ.h (args.map (Opd.ev σ))) (if r.closed=true then τ.h else Gi.freezeVs τ.h (args.map (Opd.ev τ))):=by
     split
     ·exact s.heap
     ·exact s.heap.freezeVs a1
    obtain⟨g,k1,k2⟩:=hk.thaw (hc _ _ _ h3)
    rw[e']at k1 k2
    exact⟨_,_,g,rfl,k1,k2⟩
   ·cases e
  ·cases e
 |buildD z parts=>
  simp only[cf]at e⊢
  split at e
  ·rename_i hp
   split at e
   ·rename_i es he
    cases e
    obtain⟨a1,a2⟩:=(aW.ev s parts).rows s.heap he
    have hlen:∀{vs vs':List V},sp f vs vs'→(vs.all (fun v=>v.cells.length==z))=(vs'.all (fun v=>v.cells.length==z))∧vs.length=vs'.length:=fun{vs}=>by
     induction vs with
     |nil=>intro vs' r;cases vs' with
      |nil=>exact⟨rfl,rfl⟩
      |cons _ _=>exact r.elim
     |cons a vs ih=>intro vs' r;cases vs' with
      |nil=>exact r.elim
      |cons b vs'=>
       obtain⟨i1,i2⟩:=ih r.2
       refine⟨by simp only[Zq,r.1.length,i1],by simp[i2]⟩
    obtain⟨b1,b2⟩:=hlen a1
    simp only[Zm,decide_eq_true_eq]at hp
    rw[b1,b2]at hp
    have hp':((parts.map (Opd.ev τ)).all (fun v=>v.cells.length==z)&&decide (0<z)&&decide ((parts.map (Opd.ev τ)).length*z≤16777216)&&((parts.map (Opd.ev τ)).flatMap V.cells).all (L.mov τ.h)&&decide ((al ((parts.map (Opd.ev τ)).flatMap V.cells)).Nodup))=true:=by
     simp only[Zm,decide_eq_true_eq]
     exact⟨⟨hp.1.1,Jb s.heap a1.flat hp.1.2⟩,j7 s.heap a1.flat hp.2⟩
    rw[if_pos hp',a2]
    have k:=s.heap.freezeVs a1
    exact⟨_,_,[_],rfl,k.push0 _ (by simp), .inr ⟨_,rfl,by simp only[L.ren,k.new]⟩⟩
   ·cases e
  ·cases e
 |appendD z bytes x y=>
  simp only[cf]at e⊢
  split at e
  ·cases e
  ·rename_i src hs
   obtain⟨src',hs',rs⟩:=R7 s.heap (s.ev x) hs
   rw[hs']
   simp only
   split at e
   ·cases e
   ·rename_i ys hy
    obtain⟨hy',a1⟩:=Tn s.heap (s.ev y) rs hy
    rw[hy']
    simp only
    have hrows:br src'=br src:=by
     rcases rs with⟨rfl,rfl⟩|⟨p,p',es',rfl,rfl,hp⟩<;>rfl
    rw[hrows]
    split at e
    ·rename_i hp
     cases e
     rw[if_pos hp]
     have k:HRel f (bd src (Gi.freezeLs σ.h (y.ev σ).cells)) (bd src' (Gi.freezeLs τ.h (y.ev τ).cells)):=by
      rcases rs with⟨rfl,rfl⟩|⟨p,p',es',rfl,rfl,hq⟩
      ·exact s.heap.freezeLs a1
      ·exact(s.heap.freezeLs a1).set hq trivial
     have hlen:∀(h:List AObj)(ls:List L),(bd src (Gi.freezeLs h ls)).length=(Gi.freezeLs h ls).length:=fun h ls=>by
      rcases rs with⟨rfl,rfl⟩|⟨p,p',es',rfl,rfl,hq⟩<;>simp[bd]
     have hlen':∀(h:List AObj)(ls:List L),(bd src' (Gi.freezeLs h ls)).length=(Gi.freezeLs h ls).length:=fun h ls=>by
      rcases rs with⟨rfl,rfl⟩|⟨p,p',es',rfl,rfl,hq⟩<;>simp[bd]
     have k2:=k.push0 (.darr z (br src++ys)) (by simp)
     have hn:=k.new
     simp only[hlen,hlen',mM]at k2 hn
     exact⟨_,_,[_],rfl,k2, .inr ⟨_,rfl,by simp only[L.ren,hn]⟩⟩
    ·cases e
 |allocT n=>
  simp only[cf]at e⊢
  cases e
  exact⟨_,_,[τ.h.length],rfl,s.heap.push0 _ (by simp), .inr ⟨_,rfl,rfl⟩⟩
 |storeT n a x=>
  simp only[cf]at e⊢
  have r:=s.ev a
  have rx:=s.ev x
  split at e
  ·rename_i m h1
   rw[h1]at r
   rcases r with q|⟨l',h2,r⟩
   ·cases q
   simp only[L.ren]at r
   cases r
   rw[h2]
   simp only
   split at e
   ·rename_i hp
    cases e
    obtain⟨a1,a2⟩:=rx.plain hp.2.2
    rw[if_pos ⟨hp.1,a1.length▸hp.2.1,a2⟩]
    refine⟨_,_,[],rfl,?_,bm.none⟩
    rw[Zz]
    exact s.heap
   ·cases e
  ·cases e
 |insert k z bytes x i v=>
  simp only[cf]at e⊢
  have rx:=s.ev x
  have ri:=s.ev i
  have rv:=s.ev v
  split at e
  ·rename_i n o2 ex ei ev
   rw[ex]at rx
   rw[ev]at rv
   rcases rx with q|⟨lx,hx,rx⟩
   ·cases q
   simp only[L.ren]at rx
   cases rx
   rcases rv with q|⟨lv,hv,rv⟩
   ·cases q
   obtain⟨o2',h2,rfl⟩:=fQ rv
   rw[hx,hv,ri.isInt ei]
   obtain⟨ob,ob',h5,h6,h7⟩:=s.heap.get h2
   simp only[h5]at e
   simp only[h6]
   cases ob with
   |arr z2 vs=>
    rw[aI h7 (by simp) (by simp)]
    simp only at e⊢
    split at e
    ·rename_i h8
     cases e
     rw[if_pos h8]
     exact⟨_,_,[τ.h.length],rfl,s.heap.push0 _ (by simp), .inr ⟨_,rfl,by simp only[L.ren,s.heap.new]⟩⟩
    ·cases e
   |_=>cases e
  ·rename_i o1 n o2 ex ei ev
   rw[ex]at rx
   rw[ev]at rv
   rcases rx with q|⟨lx,hx,rx⟩
   ·cases q
   obtain⟨o1',h1,rfl⟩:=fQ rx
   rcases rv with q|⟨lv,hv,rv⟩
   ·cases q
   obtain⟨o2',h2,rfl⟩:=fQ rv
   rw[hx,hv,ri.isInt ei]
   obtain⟨oa,oa',a5,a6,a7⟩:=s.heap.get h1
   obtain⟨ob,ob',h5,h6,h7⟩:=s.heap.get h2
   simp only[a5,h5]at e
   simp only[a6,h6]
   cases oa with
   |arr z1 es=>
    cases ob with
    |arr z2 vs=>
     rw[aI h7 (by simp) (by simp),aI a7 (by simp) (by simp)]
     simp only at e⊢
     split at e
     ·rename_i h8
      cases e
      have hne:o1'≠o2':=fun q=>h8.2.2.1 (s.heap.inj h1 (by rw[h2,q]))
      rw[if_pos ⟨h8.1,h8.2.1,hne,h8.2.2.2⟩]
      have k:=s.heap.set h1 (ob:= .dead) (ob':= .dead) trivial
      have k2:=k.push0 (.arr z (es.take n.toNat++vs++es.drop n.toNat)) (by simp)
      simp only[Ym]at k2
      have hn:=k.new
      simp only[Ym]at hn
      exact⟨_,_,[_],rfl,k2, .inr ⟨_,rfl,by simp only[L.ren,hn]⟩⟩
     ·cases e
    |_=>cases e
   |_=>cases e
  ·cases e
 |delF k z x gf=>
  simp only[cf]at e⊢
  have rx:=s.ev x
  have rg:=s.ev gf
  split at e
  ·rename_i c cs ex eg
   rw[ex]at rx
   rw[eg]at rg
   rcases rx with q|⟨lx,hx,rx⟩
   ·cases q
   simp only[L.ren]at rx
   cases rx
   rcases rg with q|⟨lg,hg,rg⟩
   ·cases q
   simp only[L.ren]at rg
   cases rg
   rw[hx,hg]
   simp only
   cases e
   refine⟨_,_,[],rfl,?_, .inr ⟨_,rfl,rfl⟩⟩
   rw[Zz]
   exact s.heap
  ·rename_i o c cs ex eg
   rw[ex]at rx
   rw[eg]at rg
   rcases rx with q|⟨lx,hx,rx⟩
   ·cases q
   obtain⟨o',h10,rfl⟩:=fQ rx
   rcases rg with q|⟨lg,hg,rg⟩
   ·cases q
   simp only[L.ren]at rg
   cases rg
   rw[hx,hg]
   obtain⟨oa,oa',a5,a6,a7⟩:=s.heap.get h10
   simp only[FE,a5]at e
   simp only[FE,a6]
   have fin:∀{es:List (List PV)},(match gm call c (cs.map ww) es with
    |some es'=>some (V.one (.arr σ.h.length),σ.h.set o .dead++[.arr z es'])
    |none=>none)=some (v,h1)→∃v' h1' g,(match gm call c (cs.map ww) es with
    |some es'=>some (V.one (.arr τ.h.length),τ.h.set o' .dead++[.arr z es'])
    |none=>none)=some (v',h1')∧HRel (f++g) h1 h1'∧bm (f++g) v v':=by
    intro es e
    split at e
    ·rename_i es' h8
     cases e
     have k:=s.heap.set h10 (ob:= .dead) (ob':= .dead) trivial
     have k2:=k.push0 (.arr z es') (by simp)
     simp only[Ym]at k2
     have hn:=k.new
     simp only[Ym]at hn
     exact⟨_,_,[_],rfl,k2, .inr ⟨_,rfl,by simp only[L.ren,hn]⟩⟩
    ·cases e
   cases oa with
   |arr z2 es=>
    rw[aI a7 (by simp) (by simp)]
    simp only at e⊢
    split at e
    ·rename_i hz
     rw[if_pos hz]
     exact fin e
    ·cases e
   |darr z2 es=>
    rw[aI a7 (by simp) (by simp)]
    simp only at e⊢
    split at e
    ·rename_i hz
     rw[if_pos hz]
     exact fin e
    ·cases e
   |_=>cases e
  ·cases e
 |mkfn k caps=>
  simp only[cf]at e⊢
  split at e
  ·rename_i cs hh h2
   cases e
   obtain⟨h1',h3,h4⟩:=DT s.heap (aW.ev s caps) h2
   rw[h3]
   refine⟨_,_,[],rfl,?_, .inr ⟨_,rfl,rfl⟩⟩
   rw[Zz]
   exact h4
  ·cases e
 |call k args fl fz=>
  cases fl<;>cases fz<;>simp only[cf]at e⊢ <;>try (cases e;done)
  split at e
  ·rename_i xz h2
   obtain⟨a1,a2,a3⟩:=(aW.ev s args).view s.heap h2
   rw[a2]
   simp only
   split at e
   ·rename_i r h3
    obtain⟨g,k1,k2⟩:=(s.heap.freezeVs a1).thaw (V.clean_ow (hc _ _ _ h3))
    have e':=(Option.some.inj e)
    rw[e']at k1 k2
    exact⟨_,_,g,rfl,k1,k2⟩
   ·cases e
  ·cases e
 |_=>cases e
theorem Rg (s:Cln f σ τ)(hc:qv call){n:Nat}{a x:Opd}{v:V}{h1:List AObj}(e:cf call σ (.storeD n a x)=some (v,h1)):∃v' h1' g,cf call τ (.storeD n a x)=some (v',h1')∧HRel (f++g) h1 h1'∧bm (f++g) v v':=by
 have old:bv σ.h n (a.ev σ) (x.ev σ)=some h1→v= .tup []→∃h1' g,bv τ.h n (a.ev τ) (x.ev τ)=some h1'∧HRel (f++g) h1 h1'∧bm (f++g) (.tup []) (.tup []):=fun hs hv=>by
  obtain⟨v',h1',g,q1,q2,q3⟩:=Eb s hc (op:= .store n a x) (v:= .tup []) (h1:=h1) (fun _ _ _ h=>by cases h) (fun _ _ _ h=>by cases h) rfl (by simp only[cf,hs])
  simp only[cf]at q1
  split at q1
  ·rename_i hh hhs
   cases q1
   exact⟨h1',g,hhs,q2,bm.none⟩
  ·cases q1
 simp only[cf]at e⊢
 split at e
 ·rename_i hh hs
  cases e
  have r:=s.ev a
  unfold storeD at hs⊢
  split at hs
  ·rename_i o i j ha
   rw[ha]at r
   rcases r with q|⟨l',ha',r⟩
   ·cases q
   obtain⟨o',h3,rfl⟩:=gv r
   rw[ha']
   simp only
   split at hs
   ·rename_i z es hd
    rw[wB s.heap h3 hd]
    simp only
    split at hs
    ·rename_i e0 ps he hps
     obtain⟨a1,a2⟩:=(s.ev x).viewL s.heap hps
     rw[he,a2]
     simp only
     split at hs
     ·rename_i hp
      cases hs
      rw[if_pos ⟨a1.length▸hp.1,hp.2.1,eW.notArr s.heap h3 a1 hp.2.2.1,Jb s.heap a1 hp.2.2.2.1,j7 s.heap a1 hp.2.2.2.2⟩]
      refine⟨_,_,[],rfl,?_,bm.none⟩
      rw[Zz]
      exact(s.heap.freezeLs a1).set h3 rfl
     ·cases hs
    ·cases hs
   ·rename_i hd
    have hd':aX τ.h o'=none:=by
     obtain⟨ob,ob',g1,g2,g3⟩:=s.heap.get h3
     unfold aX at hd⊢
     rw[g1]at hd
     rw[g2]
     cases ob with
     |arr z es=>rw[aI g3 (by simp) (by simp)];exact hd
     |darr z es=>cases hd
     |box cs=>obtain⟨cs',rfl,_⟩:=g3;rfl
     |dead=>
      unfold bv at hs
      rw[ha]at hs
      simp[g1]at hs
     |_=>rw[aI g3 (by simp) (by simp)]
    rw[hd']
    simp only
    obtain⟨h1',g,q1,q2,q3⟩:=old hs rfl
    rw[ha']at q1
    rw[q1]
    exact⟨_,_,g,rfl,q2,q3⟩
  ·cases hs
 ·cases e
theorem SH (s:Cln f σ τ)(hc:qv call){op:AOp}{v:V}{h1:List AObj}(hz:op.zOk=true)(e:cf call σ op=some (v,h1)):∃v' h1' g,cf call τ op=some (v',h1')∧HRel (f++g) h1 h1'∧bm (f++g) v v':=by
 by_cases hb:∃n a x,op= .storeB n a x
 ·obtain⟨n,a,x,rfl⟩:=hb
  simp only[cf]at e
  split at e
  ·rename_i hq
   have hq':=HQ s hq
   obtain⟨v',h1',g,q1,q2,q3⟩:=Eb s hc (op:= .store n a x) (fun _ _ _ h=>by cases h) (fun _ _ _ h=>by cases h) rfl (v:=v) (h1:=h1) (by simp only[cf];exact e)
   refine⟨v',h1',g,?_,q2,q3⟩
   simp only[cf]at q1⊢
   rw[if_pos hq']
   exact q1
  ·cases e
 ·by_cases hb2:∃n a x,op= .storeD n a x
  ·obtain⟨n,a,x,rfl⟩:=hb2
   exact Rg s hc e
  ·exact Eb s hc (fun n a x h=>hb ⟨n,a,x,h⟩) (fun n a x h=>hb2 ⟨n,a,x,h⟩) hz e
theorem Ii (s:Cln f σ τ){g:Option (Nat×Bool)}{b:Bool}(e:aK σ g=some b):aK τ g=some b:=by
 cases g with
 |none=>exact e
 |some g=>
  obtain⟨t,w⟩:=g
  simp only[aK]at e⊢
  have r:=s.tmps.getD t
  split at e
  ·rename_i c h1
   rw[h1]at r
   rw[pf r]
   exact e
  ·rename_i h1
   rw[h1]at r
   obtain⟨ys,h2,r⟩:=r
   rw[h2]
   cases ys with
   |nil=>exact e
   |cons _ _=>exact r.elim
  ·cases e
theorem Qg (s:Cln f σ τ)(hc:qv call){o:AOper}{σ':St}(hz:o.op.zOk=true)(e:az call o σ=some σ'):∃τ' g,az call o τ=some τ'∧Cln (f++g) σ' τ':=by
 unfold az at e⊢
 split at e
 ·rename_i hw
  rw[Ii s hw]
  simp only
  split at e
  ·rename_i v h1
   cases e
   obtain⟨v',h2,r⟩:=N5 s hc hz h1
   rw[h2]
   exact⟨_,[],rfl,by rw[Zz];exact⟨s.heap,s.tmps.put _ r⟩⟩
  ·rename_i h1
   split at e
   ·rename_i v h2 h3
    cases e
    obtain⟨v',h2',g,e1,k,r⟩:=SH s hc hz h3
    rw[NW (call':=call) e1,e1]
    exact⟨_,g,rfl,k,s.tmps.mono.put _ r⟩
   ·cases e
 ·rename_i hw
  rw[Ii s hw]
  cases e
  exact⟨_,[],rfl,by rw[Zz];exact⟨s.heap,s.tmps.put _ bm.none⟩⟩
 ·cases e
theorem BN (hc:qv call):∀{os:List AOper}{f:List Nat}{σ τ σ':St},Cln f σ τ→(os.all fun o=>o.op.zOk)=true→ai call os σ=some σ'→∃τ' g,ai call os τ=some τ'∧Cln (f++g) σ' τ'
 |[],f,σ,τ,σ',s,_,e=>by simp only[ai]at e⊢;cases e;exact⟨_,[],rfl,by rw[Zz];exact s⟩
 |o::os,f,σ,τ,σ',s,hz,e=>by
  simp only[Zq,Zm]at hz
  simp only[ai]at e⊢
  split at e
  ·rename_i σ1 h1
   obtain⟨τ1,g,h2,s1⟩:=Qg s hc hz.1 h1
   rw[h2]
   obtain⟨τ2,g2,h3,s2⟩:=BN hc s1 hz.2 e
   exact⟨τ2,g++g2,h3,by rw[←Zo];exact s2⟩
  ·cases e
def Kn (σ τ:St):Prop:=∃f,Cln f σ τ
theorem NZ (hc:qv call):∀{c:ACode},c.zOk=true→∀{σ τ σ':St}{e:Ex},Kn σ τ→aq call aB c σ=some (e,σ')→∃τ',aq call aB c τ=some (e,τ')∧Kn σ' τ':=by
 intro c
 induction c with
 |skip=>intro _ σ τ σ' e k h;simp only[aq]at h⊢;cases h;exact⟨_,rfl,k⟩
 |region ops=>
  intro hz σ τ σ' e k h
  simp only[aq]at h⊢
  split at h
  ·rename_i σ1 h1
   cases h
   obtain⟨f,s⟩:=k
   obtain⟨τ',g,h2,s2⟩:=BN hc s hz h1
   rw[h2]
   exact⟨_,rfl,_,s2⟩
  ·cases h
 |seq a b iha ihb=>
  intro hz σ τ σ' e k h
  simp only[ACode.zOk,Zm]at hz
  simp only[aq]at h⊢
  cases ha:aq call aB a σ with
  |none=>simp[ha]at h
  |some x=>
   obtain⟨e1,σ1⟩:=x
   obtain⟨τ1,h1,k1⟩:=iha hz.1 k ha
   rw[h1]
   rw[ha]at h
   cases e1 with
   |normal=>exact ihb hz.2 k1 h
   |_=>cases h;exact⟨_,rfl,k1⟩
 |cond c a b iha ihb=>
  intro hz σ τ σ' e k h
  simp only[ACode.zOk,Zm]at hz
  simp only[aq]at h⊢
  split at h
  ·rename_i t h1
   obtain⟨f,s⟩:=k
   rw[(s.ev c).isBool h1]
   cases t with
   |true=>exact iha hz.1 ⟨f,s⟩ h
   |false=>exact ihb hz.2 ⟨f,s⟩ h
  ·cases h
 |block id c ih=>
  intro hz σ τ σ' e k h
  simp only[aq]at h⊢
  cases ha:aq call aB c σ with
  |none=>simp[ha]at h
  |some x=>
   obtain⟨e1,σ1⟩:=x
   obtain⟨τ1,h1,k1⟩:=ih hz k ha
   rw[h1]
   rw[ha]at h
   cases e1 with
   |exit i=>
    simp only at h⊢
    split at h
    ·rename_i hi;rw[if_pos hi];cases h;exact⟨_,rfl,k1⟩
    ·rename_i hi;rw[if_neg hi];cases h;exact⟨_,rfl,k1⟩
   |_=>cases h;exact⟨_,rfl,k1⟩
 |loop c ih=>
  intro hz σ τ σ' e k h
  simp only[aq]at h⊢
  obtain⟨n,hn⟩:=lU.1 h
  have key:∀(n:Nat){σ τ:St},Kn σ τ→eI n (aq call aB c) σ=some (e,σ')→∃τ',eI n (aq call aB c) τ=some (e,τ')∧Kn σ' τ':=by
   intro n
   induction n with
   |zero=>intro σ τ _ h;simp[eI]at h
   |succ n ihn=>
    intro σ τ k h
    cases ha:aq call aB c σ with
    |none=>simp[eI,ha]at h
    |some x=>
     obtain⟨e1,σ1⟩:=x
     obtain⟨τ1,h1,k1⟩:=ih hz k ha
     cases e1 with
     |normal=>
      rw[xr ha]at h
      rw[xr h1]
      exact ihn k1 h
     |_=>
      rw[Bg ha (by simp)]at h
      cases h
      exact⟨_,Bg h1 (by simp),k1⟩
  obtain⟨τ',h1,k1⟩:=key n k hn
  exact⟨τ',lU.2 ⟨n,h1⟩,k1⟩
 |exit id=>intro _ σ τ σ' e k h;simp only[aq]at h⊢;cases h;exact⟨_,rfl,k⟩
 |ret=>intro _ σ τ σ' e k h;simp only[aq]at h⊢;cases h;exact⟨_,rfl,k⟩
end
end Gi
