/- Of this proof. -/
import Derived.Test.YtebnmoogdmpepaaGreatGsm
set_option linter.unusedSimpArgs false
set_option linter.unusedVariables false
namespace Gi
open Go
def MN :L→Bool
 | .pv _=>true
 | .nil=>true
 |_=>false
def AOp.zOk :AOp→Bool
 | .alloc z=>z.all MN
 | .build z _=>z.all MN
 | .storeZ _ _ _=>false
 | .callZ _ _=>false
 | .callM _ _ _=>false
 | .lenZ _=>false
 | .indexZ _ _ _=>false
 | .loadZ _ _ _=>false
 | .callF _ _=>false
 | .allocW z=>z.all MN
 | .allocAt _ _=>false
 | .boxW _ _=>false
 |_=>true
def ACode.zOk :ACode→Bool
 | .region ops=>ops.all fun o=>o.op.zOk
 | .seq a b=>a.zOk&&b.zOk
 | .cond _ a b=>a.zOk&&b.zOk
 | .block _ c=>c.zOk
 | .loop c=>c.zOk
 |_=>true
def rt (call:Nat→List V→Option V):Prop:=∀k xz r,call k xz=some r→r.clean=true
section
variable {f:List Nat}{h h':List AObj}{σ τ:St}{call:Nat→List V→Option V}
theorem DT :∀{ls:List L},ls.all MN=true→aN f ls ls
 |[],_=>trivial
 |l::ls,hc=>by
  simp only[Zr,Zh]at hc
  refine⟨.inr ?_,DT hc.2⟩
  cases l with
  |pv p=>rfl
  |nil=>rfl
  |_=>exact absurd hc.1 (by simp[MN])
theorem QH {l l':L}(e:l.ren f=some l'):plain l'=plain l:=by
 cases l with
 |ptr o i j=>obtain⟨o',_,rfl⟩:=gQ e;rfl
 |arr o=>obtain⟨o',_,rfl⟩:=fZ e;rfl
 |sub o c=>obtain⟨o',_,rfl⟩:=pX e;rfl
 |_=>simp only[L.ren]at e;cases e;rfl
theorem aN.plain :∀{ls ls':List L},aN f ls ls'→ls.all Gi.plain=true→ls'.all Gi.plain=true
 |[],[],_,_=>rfl
 |l::ls,l'::ls',r,e=>by
  simp only[Zr,Zh]at e⊢
  refine⟨?_,aN.plain r.2 e.2⟩
  rcases r.1 with q|q
  ·subst q;exact absurd e.1 (by simp[Gi.plain])
  ·rw[QH q];exact e.1
 |[],_::_,e,_=>e.elim
 |_::_,[],e,_=>e.elim
theorem bC.plain {v v':V}(r:bC f v v')(e:v.cells.all Gi.plain=true):aN f v.cells v'.cells∧v'.cells.all Gi.plain=true:=by
 cases v with
 |one l=>
  rcases r with q|⟨l',rfl,r⟩
  ·subst q;exact absurd e (by simp[V.cells,Gi.plain])
  ·have:aN f [l] [l']:=⟨.inr r,trivial⟩
   exact⟨this,this.plain e⟩
 |agg ls=>obtain⟨ls',rfl,r⟩:=r;exact⟨r,r.plain e⟩
 |tup xs=>exact absurd e (by simp[V.cells,Gi.plain])
theorem bC.viewL (k:HRel f h h'){v v':V}{ps:List PV}(r:bC f v v')(e:Gi.viewL h v.cells=some ps):fh f v.cells v'.cells∧Gi.viewL h' v'.cells=some ps:=by
 cases v with
 |one l=>
  rcases r with rfl|⟨l',rfl,r1⟩
  ·cases e
  ·obtain⟨a1,a2,_⟩:=(show aN f [l] [l']from⟨.inr r1,trivial⟩).view k e
   exact⟨a1,a2⟩
 |agg ls=>
  obtain⟨ls',rfl,r1⟩:=r
  obtain⟨a1,a2,_⟩:=r1.view k e
  exact⟨a1,a2⟩
 |tup xs=>cases e
theorem fh.length {ls ls':List L}(r:fh f ls ls'):ls.length=ls'.length:=r.rel.length
theorem fh.notArr (k:HRel f h h'){o o':Nat}(ho:f[o]? =some o'):∀{ls ls':List L},fh f ls ls'→ls.all (L.notArr o)=true→ls'.all (L.notArr o')=true
 |[],[],_,_=>rfl
 |l::ls,l'::ls',r,e=>by
  simp only[Zr,Zh]at e⊢
  refine⟨?_,fh.notArr k ho r.2 e.2⟩
  have r1:=r.1
  cases l with
  |arr p=>
   obtain⟨p',h1,rfl⟩:=fZ r1
   have e1:=e.1
   simp only[L.notArr,Yb,beq_eq_false_iff_ne]at e1⊢
   intro q
   subst q
   exact e1 (k.inj h1 ho)
  |ptr p i j=>obtain⟨p',h1,rfl⟩:=gQ r1;rfl
  |sub p c=>obtain⟨p',h1,rfl⟩:=pX r1;rfl
  |_=>simp only[L.ren]at r1;cases r1;rfl
 |[],_::_,e,_=>e.elim
 |_::_,[],e,_=>e.elim
theorem pZ (s:Cln f σ τ){d n:Int}{o:Option Opd}(e:bH σ d o=some n):bH τ d o=some n:=by
 cases o with
 |none=>exact e
 |some x=>
  simp only[bH]at e⊢
  split at e
  ·rename_i k m h1
   cases e
   rw[(s.ev x).isInt h1]
  ·cases e
theorem H7 (s:Cln f σ τ):∀{ps:List (Nat×Nat×Opd)}{cs cs' ds:List L},aN f cs cs'→dg cs (ps.map fun x=>(x.1,x.2.1,x.2.2.ev σ))=some ds→∃ds',dg cs' (ps.map fun x=>(x.1,x.2.1,x.2.2.ev τ))=some ds'∧aN f ds ds'
 |[],cs,cs',ds,r,e=>by simp only[Z5,dg]at e⊢;cases e;exact⟨_,rfl,r⟩
 |(off,n,x)::ps,cs,cs',ds,r,e=>by
  simp only[Zv,dg]at e⊢
  split at e
  ·rename_i h1
   obtain⟨a1,a2⟩:=(s.ev x).plain h1.2.2
   rw[if_pos ⟨a1.length▸h1.1,by rw[←r.length];exact h1.2.1,a2⟩]
   exact H7 s (r.putAt off a1) e
  ·cases e
theorem xx :∀{ls ls':List L}{e:List PV},aN f ls ls'→bW ls=some e→bW ls'=some e
 |[],[],e,_,h=>h
 |l::ls,l'::ls',e,r,h=>by
  cases l with
  |pv p=>
   simp only[bW]at h
   split at h
   ·rename_i ps h1
    have r1:=r.1
    rcases r1 with q|q
    ·cases q
    ·simp only[L.ren]at q
     cases q
     simp only[bW,xx r.2 h1]
     exact h
   ·cases h
  |_=>cases h
 |[],_::_,_,r,_=>r.elim
 |_::_,[],_,r,_=>r.elim
theorem Ij (s:Cln f σ τ):∀(ps:List Opd){es:List (List PV)},dq (ps.map (Opd.ev σ))=some es→dq (ps.map (Opd.ev τ))=some es
 |[],es,h=>h
 |x::ps,es,h=>by
  simp only[Zv,dq]at h⊢
  split at h
  ·rename_i e es' h1 h2
   cases h
   have r:=s.ev x
   have hx:bW (x.ev τ).cells=some e:=by
    cases hv:x.ev σ with
    |one l=>
     rw[hv]at h1 r
     rcases r with q|⟨l',h3,r⟩
     ·subst q;cases h1
     ·rw[h3]
      exact xx (show aN f [l] [l']from⟨.inr r,trivial⟩) h1
    |agg ls=>
     rw[hv]at h1 r
     obtain⟨ls',h3,r⟩:=r
     rw[h3]
     exact xx r h1
    |tup xs=>rw[hv]at h1;cases h1
   rw[hx,Ij s ps h2]
  ·cases h
theorem Ic (s:Cln f σ τ){a:Opd}(hq:bU σ.h (a.ev σ)=true):bU τ.h (a.ev τ)=true:=by
 have r:=s.ev a
 unfold bU at hq
 split at hq
 ·rename_i o i j h1
  rw[h1]at r
  rcases r with q|⟨l',h2,r⟩
  ·cases q
  obtain⟨o',h3,rfl⟩:=gQ r
  rw[h2]
  obtain⟨ob,ob',h4,h5,h6⟩:=s.heap.get h3
  rw[h4]at hq
  simp only[bU,h5]
  cases ob with
  |box cs=>obtain⟨cs',rfl,_⟩:=h6;rfl
  |fbox ps=>rw[aX h6 (by simp) (by simp)]
  |_=>cases hq
 ·rename_i e' j' h1
  rw[h1]at r
  rcases r with q|⟨l',h2,r⟩
  ·cases q
  ·simp only[L.ren]at r
   cases r
   rw[h2];rfl
 ·cases hq
theorem MU (s:Cln f σ τ){a b:Opd}(hq:tP (a.ev σ) (b.ev σ)=true):tP (a.ev τ) (b.ev τ)=true:=by
 have ra:=s.ev a
 have rb:=s.ev b
 unfold tP at hq
 split at hq
 ·rename_i o i j o2 i2 j2 h1 h2
  rw[h1]at ra
  rw[h2]at rb
  rcases ra with q|⟨l',h3,ra⟩
  ·cases q
  obtain⟨o',h4,rfl⟩:=gQ ra
  rcases rb with q|⟨l',h5,rb⟩
  ·cases q
  obtain⟨o2',h6,rfl⟩:=gQ rb
  rw[h3,h5]
  simp only[tP,Yb,beq_eq_false_iff_ne]at hq⊢
  exact fun e=>by subst e;exact hq (s.heap.inj h4 h6)
 ·rename_i e j o2 i2 j2 h1 h2
  rw[h1]at ra
  rw[h2]at rb
  rcases ra with q|⟨l',h3,ra⟩
  ·cases q
  simp only[L.ren]at ra
  cases ra
  rcases rb with q|⟨l',h5,rb⟩
  ·cases q
  obtain⟨o2',h6,rfl⟩:=gQ rb
  rw[h3,h5]
  rfl
 ·cases hq
theorem rU (s:Cln f σ τ){g:Bool}{n:Nat}{a:Opd}{v:V}(e:bA σ.h g n (a.ev σ)=some v):∃v',bJ call τ (.load g n a)=some v'∧bC f v v':=by
 simp only[bJ]
 unfold bA at e⊢
 have r:=s.ev a
 split at e
 ·rename_i o i j h1
  rw[h1]at r
  rcases r with q|⟨l',h2,r⟩
  ·cases q
  obtain⟨o',h3,rfl⟩:=gQ r
  rw[h2]
  obtain⟨ob,ob',h4,h5,h6⟩:=s.heap.get h3
  simp only[h4]at e
  simp only[h5]
  cases ob with
  |box cs=>
   obtain⟨cs',rfl,h6⟩:=h6
   simp only at e⊢
   split at e
   ·rename_i hi
    rw[if_pos hi]
    exact tU h6 e
   ·cases e
  |arr z es=>
   rw[aX h6 (by simp) (by simp)]
   simp only at e⊢
   split at e
   ·rename_i e0 he
    exact tU (tv e0) e
   ·cases e
  |froz z es=>
   rw[aX h6 (by simp) (by simp)]
   simp only at e⊢
   split at e
   ·rename_i e0 he
    exact tU (tv e0) e
   ·cases e
  |darr z es=>
   rw[aX h6 (by simp) (by simp)]
   simp only at e⊢
   split at e
   ·rename_i e0 he
    exact tU (tv e0) e
   ·cases e
  |fbox ps=>
   rw[aX h6 (by simp) (by simp)]
   simp only at e⊢
   split at e
   ·rename_i hi
    rw[if_pos hi]
    exact tU (tv ps) e
   ·cases e
  |_=>cases e
 ·rename_i e0 j h1
  rw[h1]at r
  rcases r with q|⟨l',h2,r⟩
  ·cases q
  simp only[L.ren]at r
  cases r
  rw[h2]
  exact tU (tv e0) e
 ·cases e
theorem OE (s:Cln f σ τ)(hc:rt call){op:AOp}{v:V}(hz:op.zOk=true)(e:bJ call σ op=some v):∃v',bJ call τ op=some v'∧bC f v v':=by
 cases op with
 |mv x=>simp only[bJ]at e⊢;cases e;exact⟨_,rfl,s.ev x⟩
 |pick c a b=>
  simp only[bJ]at e⊢
  split at e
  ·rename_i t h1
   rw[(s.ev c).isBool h1]
   cases e
   refine⟨_,rfl,?_⟩
   cases t
   ·exact s.ev b
   ·exact s.ev a
  ·cases e
 |load g n a=>exact rU s e
 |build zero parts=>
  simp only[bJ]at e⊢
  split at e
  ·rename_i cs h1
   cases e
   obtain⟨ds',h2,h3⟩:=H7 s (DT hz) h1
   rw[h2]
   exact⟨_,rfl,_,rfl,h3⟩
  ·cases e
 |bin op x y=>
  simp only[bJ]at e⊢
  obtain⟨p,q,r,h1,h2,rfl⟩:=Ut e
  have r1:=s.ev x
  have r2:=s.ev y
  rw[h1]at r1 e
  rw[h2]at r2 e
  rw[pW r1,pW r2]
  exact⟨_,e,bC.pv r⟩
 |eqB neg x y=>
  simp only[bJ]at e⊢
  split at e
  ·rename_i a b h1 h2
   cases e
   rw[(s.ev x).isBool h1,(s.ev y).isBool h2]
   exact⟨_,rfl,bC.pv _⟩
  ·cases e
 |un op x=>
  simp only[bJ]at e⊢
  obtain⟨p,r,h1,rfl⟩:=Vu e
  have r1:=s.ev x
  rw[h1]at r1 e
  rw[pW r1]
  exact⟨_,e,bC.pv r⟩
 |conv k x=>
  simp only[bJ]at e⊢
  split at e
  ·rename_i k' n h1
   cases e
   rw[(s.ev x).isInt h1]
   exact⟨_,rfl,bC.pv _⟩
  ·cases e
 |b2s x=>
  simp only[bJ]at e⊢
  split at e
  ·rename_i es h1
   rw[((s.ev x).asList s.heap h1).1]
   simp only
   split at e
   ·rename_i t h2
    cases e
    exact⟨_,rfl,bC.pv _⟩
   ·cases e
  ·cases e
 |slcS x lo hi=>
  simp only[bJ]at e⊢
  split at e
  ·rename_i t h1
   rw[(s.ev x).isStr h1]
   simp only
   split at e
   ·rename_i l r h2 h3
    rw[pZ s h2,pZ s h3]
    simp only
    split at e
    ·rename_i h4
     cases e
     rw[if_pos h4]
     exact⟨_,rfl,bC.pv _⟩
    ·cases e
   ·cases e
  ·cases e
 |fieldA x off=>
  simp only[bJ]at e⊢
  have r:=s.ev x
  split at e
  ·rename_i o i j h1
   rw[h1]at r
   rcases r with q|⟨l',h2,r⟩
   ·cases q
   obtain⟨o',h3,rfl⟩:=gQ r
   rw[h2]
   cases e
   exact⟨_,rfl, .inr ⟨_,rfl,by simp only[L.ren,h3]⟩⟩
  ·rename_i e0 j h1
   rw[h1]at r
   rcases r with q|⟨l',h2,r⟩
   ·cases q
   simp only[L.ren]at r
   cases r
   rw[h2]
   cases e
   exact⟨_,rfl, .inr ⟨_,rfl,rfl⟩⟩
  ·cases e
 |field x g off n=>
  simp only[bJ]at e⊢
  have r:=s.ev x
  split at e
  ·rename_i ls h1
   rw[h1]at r
   obtain⟨ls',h2,r⟩:=r
   rw[h2]
   exact tU r e
  ·cases e
 |indexA z x i=>
  simp only[bJ]at e⊢
  split at e
  ·rename_i k n h1
   rw[(s.ev i).isInt h1]
   simp only
   split at e
   ·rename_i hn
    rw[if_pos hn]
    have r:=s.ev x
    unfold aH at e⊢
    split at e
    ·rename_i o h2
     rw[h2]at r
     rcases r with q|⟨l',h3,r⟩
     ·cases q
     obtain⟨o',h4,rfl⟩:=fZ r
     rw[h3]
     obtain⟨ob,ob',h5,h6,h7⟩:=s.heap.get h4
     simp only[h5]at e
     simp only[h6]
     cases ob with
     |arr z' es=>
      rw[aX h7 (by simp) (by simp)]
      simp only at e⊢
      split at e
      ·rename_i h8
       cases e
       rw[if_pos h8]
       exact⟨_,rfl, .inr ⟨_,rfl,by simp only[L.ren,h4]⟩⟩
      ·cases e
     |froz z' es=>
      rw[aX h7 (by simp) (by simp)]
      simp only at e⊢
      split at e
      ·rename_i h8
       cases e
       rw[if_pos h8]
       exact⟨_,rfl, .inr ⟨_,rfl,by simp only[L.ren,h4]⟩⟩
      ·cases e
     |darr z' es=>
      rw[aX h7 (by simp) (by simp)]
      simp only at e⊢
      split at e
      ·rename_i h8
       cases e
       rw[if_pos h8]
       exact⟨_,rfl, .inr ⟨_,rfl,by simp only[L.ren,h4]⟩⟩
      ·cases e
     |_=>cases e
    ·rename_i es h2
     rw[h2]at r
     rw[pW r]
     simp only
     split at e
     ·rename_i e0 h3
      split at e
      ·rename_i h4
       cases e
       rw[if_pos h4]
       exact⟨_,rfl, .inr ⟨_,rfl,rfl⟩⟩
      ·cases e
     ·cases e
    ·cases e
   ·cases e
  ·cases e
 |indexS x i=>
  simp only[bJ]at e⊢
  split at e
  ·rename_i t k n h1 h2
   rw[(s.ev x).isStr h1,(s.ev i).isInt h2]
   simp only
   split at e
   ·rename_i hn
    rw[if_pos hn]
    split at e
    ·rename_i b h3
     cases e
     exact⟨_,rfl,bC.pv _⟩
    ·cases e
   ·cases e
  ·cases e
 |extract x i=>
  simp only[bJ]at e⊢
  have r:=s.ev x
  split at e
  ·rename_i vs h1
   rw[h1]at r
   obtain⟨ys,h2,r⟩:=r
   rw[h2]
   simp only
   have key:∀{xs ys:List (Bool×List L)}{i:Nat}{x:Bool×List L},bR f xs ys→xs[i]? =some x→∃y,ys[i]? =some y∧x.1=y.1∧aN f x.2 y.2:=fun{xs}=>by
    induction xs with
    |nil=>intro ys i x _ h;simp at h
    |cons a xs ih=>
     intro ys i x r h
     cases ys with
     |nil=>exact r.elim
     |cons b ys=>
      cases i with
      |zero=>simp at h;subst h;exact⟨b,rfl,r.1,r.2.1⟩
      |succ i=>simpa using ih (i:=i) r.2.2 (by simpa using h)
   split at e
   ·rename_i ls h3
    cases e
    obtain⟨⟨b,ls'⟩,h4,h5,h6⟩:=key r h3
    simp only at h5 h6
    subst h5
    rw[h4]
    exact⟨_,rfl,_,rfl,h6⟩
   ·rename_i l h3
    cases e
    obtain⟨⟨b,ls'⟩,h4,h5,h6⟩:=key r h3
    simp only at h5 h6
    subst h5
    cases ls' with
    |nil=>exact h6.elim
    |cons l' ls'=>
     cases ls' with
     |nil=>rw[h4];exact⟨_,rfl,bC.one h6.1⟩
     |cons _ _=>exact h6.2.elim
   ·cases e
  ·cases e
 |len x=>
  simp only[bJ]at e⊢
  split at e
  ·rename_i es h1
   cases e
   rw[((s.ev x).asList s.heap h1).1]
   exact⟨_,rfl,bC.pv _⟩
  ·cases e
 |lenS x=>
  simp only[bJ]at e⊢
  split at e
  ·rename_i t h1
   cases e
   rw[(s.ev x).isStr h1]
   exact⟨_,rfl,bC.pv _⟩
  ·cases e
 |call k args fl fz=>
  simp only[bJ]at e⊢
  split at e
  ·rename_i h0
   rw[if_pos h0]
   split at e
   ·rename_i h1
    split at e
    ·rename_i xz h2
     obtain⟨a1,a2,a3⟩:=(aZ.ev s args).view s.heap h2
     rw[←a3,if_pos h1,a2]
     simp only
     split at e
     ·rename_i r h3
      split at e
      ·cases e
      ·rename_i h4
       cases e
       rw[if_neg h4]
       exact⟨_,rfl,FZ (hc _ _ _ h3)⟩
     ·cases e
    ·cases e
   ·cases e
  ·cases e
 |mm isMax x y=>
  simp only[bJ]at e⊢
  split at e
  ·rename_i k a k' b h1 h2
   rw[(s.ev x).isInt h1,(s.ev y).isInt h2]
   simp only
   split at e
   ·rename_i hk
    cases e
    rw[if_pos hk]
    exact⟨_,rfl,bC.pv _⟩
   ·cases e
  ·cases e
 |callV x args=>
  simp only[bJ]at e⊢
  have r:=s.ev x
  split at e
  ·rename_i k caps h1
   rw[h1]at r
   rcases r with q|⟨l',h2,r⟩
   ·cases q
   simp only[L.ren]at r
   cases r
   rw[h2]
   simp only
   split at e
   ·rename_i xz h3
    rw[((aZ.ev s args).view s.heap h3).2.1]
    simp only
    split at e
    ·rename_i r h4
     split at e
     ·rename_i h5
      cases e
      rw[if_pos h5]
      exact⟨_,rfl,FZ (hc _ _ _ h4)⟩
     ·cases e
    ·cases e
   ·cases e
  ·cases e
 |loadB g n a=>
  simp only[bJ]at e⊢
  split at e
  ·rename_i hq
   have hq':bU τ.h (a.ev τ)=true:=Ic s hq
   rw[if_pos hq']
   have key:∃v',bJ call τ (.load g n a)=some v'∧bC f v v':=rU s e
   exact key
  ·cases e
 |loadN g n a r=>
  simp only[bJ]at e⊢
  split at e
  ·rename_i hq
   rw[if_pos (MU s hq)]
   have key:∃v',bJ call τ (.load g n a)=some v'∧bC f v v':=rU s e
   exact key
  ·cases e
 |loadA g n a=>
  simp only[bJ]at e⊢
  split at e
  ·cases e
  ·rename_i hq
   have hq':¬bU τ.h (a.ev τ)=true:=by
    intro hq2
    have r:=s.ev a
    unfold bA at e
    unfold bU at hq
    split at e
    ·rename_i o i j h1
     rw[h1]at r hq
     rcases r with q|⟨l',h2,r⟩
     ·cases q
     obtain⟨o',h3,rfl⟩:=gQ r
     rw[h2]at hq2
     obtain⟨ob,ob',h4,h5,h6⟩:=s.heap.get h3
     rw[h4]at e
     simp only[h4]at hq
     simp only[bU,h5]at hq2
     cases ob with
     |box cs=>exact hq rfl
     |fbox ps=>exact hq rfl
     |arr z es=>rw[aX h6 (by simp) (by simp)]at hq2;cases hq2
     |froz z es=>rw[aX h6 (by simp) (by simp)]at hq2;cases hq2
     |darr z es=>rw[aX h6 (by simp) (by simp)]at hq2;cases hq2
     |_=>cases e
    ·rename_i e' j' h1
     rw[h1]at hq
     exact hq rfl
    ·cases e
   rw[if_neg hq']
   have key:∃v',bJ call τ (.load g n a)=some v'∧bC f v v':=rU s e
   exact key
 |slcF z x lo hi=>
  simp only[bJ]at e⊢
  split at e
  ·rename_i es h1
   have r:=s.ev x
   rw[h1]at r
   rw[pW r]
   simp only
   split at e
   ·rename_i l r h2 h3
    rw[pZ s h2,pZ s h3]
    simp only
    split at e
    ·rename_i h5
     cases e
     rw[if_pos h5]
     exact⟨_,rfl,bC.pv _⟩
    ·cases e
   ·cases e
  ·cases e
 |buildF z ps=>
  simp only[bJ]at e⊢
  split at e
  ·rename_i es h1
   rw[Ij s ps h1]
   simp only
   split at e
   ·rename_i h5
    cases e
    rw[if_pos h5]
    refine⟨_,rfl,?_⟩
    cases es with
    |nil=>exact .inr ⟨_,rfl,rfl⟩
    |cons _ _=>exact bC.pv _
   ·cases e
  ·cases e
 |s2b x=>
  simp only[bJ]at e⊢
  split at e
  ·rename_i t h1
   cases e
   rw[(s.ev x).isStr h1]
   exact⟨_,rfl,bC.pv _⟩
  ·cases e
 |eqS neg ks x y=>
  simp only[bJ]at e⊢
  have r1:=s.ev x
  have r2:=s.ev y
  split at e
  ·rename_i ls ls' h1 h2
   rw[h1]at r1
   rw[h2]at r2
   obtain⟨ms,h3,r1⟩:=r1
   obtain⟨ms',h4,r2⟩:=r2
   rw[h3,h4]
   simp only
   split at e
   ·rename_i b h5
    cases e
    rw[Lb r1 r2 h5]
    exact⟨_,rfl,bC.pv _⟩
   ·cases e
  ·cases e
 |lenZ x=>cases hz
 |indexZ z x i=>cases hz
 |loadZ g n a=>cases hz
 |callF k args=>cases hz
 |_=>cases e
theorem xy (k:HRel f h h'){o o':Nat}(e:f[o]? =some o'){r:Nat×List (List PV)}(hd:bc h o=some r):bc h' o'=some r:=by
 obtain⟨ob,ob',h1,h2,h3⟩:=k.get e
 unfold bc at hd⊢
 rw[h1]at hd
 rw[h2]
 cases ob with
 |arr z es=>rw[aX h3 (by simp) (by simp)];exact hd
 |darr z es=>rw[aX h3 (by simp) (by simp)];exact hd
 |_=>cases hd
theorem Jy (k:HRel f h h'):∀{ls ls':List L},fh f ls ls'→ls.all (L.mov h)=true→ls'.all (L.mov h')=true
 |[],[],_,_=>rfl
 |l::ls,l'::ls',r,e=>by
  simp only[Zr,Zh]at e⊢
  refine⟨?_,Jy k r.2 e.2⟩
  have r1:=r.1
  have e1:=e.1
  cases l with
  |arr o=>
   obtain⟨o',h1,rfl⟩:=fZ r1
   obtain⟨ob,ob',g1,g2,g3⟩:=k.get h1
   simp only[L.mov,g1]at e1
   simp only[L.mov,g2]
   cases ob with
   |arr z es=>rw[aX g3 (by simp) (by simp)];exact e1
   |darr z es=>rw[aX g3 (by simp) (by simp)]
   |_=>cases e1
  |pv p=>simp only[L.ren]at r1;cases r1;exact e1
  |nil=>simp only[L.ren]at r1;cases r1;rfl
  |_=>cases e1
 |[],_::_,e,_=>e.elim
 |_::_,[],e,_=>e.elim
theorem sR :∀{ls ls':List L},fh f ls ls'→∀o'∈ai ls',∃o∈ai ls,f[o]? =some o'
 |[],[],_,o',h=>by simp[ai]at h
 |l::ls,l'::ls',r,o',h=>by
  have r1:=r.1
  cases l with
  |arr o=>
   obtain⟨p,h1,rfl⟩:=fZ r1
   rcases Z8.1 (show o'∈p::ai ls' by simpa[ai]using h)with rfl|h
   ·exact⟨o,by simp[ai],h1⟩
   ·obtain⟨q,h2,h3⟩:=sR r.2 o' h
    exact⟨q,by simp only[ai,List.filterMap_cons,Z8];exact .inr h2,h3⟩
  |ptr o i j=>
   obtain⟨p,h1,rfl⟩:=gQ r1
   obtain⟨q,h2,h3⟩:=sR r.2 o' (by simpa[ai]using h)
   exact⟨q,by simpa[ai]using h2,h3⟩
  |sub o c=>
   obtain⟨p,h1,rfl⟩:=pX r1
   obtain⟨q,h2,h3⟩:=sR r.2 o' (by simpa[ai]using h)
   exact⟨q,by simpa[ai]using h2,h3⟩
  |_=>
   simp only[L.ren]at r1
   cases r1
   obtain⟨q,h2,h3⟩:=sR r.2 o' (by simpa[ai]using h)
   exact⟨q,by simpa[ai]using h2,h3⟩
 |[],_::_,e,_,_=>e.elim
 |_::_,[],e,_,_=>e.elim
theorem kO (k:HRel f h h'):∀{ls ls':List L},fh f ls ls'→(ai ls).Nodup→(ai ls').Nodup
 |[],[],_,_=>by simp[ai]
 |l::ls,l'::ls',r,e=>by
  have r1:=r.1
  cases l with
  |arr o=>
   obtain⟨p,h1,rfl⟩:=fZ r1
   have e':(o::ai ls).Nodup:=by simpa[ai]using e
   have:(p::ai ls').Nodup:=by
    refine Yz.2 ⟨fun hp=> ?_,kO k r.2 (Yz.1 e').2⟩
    obtain⟨q,h2,h3⟩:=sR r.2 p hp
    exact(Yz.1 e').1 (by rw[k.inj h1 h3];exact h2)
   simpa[ai]using this
  |ptr o i j=>obtain⟨p,h1,rfl⟩:=gQ r1;simpa[ai]using kO k r.2 (by simpa[ai]using e)
  |sub o c=>obtain⟨p,h1,rfl⟩:=pX r1;simpa[ai]using kO k r.2 (by simpa[ai]using e)
  |_=>simp only[L.ren]at r1;cases r1;simpa[ai]using kO k r.2 (by simpa[ai]using e)
 |[],_::_,e,_=>e.elim
 |_::_,[],e,_=>e.elim
theorem fh.append :∀{ls ls' ms ms':List L},fh f ls ls'→fh f ms ms'→fh f (ls++ms) (ls'++ms')
 |[],[],_,_,_,k=>k
 |_::_,_::_,_,_,e,k=>⟨e.1,fh.append e.2 k⟩
 |[],_::_,_,_,e,_=>e.elim
 |_::_,[],_,_,e,_=>e.elim
theorem tC.flat :∀{vs vs':List V},tC f vs vs'→fh f (vs.flatMap V.cells) (vs'.flatMap V.cells)
 |[],[],_=>trivial
 |v::vs,v'::vs',e=>by simp only[Yn];exact fh.append e.1 (tC.flat e.2)
 |[],_::_,e=>e.elim
 |_::_,[],e=>e.elim
def SI (f:List Nat)(a b:Option (Nat×List (List PV))):Prop:=(a=none∧b=none)∨∃o o' es,a=some (o,es)∧b=some (o',es)∧f[o]? =some o'
theorem SG (k:HRel f h h'){z:Nat}{v v':V}{src:Option (Nat×List (List PV))}(r:bC f v v')(e:eP h z v=some src):∃src',eP h' z v'=some src'∧SI f src src':=by
 cases v with
 |one l=>
  rcases r with rfl|⟨l',rfl,r⟩
  ·cases e
  cases l with
  |nil=>simp only[L.ren]at r;cases r;simp only[eP]at e⊢;cases e;exact⟨_,rfl, .inl ⟨rfl,rfl⟩⟩
  |arr o=>
   obtain⟨o',h1,rfl⟩:=fZ r
   simp only[eP]at e⊢
   split at e
   ·rename_i z' es hd
    rw[xy k h1 hd]
    simp only
    split at e
    ·rename_i hz
     cases e
     rw[if_pos hz]
     exact⟨_,rfl, .inr ⟨o,o',es,rfl,rfl,h1⟩⟩
    ·cases e
   ·cases e
  |_=>cases e
 |_=>cases e
theorem T1 (k:HRel f h h'){z:Nat}{v v':V}{src src':Option (Nat×List (List PV))}{ys:List (List PV)}(r:bC f v v')(rs:SI f src src')(e:k8 h z src v=some ys):k8 h' z src' v'=some ys∧fh f v.cells v'.cells:=by
 cases v with
 |one l=>
  rcases r with rfl|⟨l',rfl,r⟩
  ·cases e
  cases l with
  |nil=>simp only[L.ren]at r;cases r;simp only[k8]at e⊢;exact⟨e,rfl,trivial⟩
  |pv p=>
   simp only[L.ren]at r
   cases r
   cases p with
   |lst l=>simp only[k8]at e⊢;exact⟨e,rfl,trivial⟩
   |_=>cases e
  |arr o=>
   have r0:=r
   obtain⟨o',h1,rfl⟩:=fZ r
   simp only[k8]at e⊢
   split at e
   ·rename_i z' es hd
    rw[xy k h1 hd]
    simp only
    split at e
    ·rename_i hz
     cases e
     have hn:co src' o'=true:=by
      rcases rs with⟨rfl,rfl⟩|⟨p,p',es',rfl,rfl,hp⟩
      ·rfl
      ·have:=hz.2
       simp only[co,Yb,beq_eq_false_iff_ne]at this⊢
       exact fun q=>this (k.inj hp (by rw[q];exact h1))
     rw[if_pos ⟨hz.1,hn⟩]
     exact⟨rfl,r0,trivial⟩
    ·cases e
   ·cases e
  |_=>cases e
 |_=>cases e
theorem HRel.push0 (k:HRel f h h')(ob:AObj)(hb:∀cs,ob≠ .box cs):HRel (f++[h'.length]) (h++[ob]) (h'++[ob]):=by
 refine k.push ?_
 cases ob with
 |box cs=>exact absurd rfl (hb cs)
 |dead=>trivial
 |_=>rfl
theorem HRel.new (k:HRel f h h'):(f++[h'.length])[h.length]? =some h'.length:=by rw[←k.len];simp
theorem Eo (s:Cln f σ τ)(hc:rt call){op:AOp}{v:V}{h1:List AObj}(hb:∀n a x,op≠ .storeB n a x)(hb2:∀n a x,op≠ .storeD n a x)(hz:op.zOk=true)(e:cI call σ op=some (v,h1)):∃v' h1' g,cI call τ op=some (v',h1')∧HRel (f++g) h1 h1'∧bC (f++g) v v':=by
 cases op with
 |alloc zero=>
  simp only[cI]at e⊢
  cases e
  exact⟨_,_,[τ.h.length],rfl,s.heap.push ⟨zero,rfl,DT hz⟩, .inr ⟨_,rfl,by simp only[L.ren,s.heap.new]⟩⟩
 |box x=>
  simp only[cI]at e⊢
  split at e
  ·rename_i hp
   cases e
   obtain⟨a1,a2⟩:=(s.ev x).plain hp
   rw[if_pos a2]
   exact⟨_,_,[τ.h.length],rfl,s.heap.push ⟨_,rfl,a1.mono⟩, .inr ⟨_,rfl,by simp only[L.ren,s.heap.new]⟩⟩
  ·cases e
 |buildS z parts=>
  simp only[cI]at e⊢
  split at e
  ·rename_i hp
   split at e
   ·rename_i es he
    cases e
    obtain⟨a1,a2⟩:=(aZ.ev s parts).rows s.heap he
    have hlen:∀{vs vs':List V},tC f vs vs'→(vs.all (fun v=>v.cells.length==z))=(vs'.all (fun v=>v.cells.length==z))∧vs.length=vs'.length:=fun{vs}=>by
     induction vs with
     |nil=>intro vs' r;cases vs' with
      |nil=>exact⟨rfl,rfl⟩
      |cons _ _=>exact r.elim
     |cons a vs ih=>intro vs' r;cases vs' with
      |nil=>exact r.elim
      |cons b vs'=>
       obtain⟨i1,i2⟩:=ih r.2
       refine⟨by simp only[Zr,r.1.length,i1],by simp[i2]⟩
    obtain⟨b1,b2⟩:=hlen a1
    rw[b1,b2]at hp
    rw[if_pos hp,a2]
    have k:=s.heap.freezeVs a1
    exact⟨_,_,[_],rfl,k.push0 _ (by simp), .inr ⟨_,rfl,by simp only[L.ren,k.new]⟩⟩
   ·cases e
  ·cases e
 |store n a x=>
  simp only[cI,bB]at e⊢
  have r:=s.ev a
  have rx:=s.ev x
  by_cases hn:(x.ev σ).cells.length=n
  ·rw[if_pos hn]at e
   generalize hv:a.ev σ=va at e r
   cases va with
   |one l=>
    cases l with
    |ptr o i j=>
     rcases r with q|⟨l',h2,r⟩
     ·cases q
     obtain⟨o',h3,rfl⟩:=gQ r
     rw[h2]
     obtain⟨ob,ob',h4,h5,h6⟩:=s.heap.get h3
     simp only[h4]at e
     simp only[h5]
     cases ob with
     |box cs=>
      obtain⟨cs',rfl,h6⟩:=h6
      simp only at e⊢
      split at e
      ·rename_i hh hcs
       split at hcs
       ·rename_i hp
        cases hcs
        cases e
        obtain⟨a1,a2⟩:=rx.plain hp.2.2
        rw[if_pos (a1.length▸hn),if_pos ⟨hp.1,by rw[←h6.length];exact hp.2.1,a2⟩]
        refine⟨_,_,[],rfl,?_,bC.none⟩
        rw[Zx]
        exact s.heap.set h3 ⟨_,rfl,h6.putAt j a1⟩
       ·cases hcs
      ·cases e
     |arr z es=>
      rw[aX h6 (by simp) (by simp)]
      simp only at e⊢
      cases he:es[i]? with
      |none=>simp[he]at e
      |some e0=>
       cases hps:Gi.viewL σ.h (x.ev σ).cells with
       |none=>simp[he,hps]at e
       |some ps=>
        simp only[he,hps]at e
        obtain⟨a1,a2⟩:=rx.viewL s.heap hps
        split at e
        ·rename_i hh hcs
         split at hcs
         ·rename_i hp
          cases hcs
          cases e
          simp only[a2]
          rw[if_pos (a1.length▸hn),if_pos ⟨hp.1,fh.notArr s.heap h3 a1 hp.2⟩]
          refine⟨_,_,[],rfl,?_,bC.none⟩
          rw[Zx]
          exact(s.heap.freezeLs a1).set h3 rfl
         ·cases hcs
        ·cases e
     |_=>simp at e
    |_=>simp at e
   |_=>simp at e
  ·rw[if_neg hn]at e
   simp at e
 |make bytes zero n=>
  simp only[cI]at e⊢
  split at e
  ·rename_i k m h2
   rw[(s.ev n).isInt h2]
   simp only
   split at e
   ·rename_i h3
    cases e
    rw[if_pos h3]
    exact⟨_,_,[τ.h.length],rfl,s.heap.push0 _ (by simp), .inr ⟨_,rfl,by simp only[L.ren,s.heap.new]⟩⟩
   ·cases e
  ·cases e
 |append z bytes x y=>
  simp only[cI]at e⊢
  have r:=s.ev x
  split at e
  ·rename_i ys h2 h3
   rw[h2]at r
   rcases r with q|⟨l',h4,r⟩
   ·cases q
   simp only[L.ren]at r
   cases r
   rw[h4,((s.ev y).asList s.heap h3).1]
   simp only
   split at e
   ·rename_i h5
    cases e
    rw[if_pos h5]
    exact⟨_,_,[τ.h.length],rfl,s.heap.push0 _ (by simp), .inr ⟨_,rfl,by simp only[L.ren,s.heap.new]⟩⟩
   ·cases e
  ·rename_i o ys h2 h3
   rw[h2]at r
   rcases r with q|⟨l',h4,r⟩
   ·cases q
   obtain⟨o',h5,rfl⟩:=fZ r
   obtain⟨a1,a2⟩:=(s.ev y).asList s.heap h3
   rw[h4,a1]
   obtain⟨ob,ob',h6,h7,h8⟩:=s.heap.get h5
   simp only[h6]at e
   simp only[h7]
   cases ob with
   |arr z' es=>
    rw[aX h8 (by simp) (by simp)]
    simp only at e⊢
    split at e
    ·rename_i h9
     cases e
     rw[if_pos ⟨h9.1,h9.2.1,h9.2.2.1,h9.2.2.2.1,fh.notArr s.heap h5 a2 h9.2.2.2.2⟩]
     have k:=s.heap.set h5 (ob:= .dead) (ob':= .dead) trivial
     have k2:=k.push0 (.arr z (es++ys)) (by simp)
     simp only[Yj]at k2
     have hn:=k.new
     simp only[Yj]at hn
     exact⟨_,_,[_],rfl,k2, .inr ⟨_,rfl,by simp only[L.ren,hn]⟩⟩
    ·cases e
   |_=>cases e
  ·cases e
 |appendS bytes x y=>
  simp only[cI]at e⊢
  have r:=s.ev x
  split at e
  ·rename_i t h2 h3
   rw[h2]at r
   rcases r with q|⟨l',h4,r⟩
   ·cases q
   simp only[L.ren]at r
   cases r
   rw[h4,(s.ev y).isStr h3]
   simp only
   split at e
   ·rename_i h5
    cases e
    rw[if_pos h5]
    exact⟨_,_,[τ.h.length],rfl,s.heap.push0 _ (by simp), .inr ⟨_,rfl,by simp only[L.ren,s.heap.new]⟩⟩
   ·cases e
  ·rename_i o t h2 h3
   rw[h2]at r
   rcases r with q|⟨l',h4,r⟩
   ·cases q
   obtain⟨o',h5,rfl⟩:=fZ r
   rw[h4,(s.ev y).isStr h3]
   obtain⟨ob,ob',h6,h7,h8⟩:=s.heap.get h5
   simp only[h6]at e
   simp only[h7]
   cases ob with
   |arr z' es=>
    rw[aX h8 (by simp) (by simp)]
    simp only at e⊢
    split at e
    ·rename_i h9
     cases e
     rw[if_pos h9]
     have k:=s.heap.set h5 (ob:= .dead) (ob':= .dead) trivial
     have k2:=k.push0 (.arr 1 (es++ar t)) (by simp)
     simp only[Yj]at k2
     have hn:=k.new
     simp only[Yj]at hn
     exact⟨_,_,[_],rfl,k2, .inr ⟨_,rfl,by simp only[L.ren,hn]⟩⟩
    ·cases e
   |_=>cases e
  ·cases e
 |slcL z x lo hi=>
  simp only[cI]at e⊢
  split at e
  ·rename_i es h2
   obtain⟨a1,a2⟩:=(s.ev x).asList s.heap h2
   rw[a1]
   simp only
   split at e
   ·rename_i l r h3 h4
    rw[pZ s h3,pZ s h4]
    simp only
    split at e
    ·rename_i h5
     cases e
     rw[if_pos h5]
     refine⟨_,_,[],rfl,?_,bC.pv _⟩
     rw[Zx]
     exact s.heap.freezeLs a2
    ·cases e
   ·cases e
  ·cases e
 |callD k args=>
  simp only[cI]at e⊢
  split at e
  ·rename_i xz h2
   obtain⟨a1,a2,a3⟩:=(aZ.ev s args).view s.heap h2
   rw[a2]
   simp only
   split at e
   ·rename_i r h3
    cases e
    refine⟨_,_,[],rfl,?_,FZ (hc _ _ _ h3)⟩
    rw[Zx]
    exact s.heap.freezeVs a1
   ·cases e
  ·cases e
 |storeB n a x=>exact absurd rfl (hb n a x)
 |storeD n a x=>exact absurd rfl (hb2 n a x)
 |storeZ n a x=>cases hz
 |allocAt i zero=>cases hz
 |boxW n x=>cases hz
 |allocW zero=>
  simp only[cI]at e⊢
  cases e
  have k1:=s.heap.push (ob:= .box zero) (ob':= .box zero) ⟨zero,rfl,DT hz⟩
  have k2:=k1.push0 .res (by simp)
  rw[Zp,Zp,Zp]at k2
  have hn:(f++([τ.h.length]++[(τ.h++[AObj.box zero]).length]))[σ.h.length]? =some τ.h.length:=by rw[←s.heap.len];simp
  exact⟨_,_,_,rfl,k2, .inr ⟨_,rfl,by simp only[L.ren,hn]⟩⟩
 |callZ k args=>cases hz
 |callM k x y=>cases hz
 |callC k args=>
  simp only[cI]at e⊢
  split at e
  ·rename_i xz h2
   obtain⟨a1,a2,a3⟩:=(aZ.ev s args).view s.heap h2
   rw[a2]
   simp only
   split at e
   ·rename_i r h3
    have e':=(Option.some.inj e)
    have hk:HRel f (if r.closed=true then σ.h else Gi.freezeVs σ.h (args.map (Opd.ev σ))) (if r.closed=true then τ.h else Gi.freezeVs τ.h (args.map (Opd.ev τ))):=by
     split
     ·exact s.heap
     ·exact s.heap.freezeVs a1
    obtain⟨g,k1,k2⟩:=hk.thaw (hc _ _ _ h3)
    rw[e']at k1 k2
    exact⟨_,_,g,rfl,k1,k2⟩
   ·cases e
  ·cases e
 |buildD z parts=>
  simp only[cI]at e⊢
  split at e
  ·rename_i hp
   split at e
   ·rename_i es he
    cases e
    obtain⟨a1,a2⟩:=(aZ.ev s parts).rows s.heap he
    have hlen:∀{vs vs':List V},tC f vs vs'→(vs.all (fun v=>v.cells.length==z))=(vs'.all (fun v=>v.cells.length==z))∧vs.length=vs'.length:=fun{vs}=>by
     induction vs with
     |nil=>intro vs' r;cases vs' with
      |nil=>exact⟨rfl,rfl⟩
      |cons _ _=>exact r.elim
     |cons a vs ih=>intro vs' r;cases vs' with
      |nil=>exact r.elim
      |cons b vs'=>
       obtain⟨i1,i2⟩:=ih r.2
       refine⟨by simp only[Zr,r.1.length,i1],by simp[i2]⟩
    obtain⟨b1,b2⟩:=hlen a1
    simp only[Zh,decide_eq_true_eq]at hp
    rw[b1,b2]at hp
    have hp':((parts.map (Opd.ev τ)).all (fun v=>v.cells.length==z)&&decide (0<z)&&decide ((parts.map (Opd.ev τ)).length*z≤16777216)&&((parts.map (Opd.ev τ)).flatMap V.cells).all (L.mov τ.h)&&decide ((ai ((parts.map (Opd.ev τ)).flatMap V.cells)).Nodup))=true:=by
     simp only[Zh,decide_eq_true_eq]
     exact⟨⟨hp.1.1,Jy s.heap a1.flat hp.1.2⟩,kO s.heap a1.flat hp.2⟩
    rw[if_pos hp',a2]
    have k:=s.heap.freezeVs a1
    exact⟨_,_,[_],rfl,k.push0 _ (by simp), .inr ⟨_,rfl,by simp only[L.ren,k.new]⟩⟩
   ·cases e
  ·cases e
 |appendD z bytes x y=>
  simp only[cI]at e⊢
  split at e
  ·cases e
  ·rename_i src hs
   obtain⟨src',hs',rs⟩:=SG s.heap (s.ev x) hs
   rw[hs']
   simp only
   split at e
   ·cases e
   ·rename_i ys hy
    obtain⟨hy',a1⟩:=T1 s.heap (s.ev y) rs hy
    rw[hy']
    simp only
    have hrows:bu src'=bu src:=by
     rcases rs with⟨rfl,rfl⟩|⟨p,p',es',rfl,rfl,hp⟩<;>rfl
    rw[hrows]
    split at e
    ·rename_i hp
     cases e
     rw[if_pos hp]
     have k:HRel f (ba src (Gi.freezeLs σ.h (y.ev σ).cells)) (ba src' (Gi.freezeLs τ.h (y.ev τ).cells)):=by
      rcases rs with⟨rfl,rfl⟩|⟨p,p',es',rfl,rfl,hq⟩
      ·exact s.heap.freezeLs a1
      ·exact(s.heap.freezeLs a1).set hq trivial
     have hlen:∀(h:List AObj)(ls:List L),(ba src (Gi.freezeLs h ls)).length=(Gi.freezeLs h ls).length:=fun h ls=>by
      rcases rs with⟨rfl,rfl⟩|⟨p,p',es',rfl,rfl,hq⟩<;>simp[ba]
     have hlen':∀(h:List AObj)(ls:List L),(ba src' (Gi.freezeLs h ls)).length=(Gi.freezeLs h ls).length:=fun h ls=>by
      rcases rs with⟨rfl,rfl⟩|⟨p,p',es',rfl,rfl,hq⟩<;>simp[ba]
     have k2:=k.push0 (.darr z (bu src++ys)) (by simp)
     have hn:=k.new
     simp only[hlen,hlen',nw]at k2 hn
     exact⟨_,_,[_],rfl,k2, .inr ⟨_,rfl,by simp only[L.ren,hn]⟩⟩
    ·cases e
 |allocT n=>
  simp only[cI]at e⊢
  cases e
  exact⟨_,_,[τ.h.length],rfl,s.heap.push0 _ (by simp), .inr ⟨_,rfl,rfl⟩⟩
 |storeT n a x=>
  simp only[cI]at e⊢
  have r:=s.ev a
  have rx:=s.ev x
  split at e
  ·rename_i m h1
   rw[h1]at r
   rcases r with q|⟨l',h2,r⟩
   ·cases q
   simp only[L.ren]at r
   cases r
   rw[h2]
   simp only
   split at e
   ·rename_i hp
    cases e
    obtain⟨a1,a2⟩:=rx.plain hp.2.2
    rw[if_pos ⟨hp.1,a1.length▸hp.2.1,a2⟩]
    refine⟨_,_,[],rfl,?_,bC.none⟩
    rw[Zx]
    exact s.heap
   ·cases e
  ·cases e
 |insert k z bytes x i v=>
  simp only[cI]at e⊢
  have rx:=s.ev x
  have ri:=s.ev i
  have rv:=s.ev v
  split at e
  ·rename_i n o2 ex ei ev
   rw[ex]at rx
   rw[ev]at rv
   rcases rx with q|⟨lx,hx,rx⟩
   ·cases q
   simp only[L.ren]at rx
   cases rx
   rcases rv with q|⟨lv,hv,rv⟩
   ·cases q
   obtain⟨o2',h2,rfl⟩:=fZ rv
   rw[hx,hv,ri.isInt ei]
   obtain⟨ob,ob',h5,h6,h7⟩:=s.heap.get h2
   simp only[h5]at e
   simp only[h6]
   cases ob with
   |arr z2 vs=>
    rw[aX h7 (by simp) (by simp)]
    simp only at e⊢
    split at e
    ·rename_i h8
     cases e
     rw[if_pos h8]
     exact⟨_,_,[τ.h.length],rfl,s.heap.push0 _ (by simp), .inr ⟨_,rfl,by simp only[L.ren,s.heap.new]⟩⟩
    ·cases e
   |_=>cases e
  ·rename_i o1 n o2 ex ei ev
   rw[ex]at rx
   rw[ev]at rv
   rcases rx with q|⟨lx,hx,rx⟩
   ·cases q
   obtain⟨o1',h1,rfl⟩:=fZ rx
   rcases rv with q|⟨lv,hv,rv⟩
   ·cases q
   obtain⟨o2',h2,rfl⟩:=fZ rv
   rw[hx,hv,ri.isInt ei]
   obtain⟨oa,oa',a5,a6,a7⟩:=s.heap.get h1
   obtain⟨ob,ob',h5,h6,h7⟩:=s.heap.get h2
   simp only[a5,h5]at e
   simp only[a6,h6]
   cases oa with
   |arr z1 es=>
    cases ob with
    |arr z2 vs=>
     rw[aX h7 (by simp) (by simp),aX a7 (by simp) (by simp)]
     simp only at e⊢
     split at e
     ·rename_i h8
      cases e
      have hne:o1'≠o2':=fun q=>h8.2.2.1 (s.heap.inj h1 (by rw[h2,q]))
      rw[if_pos ⟨h8.1,h8.2.1,hne,h8.2.2.2⟩]
      have k:=s.heap.set h1 (ob:= .dead) (ob':= .dead) trivial
      have k2:=k.push0 (.arr z (es.take n.toNat++vs++es.drop n.toNat)) (by simp)
      simp only[Yj]at k2
      have hn:=k.new
      simp only[Yj]at hn
      exact⟨_,_,[_],rfl,k2, .inr ⟨_,rfl,by simp only[L.ren,hn]⟩⟩
     ·cases e
    |_=>cases e
   |_=>cases e
  ·cases e
 |delF k z x gf=>
  simp only[cI]at e⊢
  have rx:=s.ev x
  have rg:=s.ev gf
  split at e
  ·rename_i c cs ex eg
   rw[ex]at rx
   rw[eg]at rg
   rcases rx with q|⟨lx,hx,rx⟩
   ·cases q
   simp only[L.ren]at rx
   cases rx
   rcases rg with q|⟨lg,hg,rg⟩
   ·cases q
   simp only[L.ren]at rg
   cases rg
   rw[hx,hg]
   simp only
   cases e
   refine⟨_,_,[],rfl,?_, .inr ⟨_,rfl,rfl⟩⟩
   rw[Zx]
   exact s.heap
  ·rename_i o c cs ex eg
   rw[ex]at rx
   rw[eg]at rg
   rcases rx with q|⟨lx,hx,rx⟩
   ·cases q
   obtain⟨o',h10,rfl⟩:=fZ rx
   rcases rg with q|⟨lg,hg,rg⟩
   ·cases q
   simp only[L.ren]at rg
   cases rg
   rw[hx,hg]
   obtain⟨oa,oa',a5,a6,a7⟩:=s.heap.get h10
   simp only[BN,a5]at e
   simp only[BN,a6]
   have fin:∀{es:List (List PV)},(match ft call c (cs.map tR) es with
    |some es'=>some (V.one (.arr σ.h.length),σ.h.set o .dead++[.arr z es'])
    |none=>none)=some (v,h1)→∃v' h1' g,(match ft call c (cs.map tR) es with
    |some es'=>some (V.one (.arr τ.h.length),τ.h.set o' .dead++[.arr z es'])
    |none=>none)=some (v',h1')∧HRel (f++g) h1 h1'∧bC (f++g) v v':=by
    intro es e
    split at e
    ·rename_i es' h8
     cases e
     have k:=s.heap.set h10 (ob:= .dead) (ob':= .dead) trivial
     have k2:=k.push0 (.arr z es') (by simp)
     simp only[Yj]at k2
     have hn:=k.new
     simp only[Yj]at hn
     exact⟨_,_,[_],rfl,k2, .inr ⟨_,rfl,by simp only[L.ren,hn]⟩⟩
    ·cases e
   cases oa with
   |arr z2 es=>
    rw[aX a7 (by simp) (by simp)]
    simp only at e⊢
    split at e
    ·rename_i hz
     rw[if_pos hz]
     exact fin e
    ·cases e
   |darr z2 es=>
    rw[aX a7 (by simp) (by simp)]
    simp only at e⊢
    split at e
    ·rename_i hz
     rw[if_pos hz]
     exact fin e
    ·cases e
   |_=>cases e
  ·cases e
 |mkfn k caps=>
  simp only[cI]at e⊢
  split at e
  ·rename_i cs hh h2
   cases e
   obtain⟨h1',h3,h4⟩:=D7 s.heap (aZ.ev s caps) h2
   rw[h3]
   refine⟨_,_,[],rfl,?_, .inr ⟨_,rfl,rfl⟩⟩
   rw[Zx]
   exact h4
  ·cases e
 |call k args fl fz=>
  cases fl<;>cases fz<;>simp only[cI]at e⊢ <;>try (cases e;done)
  split at e
  ·rename_i xz h2
   obtain⟨a1,a2,a3⟩:=(aZ.ev s args).view s.heap h2
   rw[a2]
   simp only
   split at e
   ·rename_i r h3
    obtain⟨g,k1,k2⟩:=(s.heap.freezeVs a1).thaw (V.clean_ow (hc _ _ _ h3))
    have e':=(Option.some.inj e)
    rw[e']at k1 k2
    exact⟨_,_,g,rfl,k1,k2⟩
   ·cases e
  ·cases e
 |_=>cases e
theorem RN (s:Cln f σ τ)(hc:rt call){n:Nat}{a x:Opd}{v:V}{h1:List AObj}(e:cI call σ (.storeD n a x)=some (v,h1)):∃v' h1' g,cI call τ (.storeD n a x)=some (v',h1')∧HRel (f++g) h1 h1'∧bC (f++g) v v':=by
 have old:bB σ.h n (a.ev σ) (x.ev σ)=some h1→v= .tup []→∃h1' g,bB τ.h n (a.ev τ) (x.ev τ)=some h1'∧HRel (f++g) h1 h1'∧bC (f++g) (.tup []) (.tup []):=fun hs hv=>by
  obtain⟨v',h1',g,q1,q2,q3⟩:=Eo s hc (op:= .store n a x) (v:= .tup []) (h1:=h1) (fun _ _ _ h=>by cases h) (fun _ _ _ h=>by cases h) rfl (by simp only[cI,hs])
  simp only[cI]at q1
  split at q1
  ·rename_i hh hhs
   cases q1
   exact⟨h1',g,hhs,q2,bC.none⟩
  ·cases q1
 simp only[cI]at e⊢
 split at e
 ·rename_i hh hs
  cases e
  have r:=s.ev a
  unfold storeD at hs⊢
  split at hs
  ·rename_i o i j ha
   rw[ha]at r
   rcases r with q|⟨l',ha',r⟩
   ·cases q
   obtain⟨o',h3,rfl⟩:=gQ r
   rw[ha']
   simp only
   split at hs
   ·rename_i z es hd
    rw[xy s.heap h3 hd]
    simp only
    split at hs
    ·rename_i e0 ps he hps
     obtain⟨a1,a2⟩:=(s.ev x).viewL s.heap hps
     rw[he,a2]
     simp only
     split at hs
     ·rename_i hp
      cases hs
      rw[if_pos ⟨a1.length▸hp.1,hp.2.1,fh.notArr s.heap h3 a1 hp.2.2.1,Jy s.heap a1 hp.2.2.2.1,kO s.heap a1 hp.2.2.2.2⟩]
      refine⟨_,_,[],rfl,?_,bC.none⟩
      rw[Zx]
      exact(s.heap.freezeLs a1).set h3 rfl
     ·cases hs
    ·cases hs
   ·rename_i hd
    have hd':bc τ.h o'=none:=by
     obtain⟨ob,ob',g1,g2,g3⟩:=s.heap.get h3
     unfold bc at hd⊢
     rw[g1]at hd
     rw[g2]
     cases ob with
     |arr z es=>rw[aX g3 (by simp) (by simp)];exact hd
     |darr z es=>cases hd
     |box cs=>obtain⟨cs',rfl,_⟩:=g3;rfl
     |dead=>
      unfold bB at hs
      rw[ha]at hs
      simp[g1]at hs
     |_=>rw[aX g3 (by simp) (by simp)]
    rw[hd']
    simp only
    obtain⟨h1',g,q1,q2,q3⟩:=old hs rfl
    rw[ha']at q1
    rw[q1]
    exact⟨_,_,g,rfl,q2,q3⟩
  ·cases hs
 ·cases e
theorem Tn (s:Cln f σ τ)(hc:rt call){op:AOp}{v:V}{h1:List AObj}(hz:op.zOk=true)(e:cI call σ op=some (v,h1)):∃v' h1' g,cI call τ op=some (v',h1')∧HRel (f++g) h1 h1'∧bC (f++g) v v':=by
 by_cases hb:∃n a x,op= .storeB n a x
 ·obtain⟨n,a,x,rfl⟩:=hb
  simp only[cI]at e
  split at e
  ·rename_i hq
   have hq':=Ic s hq
   obtain⟨v',h1',g,q1,q2,q3⟩:=Eo s hc (op:= .store n a x) (fun _ _ _ h=>by cases h) (fun _ _ _ h=>by cases h) rfl (v:=v) (h1:=h1) (by simp only[cI];exact e)
   refine⟨v',h1',g,?_,q2,q3⟩
   simp only[cI]at q1⊢
   rw[if_pos hq']
   exact q1
  ·cases e
 ·by_cases hb2:∃n a x,op= .storeD n a x
  ·obtain⟨n,a,x,rfl⟩:=hb2
   exact RN s hc e
  ·exact Eo s hc (fun n a x h=>hb ⟨n,a,x,h⟩) (fun n a x h=>hb2 ⟨n,a,x,h⟩) hz e
theorem Iw (s:Cln f σ τ){g:Option (Nat×Bool)}{b:Bool}(e:bf σ g=some b):bf τ g=some b:=by
 cases g with
 |none=>exact e
 |some g=>
  obtain⟨t,w⟩:=g
  simp only[bf]at e⊢
  have r:=s.tmps.getD t
  split at e
  ·rename_i c h1
   rw[h1]at r
   rw[pW r]
   exact e
  ·rename_i h1
   rw[h1]at r
   obtain⟨ys,h2,r⟩:=r
   rw[h2]
   cases ys with
   |nil=>exact e
   |cons _ _=>exact r.elim
  ·cases e
theorem QR (s:Cln f σ τ)(hc:rt call){o:AOper}{σ':St}(hz:o.op.zOk=true)(e:aJ call o σ=some σ'):∃τ' g,aJ call o τ=some τ'∧Cln (f++g) σ' τ':=by
 unfold aJ at e⊢
 split at e
 ·rename_i hw
  rw[Iw s hw]
  simp only
  split at e
  ·rename_i v h1
   cases e
   obtain⟨v',h2,r⟩:=OE s hc hz h1
   rw[h2]
   exact⟨_,[],rfl,by rw[Zx];exact⟨s.heap,s.tmps.put _ r⟩⟩
  ·rename_i h1
   split at e
   ·rename_i v h2 h3
    cases e
    obtain⟨v',h2',g,e1,k,r⟩:=Tn s hc hz h3
    rw[Ov (call':=call) e1,e1]
    exact⟨_,g,rfl,k,s.tmps.mono.put _ r⟩
   ·cases e
 ·rename_i hw
  rw[Iw s hw]
  cases e
  exact⟨_,[],rfl,by rw[Zx];exact⟨s.heap,s.tmps.put _ bC.none⟩⟩
 ·cases e
theorem B9 (hc:rt call):∀{os:List AOper}{f:List Nat}{σ τ σ':St},Cln f σ τ→(os.all fun o=>o.op.zOk)=true→ah call os σ=some σ'→∃τ' g,ah call os τ=some τ'∧Cln (f++g) σ' τ'
 |[],f,σ,τ,σ',s,_,e=>by simp only[ah]at e⊢;cases e;exact⟨_,[],rfl,by rw[Zx];exact s⟩
 |o::os,f,σ,τ,σ',s,hz,e=>by
  simp only[Zr,Zh]at hz
  simp only[ah]at e⊢
  split at e
  ·rename_i σ1 h1
   obtain⟨τ1,g,h2,s1⟩:=QR s hc hz.1 h1
   rw[h2]
   obtain⟨τ2,g2,h3,s2⟩:=B9 hc s1 hz.2 e
   exact⟨τ2,g++g2,h3,by rw[←Zp];exact s2⟩
  ·cases e
def Kn (σ τ:St):Prop:=∃f,Cln f σ τ
theorem Oz (hc:rt call):∀{c:ACode},c.zOk=true→∀{σ τ σ':St}{e:Ex},Kn σ τ→aw call aL c σ=some (e,σ')→∃τ',aw call aL c τ=some (e,τ')∧Kn σ' τ':=by
 intro c
 induction c with
 |skip=>intro _ σ τ σ' e k h;simp only[aw]at h⊢;cases h;exact⟨_,rfl,k⟩
 |region ops=>
  intro hz σ τ σ' e k h
  simp only[aw]at h⊢
  split at h
  ·rename_i σ1 h1
   cases h
   obtain⟨f,s⟩:=k
   obtain⟨τ',g,h2,s2⟩:=B9 hc s hz h1
   rw[h2]
   exact⟨_,rfl,_,s2⟩
  ·cases h
 |seq a b iha ihb=>
  intro hz σ τ σ' e k h
  simp only[ACode.zOk,Zh]at hz
  simp only[aw]at h⊢
  cases ha:aw call aL a σ with
  |none=>simp[ha]at h
  |some x=>
   obtain⟨e1,σ1⟩:=x
   obtain⟨τ1,h1,k1⟩:=iha hz.1 k ha
   rw[h1]
   rw[ha]at h
   cases e1 with
   |normal=>exact ihb hz.2 k1 h
   |_=>cases h;exact⟨_,rfl,k1⟩
 |cond c a b iha ihb=>
  intro hz σ τ σ' e k h
  simp only[ACode.zOk,Zh]at hz
  simp only[aw]at h⊢
  split at h
  ·rename_i t h1
   obtain⟨f,s⟩:=k
   rw[(s.ev c).isBool h1]
   cases t with
   |true=>exact iha hz.1 ⟨f,s⟩ h
   |false=>exact ihb hz.2 ⟨f,s⟩ h
  ·cases h
 |block id c ih=>
  intro hz σ τ σ' e k h
  simp only[aw]at h⊢
  cases ha:aw call aL c σ with
  |none=>simp[ha]at h
  |some x=>
   obtain⟨e1,σ1⟩:=x
   obtain⟨τ1,h1,k1⟩:=ih hz k ha
   rw[h1]
   rw[ha]at h
   cases e1 with
   |exit i=>
    simp only at h⊢
    split at h
    ·rename_i hi;rw[if_pos hi];cases h;exact⟨_,rfl,k1⟩
    ·rename_i hi;rw[if_neg hi];cases h;exact⟨_,rfl,k1⟩
   |_=>cases h;exact⟨_,rfl,k1⟩
 |loop c ih=>
  intro hz σ τ σ' e k h
  simp only[aw]at h⊢
  obtain⟨n,hn⟩:=mH.1 h
  have key:∀(n:Nat){σ τ:St},Kn σ τ→eU n (aw call aL c) σ=some (e,σ')→∃τ',eU n (aw call aL c) τ=some (e,τ')∧Kn σ' τ':=by
   intro n
   induction n with
   |zero=>intro σ τ _ h;simp[eU]at h
   |succ n ihn=>
    intro σ τ k h
    cases ha:aw call aL c σ with
    |none=>simp[eU,ha]at h
    |some x=>
     obtain⟨e1,σ1⟩:=x
     obtain⟨τ1,h1,k1⟩:=ih hz k ha
     cases e1 with
     |normal=>
      rw[yd ha]at h
      rw[yd h1]
      exact ihn k1 h
     |_=>
      rw[BF ha (by simp)]at h
      cases h
      exact⟨_,BF h1 (by simp),k1⟩
  obtain⟨τ',h1,k1⟩:=key n k hn
  exact⟨τ',mH.2 ⟨n,h1⟩,k1⟩
 |exit id=>intro _ σ τ σ' e k h;simp only[aw]at h⊢;cases h;exact⟨_,rfl,k⟩
 |ret=>intro _ σ τ σ' e k h;simp only[aw]at h⊢;cases h;exact⟨_,rfl,k⟩
end
end Gi
