/- Of this proof. -/
import Derived.Test.YtgmnakghjemjlaaGreatGid
set_option linter.unusedSimpArgs false
set_option linter.unusedVariables false
namespace Gi
open Go
variable {KI:KF}
section
variable {Γ:Ctx}{P:Program}{M0:Nat→Prop}{base:Nat}{σ:St}{a:Act}{w:World}{ρ:List (Option Nat)}
theorem aq (s:SR Γ M0 base σ a w ρ){x:Operand}{y:Opd}(h:fk x=some y):VR (Mu M0 ρ σ.h) w ρ σ.h (y.ev σ) (a.eval x):=by
 unfold fk at h
 split at h<;>cases h
 ·exact s.fr.eval _
 ·simp[Opd.ev,VR,LR,ak,Act.eval]
 ·simp[Opd.ev,VR,LR,ak,Act.eval]
 ·simp[Opd.ev,VR,LR,ak,Act.eval]
 ·simp[Opd.ev,VR,LR,Act.eval]
theorem VR.int {M:Nat→Prop}{h:List AObj}{x:V}{u:Value}{k:IntKind}{n:Int}(r:VR M w ρ h x u)(e:isInt x=some (k,n)):u= .int k n:=by
 unfold isInt at e
 split at e<;>simp at e
 obtain⟨rfl,rfl⟩:=e
 simpa[VR,LR,ak]using r
theorem VR.bool {M:Nat→Prop}{h:List AObj}{x:V}{u:Value}{b:Bool}(r:VR M w ρ h x u)(e:isBool x=some b):u= .bool b:=by
 unfold isBool at e
 split at e<;>simp at e
 subst e
 simpa[VR,LR,ak]using r
theorem VR.str {M:Nat→Prop}{h:List AObj}{x:V}{u:Value}{s:List UInt8}(r:VR M w ρ h x u)(e:isStr x=some s):u= .string ⟨s.toArray⟩:=by
 unfold isStr at e
 split at e<;>simp at e
 subst e
 simpa[VR,LR,ak]using r
theorem VR.mkInt {M:Nat→Prop}{h:List AObj}(k:IntKind)(n:Int):VR M w ρ h (aa k n) (.int k n):=by simp[VR,LR,ak]
theorem VR.mkBool {M:Nat→Prop}{h:List AObj}(b:Bool):VR M w ρ h (au b) (.bool b):=by simp[VR,LR,ak]
theorem VR.mkStr {M:Nat→Prop}{h:List AObj}(s:List UInt8):VR M w ρ h (dS s) (.string ⟨s.toArray⟩):=by simp[VR,LR,ak]
theorem sP (l:List UInt8):(⟨l.toArray⟩:ByteArray).toList=l:=by
 have:(⟨l.toArray⟩:ByteArray).toList=l:=by simp[ByteArray.toList_eq]
 exact this
theorem Hs (op:BinOp)(t:TypeId)(x y:Operand)(k k':IntKind)(m n:Int):(eqGuard op t x y (.int k m) (.int k' n)).run P w= .ok () w:=by
 unfold eqGuard;split<;>simp
theorem Ht (op:BinOp)(t:TypeId)(x y:Operand)(m n:ByteArray):(eqGuard op t x y (.string m) (.string n)).run P w= .ok () w:=by
 unfold eqGuard;split<;>simp
theorem vp (op:BinOp)(t:TypeId)(x y:Operand)(m n:Bool):(eqGuard op t x y (.bool m) (.bool n)).run P w= .ok () w:=by
 unfold eqGuard;split<;>simp
theorem DA {op:BinOp}{k:IntKind}{m n:Int}{t:TypeId}{v:V}(h:bD op k m n=some v)(hs:op≠ .shl∧op≠ .shr):∃u,(binOp op t (.int k m) (.int k n)).run P w= .ok u w∧∀M h',VR M w ρ h' v u:=by
 cases op<;>simp[bD]at h hs<;>(try subst h)
 case quo=>
  obtain⟨h0,rfl⟩:=h
  exact⟨_,by simp[binOp,Op.intDiv,h0],fun _ _=>VR.mkInt _ _⟩
 case rem=>
  obtain⟨h0,rfl⟩:=h
  exact⟨_,by simp[binOp,Op.intDiv,h0],fun _ _=>VR.mkInt _ _⟩
 case and=>exact⟨_,by simp[binOp,Op.intBits],fun _ _=>VR.mkInt _ _⟩
 case or=>exact⟨_,by simp[binOp,Op.intBits],fun _ _=>VR.mkInt _ _⟩
 case add=>exact⟨_,by simp[binOp,Op.intArith],fun _ _=>VR.mkInt _ _⟩
 case sub=>exact⟨_,by simp[binOp,Op.intArith],fun _ _=>VR.mkInt _ _⟩
 case mul=>exact⟨_,by simp[binOp,Op.intArith],fun _ _=>VR.mkInt _ _⟩
 all_goals exact⟨_,by simp[binOp,Op.intCmp],fun _ _=>VR.mkBool _⟩
theorem qF {op:BinOp}{k k':IntKind}{m n:Int}{t:TypeId}{v:V}(h:kN op k m n=some v)(hs:op= .shl∨op= .shr):∃u,(binOp op t (.int k m) (.int k' n)).run P w= .ok u w∧∀M h',VR M w ρ h' v u:=by
 unfold kN at h
 split at h
 ·cases h
 ·rename_i hn
  rcases hs with rfl|rfl<;>simp at h<;>subst h
  ·exact⟨_,by simp[binOp,Op.shift,hn],fun _ _=>VR.mkInt _ _⟩
  ·exact⟨_,by simp[binOp,Op.shift,hn],fun _ _=>VR.mkInt _ _⟩
theorem DB {op:BinOp}{x y:List UInt8}{t:TypeId}{v:V}(h:io op x y=some v):∃u,(binOp op t (.string ⟨x.toArray⟩) (.string ⟨y.toArray⟩)).run P w= .ok u w∧∀M h',VR M w ρ h' v u:=by
 have e1:=sP x
 have e2:=sP y
 cases op<;>simp[io]at h<;>(try subst h)
 case add=>
  obtain⟨hl,rfl⟩:=h
  refine⟨.string ⟨(x++y).toArray⟩,?_,fun _ _=>VR.mkStr _⟩
  have h1:¬(((⟨x.toArray⟩:ByteArray).size+(⟨y.toArray⟩:ByteArray).size:Nat):Int)>IntKind.i64.max:=by
   have a1:(⟨x.toArray⟩:ByteArray).size=x.length:=by simp[ByteArray.size]
   have a2:(⟨y.toArray⟩:ByteArray).size=y.length:=by simp[ByteArray.size]
   rw[a1,a2]
   have:IntKind.i64.max=9223372036854775807:=by decide
   rw[this]
   omega
  have h2:((⟨x.toArray⟩:ByteArray)++(⟨y.toArray⟩:ByteArray))=⟨(x++y).toArray⟩:=by
   apply ByteArray.ext
   simp
  simp only[binOp,Op.stringOp,if_neg h1,h2]
  simp
 all_goals exact⟨_,by simp[binOp,Op.stringOp,e1,e2],fun _ _=>VR.mkBool _⟩
theorem ED {op:BinOp}{x y v:V}{u1 u2:Value}{t:TypeId}{ox oy:Operand}{M:Nat→Prop}{h:List AObj}(hb:bin op x y=some v)(r1:VR M w ρ h x u1)(r2:VR M w ρ h y u2):
 ∃u,(do eqGuard op t ox oy u1 u2;binOp op t u1 u2:Sem Value).run P w= .ok u w∧VR M w ρ h v u:=by
 unfold bin at hb
 split at hb
 ·rename_i k m k' n
  obtain rfl:u1= .int k m:=by simpa[VR,LR,ak]using r1
  obtain rfl:u2= .int k' n:=by simpa[VR,LR,ak]using r2
  have step:∀{v':V},(∃u,(binOp op t (.int k m) (.int k' n)).run P w= .ok u w∧∀M h',VR M w ρ h' v' u)→∃u,(do eqGuard op t ox oy (.int k m) (.int k' n);binOp op t (.int k m) (.int k' n):Sem Value).run P w= .ok u w∧VR M w ρ h v' u:=by
   rintro v' ⟨u,hu,hr⟩
   exact⟨u,by rw[Sem.run_bind,Hs,Result.andThen_ok];exact hu,hr _ _⟩
  split at hb
  ·exact step (qF hb (.inl rfl))
  ·exact step (qF hb (.inr rfl))
  ·rename_i h1 h2
   split at hb
   ·rename_i e
    subst e
    exact step (DA hb ⟨h1,h2⟩)
   ·cases hb
 ·rename_i m n
  obtain rfl:u1= .string ⟨m.toArray⟩:=by simpa[VR,LR,ak]using r1
  obtain rfl:u2= .string ⟨n.toArray⟩:=by simpa[VR,LR,ak]using r2
  obtain⟨u,hu,hr⟩:=DB (P:=P) (w:=w) (ρ:=ρ) (t:=t) hb
  exact⟨u,by rw[Sem.run_bind,Ht,Result.andThen_ok];exact hu,hr _ _⟩
 ·cases hb
theorem N6 {op:UnOp}{x v:V}{u1:Value}{M:Nat→Prop}{h:List AObj}(hb:un op x=some v)(r1:VR M w ρ h x u1):∃u,(Op.unary op u1).run P w= .ok u w∧VR M w ρ h v u:=by
 unfold un at hb
 split at hb
 ·rename_i b
  obtain rfl:u1= .bool b:=by simpa[VR,LR,ak]using r1
  cases hb
  exact⟨_,by simp[Op.unary],VR.mkBool _⟩
 ·rename_i k n
  obtain rfl:u1= .int k n:=by simpa[VR,LR,ak]using r1
  cases hb
  exact⟨_,by simp[Op.unary,Op.intArith],VR.mkInt _ _⟩
 ·cases hb
theorem V.not_tup {x:V}(h:x.cells.all plain=true):∀xs,x≠ .tup xs:=by
 rintro xs rfl
 simp[V.cells,plain]at h
theorem VR.cells {M:Nat→Prop}{h:List AObj}{x:V}{u:Value}(r:VR M w ρ h x u)(hx:∀xs,x≠ .tup xs):pG M w ρ h x.cells u.cells.toList:=by
 cases x with
 |one l=>
  have h1:u.oneCell'=true:=LR.one r
  have:u.cells= #[u]:=by cases u<;>first|rfl|cases h1
  rw[this]
  exact⟨rfl,fun i l' v hl hv=>by
   cases i with
   |zero=>simp[V.cells]at hl hv;subst hl;subst hv;exact r
   |succ i=>simp[V.cells]at hl⟩
 |agg ls=>obtain⟨cs,rfl,hl⟩:=r;exact hl
 |tup xs=>exact absurd rfl (hx xs)
theorem EG {g:Bool}{n j:Nat}{cs:List L}{v:V}{us:List Value}{M:Nat→Prop}{h:List AObj}(hc:f9 g n j cs=some v)(r:pG M w ρ h cs us):
 (g=true∧j+n≤us.length∧VR M w ρ h v (.agg ((us.drop j).take n).toArray))∨(g=false∧n=1∧∃u,us[j]? =some u∧VR M w ρ h v u):=by
 unfold f9 at hc
 split at hc
 ·rename_i hle
  split at hc
  ·rename_i hg
   cases hc
   refine .inl ⟨hg,by rw[←r.1];exact hle,_,rfl,?_,fun i l u hl hu=> ?_⟩
   ·simp[r.1]
   ·simp only[List.getElem?_take,List.getElem?_drop]at hl hu
    split at hl
    ·rename_i hi
     simp only[hi,if_true]at hu
     exact r.2 _ l u hl hu
    ·cases hl
  ·rename_i hg
   split at hc
   ·rename_i hn
    split at hc
    ·rename_i l hl
     cases hc
     have hj:j<us.length:=by rw[←r.1];omega
     exact .inr ⟨by simpa using hg,hn,us[j],by simp[hj],r.2 j l _ hl (by simp[hj])⟩
    ·cases hc
   ·cases hc
 ·cases hc
theorem Jr {h:List AObj}{g:Bool}{n:Nat}{x v:V}{u:Value}(k:HR M0 base w ρ h)(hl:bn h g n x=some v)(r:VR (Mu M0 ρ h) w ρ h x u):
 ∃b o,u= .pointer (some ⟨b,o,none⟩)∧
  ((g=true∧∃us:List Value,us.length=n∧w.rangeAt b o us∧VR (Mu M0 ρ h) w ρ h v (.agg us.toArray))∨(g=false∧n=1∧∃u',w.cell? ⟨b,o,none⟩=some u'∧VR (Mu M0 ρ h) w ρ h v u')):=by
 have fin:∀{cs:List L}{us:List Value}{j b o0:Nat},f9 g n j cs=some v→pG (Mu M0 ρ h) w ρ h cs us→(∀i u',us[i]? =some u'→w.cell? ⟨b,o0+i,none⟩=some u')→u= .pointer (some ⟨b,o0+j,none⟩)→
  ∃b o,u= .pointer (some ⟨b,o,none⟩)∧
  ((g=true∧∃us:List Value,us.length=n∧w.rangeAt b o us∧VR (Mu M0 ρ h) w ρ h v (.agg us.toArray))∨(g=false∧n=1∧∃u',w.cell? ⟨b,o,none⟩=some u'∧VR (Mu M0 ρ h) w ρ h v u')):=by
  intro cs us j b o0 hc hls hcell hu
  refine⟨b,o0+j,hu,?_⟩
  rcases EG hc hls with⟨hg,hle,hv⟩|⟨hg,hn,u',hu',hv⟩
  ·refine .inl ⟨hg,(us.drop j).take n,by simp;omega,fun i u' hi=> ?_,hv⟩
   simp only[List.getElem?_take,List.getElem?_drop]at hi
   split at hi
   ·have:=hcell _ u' hi
    rwa[show o0+j+i=o0+(j+i) by omega]
   ·cases hi
  ·exact .inr ⟨hg,hn,u',hcell j u' hu',hv⟩
 have rowcase:∀{z:Nat}{es:List (List PV)}{e:List PV}{i j b:Nat}{cur:Array Value},es[i]? =some e→(∀e∈es,e.length=z)→gC w b cur→
  (∀(i:Nat)(e:List PV)(j:Nat)(p:PV),es[i]? =some e→e[j]? =some p→∃v,cur[i*z+j]? =some v∧ak (Mu M0 ρ h) w p v)→f9 g n j (e.map .pv)=some v→u= .pointer (some ⟨b,i*z+j,none⟩)→
  ∃b o,u= .pointer (some ⟨b,o,none⟩)∧
  ((g=true∧∃us:List Value,us.length=n∧w.rangeAt b o us∧VR (Mu M0 ρ h) w ρ h v (.agg us.toArray))∨(g=false∧n=1∧∃u',w.cell? ⟨b,o,none⟩=some u'∧VR (Mu M0 ρ h) w ρ h v u')):=by
  intro z es e i j b cur he hz hrow hcells hc hu
  have hlen:∀j',j'<e.length→∃v,cur[i*z+j']? =some v∧ak (Mu M0 ρ h) w (e[j']?.getD (.bool false)) v:=fun j' hj'=>by
   obtain⟨v,hv,hr⟩:=hcells i e j' (e[j']) he (by simp[hj'])
   exact⟨v,hv,by simpa[hj']using hr⟩
  have us:∃us:List Value,us.length=e.length∧∀i' u',us[i']? =some u'→cur[i*z+i']? =some u':=by
   refine⟨(List.range e.length).map fun i'=>cur[i*z+i']?.getD undef,by simp,fun i' u' hu'=> ?_⟩
   simp only[List.getElem?_map,Option.map_eq_some_iff]at hu'
   obtain⟨x,hx,rfl⟩:=hu'
   obtain⟨h1,h2⟩:=List.getElem?_eq_some_iff.1 hx
   simp at h1 h2
   subst h2
   obtain⟨v,hv,_⟩:=hlen i' h1
   simp[hv]
  obtain⟨us,hl1,hl2⟩:=us
  refine fin (us:=us) (o0:=i*z) (b:=b) hc ⟨by simp[hl1],fun i' l u' hl hu'=> ?_⟩ (fun i' u' hu'=>by rw[hrow.cell];exact hl2 i' u' hu') hu
  simp only[List.getElem?_map,Option.map_eq_some_iff]at hl
  obtain⟨p,hp,rfl⟩:=hl
  obtain⟨v',hv',hr⟩:=hcells i e i' p he hp
  have:=hl2 i' u' hu'
  rw[hv']at this
  cases this
  exact hr
 unfold bn at hl
 split at hl
 ·rename_i o i j
  obtain⟨r0,ob,hr0,hob,hpt⟩:=r
  split at hl
  ·rename_i cs hcs
   rw[hcs]at hob;cases hob
   split at hl
   ·rename_i hi
    subst hi
    obtain⟨b,cur,e,hbase,hrow,hls⟩:=k.objs o _ r0 hcs hr0
    obtain⟨b',e',hu⟩:=hpt
    rw[e]at e';cases e'
    simp[AObj.z]at hu
    exact fin (o0:=0) (b:=b) hl hls (fun i u' hi=>by rw[hrow.cell];simpa using hi) (by simpa using hu)
   ·cases hl
  ·rename_i z es hcs
   rw[hcs]at hob;cases hob
   obtain⟨hz,hes,kx⟩:=k.objs o _ r0 hcs hr0
   obtain⟨b',e',hu⟩:=hpt
   subst e'
   obtain⟨_,cur,cap,hrow,h1,h2,h3,h4⟩:=kx
   split at hl
   ·rename_i e he
    exact rowcase he hes hrow h4 hl (by simpa[AObj.z]using hu)
   ·cases hl
  ·rename_i z es hcs
   rw[hcs]at hob;cases hob
   obtain⟨hz,hes,kx⟩:=k.objs o _ r0 hcs hr0
   obtain⟨b',e',hu⟩:=hpt
   subst e'
   obtain⟨_,cur,cap,hrow,h1,h2,h3,h4⟩:=kx
   split at hl
   ·rename_i e he
    exact rowcase he hes hrow h4 hl (by simpa[AObj.z]using hu)
   ·cases hl
  ·rename_i z es hcs
   rw[hcs]at hob;cases hob
   obtain⟨hz,hes,kx⟩:=k.objs o _ r0 hcs hr0
   obtain⟨b',e',hu⟩:=hpt
   subst e'
   obtain⟨_,cur,cap,hrow,h1,h2,h3,h4⟩:=kx
   split at hl
   ·rename_i e he
    exact rowcase he hes hrow h4 hl (by simpa[AObj.z]using hu)
   ·cases hl
  ·rename_i ps hcs
   rw[hcs]at hob;cases hob
   split at hl
   ·rename_i hi
    subst hi
    obtain⟨b,cur,e,hm,hrow,hlen,hrd⟩:=k.objs o _ r0 hcs hr0
    obtain⟨b',e',hu⟩:=hpt
    rw[e]at e';cases e'
    simp[AObj.z]at hu
    refine fin (us:=cur.toList) (o0:=0) (b:=b) hl ⟨by simp[hlen],fun i' l u' hl' hu'=> ?_⟩ (fun i u' hi=>by rw[hrow.cell];simpa using hi) (by simpa using hu)
    simp only[List.getElem?_map,Option.map_eq_some_iff]at hl'
    obtain⟨p,hp,rfl⟩:=hl'
    obtain⟨v',hv',hr⟩:=hrd i' p hp
    have:cur[i']? =some u':=by simpa using hu'
    rw[hv']at this
    cases this
    exact hr
   ·cases hl
  ·cases hl
 ·rename_i e j
  obtain⟨b,o,hu,hb,hlt,hrd⟩:=r
  have us:∃us:List Value,us.length=e.length∧∀i' u',us[i']? =some u'→w.cell? ⟨b,o+i',none⟩=some u':=by
   refine⟨(List.range e.length).map fun i'=>(w.cell? ⟨b,o+i',none⟩).getD undef,by simp,fun i' u' hu'=> ?_⟩
   simp only[List.getElem?_map,Option.map_eq_some_iff]at hu'
   obtain⟨x,hx,rfl⟩:=hu'
   obtain⟨h1,h2⟩:=List.getElem?_eq_some_iff.1 hx
   simp at h1 h2
   subst h2
   obtain⟨v,hv,_⟩:=hrd.at (j:=i') (p:=e[i']) (by simp[h1])
   simp[hv]
  obtain⟨us,hl1,hl2⟩:=us
  refine fin (us:=us) (o0:=o) (b:=b) hl ⟨by simp[hl1],fun i' l u' hl hu'=> ?_⟩ hl2 hu
  simp only[List.getElem?_map,Option.map_eq_some_iff]at hl
  obtain⟨p,hp,rfl⟩:=hl
  obtain⟨v',hv',hr⟩:=hrd.at hp
  have:=hl2 i' u' hu'
  rw[hv']at this
  cases this
  exact hr
 ·cases hl
end
end Gi
namespace Gi
open Go
variable {KI:KF}
section
variable {Γ:Ctx}{P:Program}{M0:Nat→Prop}{base:Nat}{σ:St}{a:Act}{w:World}{ρ:List (Option Nat)}
theorem qz {M:Nat→Prop}{b z cap:Nat}{cur:Array Value}{es:List (List PV)}(hrow:gC w b cur)(hes:∀e∈es,e.length=z)(hm:¬M b)(hcap:es.length≤cap)
 (hc:∀(i:Nat)(e:List PV)(j:Nat)(p:PV),es[i]? =some e→e[j]? =some p→∃v,cur[i*z+j]? =some v∧ak M w p v):ak M w (.lst es) (.slice (some ⟨b,0,none⟩) es.length cap):=by
 simp only[ak]
 refine .inr ⟨b,0,cap,z,rfl,hm,hrow.lt,cr.of fun i e he=>⟨hes e (List.mem_of_getElem? he),dh.of fun j p hp=> ?_⟩,hcap⟩
 obtain⟨v,hv,hr⟩:=hc i e j p he hp
 exact⟨v,by rw[hrow.cell];simpa using hv,hr⟩
theorem ak.weak {M M':Nat→Prop}(h:∀b,M' b→M b){p:PV}{v:Value}(r:ak M w p v):ak M' w p v:=
 ak.go ⟨Nat.le_refl _,fun b _=>h b,fun _ _ _=>rfl⟩ p v r
theorem lH {h:List AObj}(k:HR M0 base w ρ h){l:L}{p:PV}{v:Value}(r:LR (Mu M0 ρ h) w ρ h l v)(e:l.view h=some p)(hm:L.mut h l=false):ak (Mu M0 ρ h) w p v:=by
 cases l with
 |pv q=>simp only[L.view]at e;cases e;exact r
 |nil=>
  simp only[L.view]at e;cases e
  obtain⟨_,rfl⟩:=r
  simp only[ak]
  exact .inl ⟨by trivial,_,_,rfl⟩
 |arr o=>
  obtain⟨r0,ob,hr0,hob,hs⟩:=r
  simp only[L.view,hob]at e
  simp only[L.mut,hob]at hm
  cases ob with
  |froz z es=>
   cases e
   obtain⟨hz,hes,kx⟩:=k.objs o _ r0 hob hr0
   cases r0 with
   |none=>
    obtain rfl:es=[]:=kx
    obtain⟨_,rfl⟩:=hs
    simp only[ak]
    exact .inl ⟨by trivial,_,_,rfl⟩
   |some b=>
    obtain⟨hnm,cur,cap,hrow,h1,h2,h3,h4⟩:=kx
    obtain⟨cur',cap',hrow',_,hc',_,rfl⟩:=hs
    exact qz hrow hes hnm hc' h4
  |arr z es=>simp at hm
  |darr z es=>simp at hm
  |zarr z es=>cases e
  |box cs=>cases e
  |fbox ps=>cases e
  |imap kvs=>cases e
  |tbox n=>cases e
  |res=>cases e
  |dead=>cases e
 |_=>cases e
theorem oR {h:List AObj}(k:HR M0 base w ρ h){l:L}{p:PV}{v:Value}(r:LR (Mu M0 ρ h) w ρ h l v)(e:l.view h=some p):ak (fun _=>False) w p v:=by
 by_cases hm:L.mut h l=true
 ·cases l with
  |arr o=>
   obtain⟨r0,ob,hr0,hob,hs⟩:=r
   simp only[L.view,hob]at e
   simp only[L.mut,hob]at hm
   cases ob with
   |arr z es=>
    cases e
    obtain⟨hz,hes,kx⟩:=k.objs o _ r0 hob hr0
    cases r0 with
    |none=>
     obtain rfl:es=[]:=kx
     obtain⟨_,rfl⟩:=hs
     simp only[ak]
     exact .inl ⟨by trivial,_,_,rfl⟩
    |some b=>
     obtain⟨_,cur,cap,hrow,h1,h2,h3,h4⟩:=kx
     obtain⟨cur',cap',hrow',_,hc',_,rfl⟩:=hs
     exact qz hrow hes (fun h=>h) hc' (fun i e j p he hp=>by
      obtain⟨v,hv,hr⟩:=h4 i e j p he hp
      exact⟨v,hv,hr.weak (fun _ h=>h.elim)⟩)
   |darr z es=>
    cases e
    obtain⟨hz,hes,kx⟩:=k.objs o _ r0 hob hr0
    cases r0 with
    |none=>
     obtain rfl:es=[]:=kx
     obtain⟨_,rfl⟩:=hs
     simp only[ak]
     exact .inl ⟨by trivial,_,_,rfl⟩
    |some b=>
     obtain⟨_,cur,cap,hrow,h1,h2,h3,h4⟩:=kx
     obtain⟨cur',cap',hrow',_,hc',_,rfl⟩:=hs
     exact qz hrow hes (fun h=>h) hc' (fun i e j p he hp=>by
      obtain⟨v,hv,hr⟩:=h4 i e j p he hp
      exact⟨v,hv,hr.weak (fun _ h=>h.elim)⟩)
   |_=>simp at hm
  |_=>simp[L.mut]at hm
 ·exact(lH k r e (by simpa using hm)).weak (fun _ h=>h.elim)
theorem qf (s:SR Γ M0 base σ a w ρ){x:V}{u:Value}{es:List (List PV)}(r:VR (Mu M0 ρ σ.h) w ρ σ.h x u)(e:asList σ.h x=some es):ak (fun _=>False) w (.lst es) u:=by
 unfold asList at e
 split at e
 ·rename_i l
  split at e
  ·rename_i es' he
   cases e
   exact oR s.hr r he
  ·cases e
 ·cases e
theorem ak.slice {M:Nat→Prop}{es:List (List PV)}{u:Value}(r:ak M w (.lst es) u):∃ad c,u= .slice ad es.length c:=by
 simp only[ak]at r
 rcases r with⟨rfl,a,c,rfl⟩|⟨b,o,c,z,rfl,_⟩
 ·exact⟨a,c,rfl⟩
 ·exact⟨_,_,rfl⟩
theorem ak.cells {M:Nat→Prop}{es:List (List PV)}{u:Value}(r:ak M w (.lst es) u){z:Nat}(hz:∀e∈es,e.length=z)(hne:es≠[]):
 ∃b o c,u= .slice (some ⟨b,o,none⟩) es.length c∧¬M b∧b<w.heap.size∧∀(i:Nat)(e:List PV)(j:Nat)(p:PV),es[i]? =some e→e[j]? =some p→∃v,w.cell? ⟨b,o+i*z+j,none⟩=some v∧ak M w p v:=by
 simp only[ak]at r
 rcases r with⟨rfl,_⟩|⟨b,o,c,z',rfl,hm,hlt,hr,_⟩
 ·exact absurd rfl hne
 ·obtain⟨e0,es',rfl⟩:=List.exists_cons_of_ne_nil hne
  have h1:z'=z:=by
   have h1:=(cr.at hr (i:=0) (e:=e0) rfl).1
   rw[←h1];exact hz e0 (by simp)
  subst h1
  refine⟨b,o,c,rfl,hm,hlt,fun i e j p he hp=>(cr.at hr he).2.at hp⟩
theorem vl :∀{es:List (List PV)}{s:List UInt8},oY es=some s→∃ns:List Int,es=ns.map (fun n=>[PV.int .u8 n])∧s=ns.map (fun n=>UInt8.ofNat n.toNat)
 |[],s,h=>by simp[oY]at h;subst h;exact⟨[],rfl,rfl⟩
 |e::es,s,h=>by
  unfold oY at h
  split at h
  ·rename_i heq;cases heq
  ·rename_i n r heq
   cases heq
   split at h
   ·rename_i l hl
    cases h
    obtain⟨ns,rfl,rfl⟩:=vl hl
    exact⟨n::ns,rfl,rfl⟩
   ·cases h
  ·cases h
theorem Ji (ns:List Int)(s:ByteArray):ns.foldl (fun r n=>r.push (UInt8.ofNat n.toNat)) s=⟨(s.data.toList++ns.map (fun n=>UInt8.ofNat n.toNat)).toArray⟩:=by
 induction ns generalizing s with
 |nil=>simp
 |cons n ns ih=>
  rw[List.foldl_cons,ih]
  simp[ByteArray.push]
theorem K8 {M:Nat→Prop}{es:List (List PV)}{u:Value}{s:List UInt8}(r:ak M w (.lst es) u)(h:oY es=some s):(Conv.bytesToString u).run P w= .ok (.string ⟨s.toArray⟩) w:=by
 obtain⟨ns,rfl,rfl⟩:=vl h
 by_cases hne:ns=[]
 ·subst hne
  obtain⟨ad,c,rfl⟩:=r.slice
  cases ad with
  |none=>simp[Conv.bytesToString];rfl
  |some ad=>
   have:=run_bytesToString (P:=P) w ad 0 c [] (by simp[loadCells,loadCellsFrom])
   exact this
 ·obtain⟨b,o,c,rfl,_,_,hc⟩:=r.cells (z:=1) (by simp) (by simpa using hne)
  have hl:(loadCells ⟨b,o,none⟩ ns.length).run P w= .ok (ns.map (Value.int .u8)).toArray w:=by
   have:=run_loadCells_list (P:=P) w ⟨b,o,none⟩ (ns.map (Value.int .u8)) (fun j v hv=>by
    simp only[List.getElem?_map,Option.map_eq_some_iff]at hv
    obtain⟨n,hn,rfl⟩:=hv
    obtain⟨v,hv,hr⟩:=hc j [.int .u8 n] 0 (.int .u8 n) (by simp[hn]) rfl
    simp only[ak]at hr;subst hr
    rw[Addr.add_mid]
    simpa using hv)
   simpa using this
  have:=run_bytesToString (P:=P) w ⟨b,o,none⟩ ns.length c ns hl
  rw[Ji]at this
  simpa using this
theorem kP (t:TypeId){n:Nat}(h:qT P t=some n):(Go.sizeOf t).run P w= .ok n w:=by
 unfold qT at h
 cases hi:P.info? t with
 |none=>simp[hi]at h
 |some i=>simp[hi]at h;subst h;simp[Go.sizeOf,typeInfo,hi]
theorem DD (s:SR Γ M0 base σ a w ρ){z:Nat}{x v:V}{u:Value}{n:Nat}{t e:TypeId}{k:IntKind}(ht:kR P t=some e)(hz:qT P e=some z)(r:VR (Mu M0 ρ σ.h) w ρ σ.h x u)(hp:aJ σ.h z x n=some v):
 ∃u',(Instr.indexAt t u (.int k (n:Int))).run P w= .ok u' w∧VR (Mu M0 ρ σ.h) w ρ σ.h v u':=by
 have hu:P.underlying t=some (.slice e):=by
  unfold kR at ht
  split at ht<;>cases ht
  assumption
 have go:∀{b o len cap:Nat},n<len→(Instr.indexAt t (.slice (some ⟨b,o,none⟩) len cap) (.int k (n:Int))).run P w= .ok (.pointer (some ⟨b,o+n*z,none⟩)) w:=by
  intro b o len cap hlt
  have h1:(0:Int)≤(n:Int)∧(n:Int)<(len:Int):=⟨by omega,by omega⟩
  simp[Instr.indexAt,asIntOf,run_underlying hu,kP e hz,hlt,Addr.add_mid]
 unfold aJ at hp
 split at hp
 ·rename_i o
  obtain⟨r0,ob,hr0,hob,hs⟩:=r
  simp only[hob]at hp
  cases ob with
  |arr z' es=>
   simp only at hp
   split at hp
   ·rename_i hlt
    obtain⟨hlt,rfl⟩:=hlt
    cases hp
    cases r0 with
    |none=>
     obtain⟨_,_,kx⟩:=s.hr.objs o _ _ hob hr0
     obtain rfl:es=[]:=kx
     simp at hlt
    |some b=>
     obtain⟨cur,cap,hrow,_,_,_,rfl⟩:=hs
     refine⟨_,go hlt,some b,_,hr0,hob,b,rfl,?_⟩
     simp[AObj.z]
   ·cases hp
  |froz z' es=>
   simp only at hp
   split at hp
   ·rename_i hlt
    obtain⟨hlt,rfl⟩:=hlt
    cases hp
    cases r0 with
    |none=>
     obtain⟨_,_,kx⟩:=s.hr.objs o _ _ hob hr0
     obtain rfl:es=[]:=kx
     simp at hlt
    |some b=>
     obtain⟨cur,cap,hrow,_,_,_,rfl⟩:=hs
     refine⟨_,go hlt,some b,_,hr0,hob,b,rfl,?_⟩
     simp[AObj.z]
   ·cases hp
  |darr z' es=>
   simp only at hp
   split at hp
   ·rename_i hlt
    obtain⟨hlt,rfl⟩:=hlt
    cases hp
    cases r0 with
    |none=>
     obtain⟨_,_,kx⟩:=s.hr.objs o _ _ hob hr0
     obtain rfl:es=[]:=kx
     simp at hlt
    |some b=>
     obtain⟨cur,cap,hrow,_,_,_,rfl⟩:=hs
     refine⟨_,go hlt,some b,_,hr0,hob,b,rfl,?_⟩
     simp[AObj.z]
   ·cases hp
  |zarr z' es=>cases hp
  |box cs=>cases hp
  |fbox ps=>cases hp
  |imap kvs=>cases hp
  |tbox n=>cases hp
  |res=>cases hp
  |dead=>cases hp
 ·rename_i es
  split at hp
  ·rename_i e0 he
   split at hp
   ·rename_i hez
    cases hp
    have hlt:n<es.length:=(List.getElem?_eq_some_iff.1 he).1
    simp only[VR,LR,ak]at r
    rcases r with⟨rfl,_⟩|⟨b,o,c,z',rfl,hm,hb,hr,_⟩
    ·simp at hlt
    ·obtain⟨h1,h2⟩:=cr.at hr he
     rw[hez]at h1;subst h1
     exact⟨_,go hlt,b,o+n*z,by simp,hm,hb,h2⟩
   ·cases hp
  ·cases hp
 ·cases hp
end
end Gi
