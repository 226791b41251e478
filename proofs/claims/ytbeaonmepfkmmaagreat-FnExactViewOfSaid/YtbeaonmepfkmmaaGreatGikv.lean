/- Of this proof. -/
import Derived.Test.YtbeaonmepfkmmaaGreatGihv
set_option linter.unusedSimpArgs false
set_option linter.unusedVariables false
namespace Gi
open Go Go.RowKit
variable {KI:KF}
section
variable {Γ:Ctx}{P:Program}{M0:Nat→Prop}{base:Nat}{σ:St}{a:Act}{w:World}{ρ:List (Option Nat)}
theorem cB (b:Nat):∀(vs:List Value)(o:Nat)(w:World)(cur:Array Value),eY w b cur→o+vs.length≤cur.size→
 ∃cur',eY (w.setCells b o vs) b cur'∧cur'.size=cur.size∧∀i,cur'[i]? =if o≤i∧i<o+vs.length then vs[i-o]? else cur[i]?
 |[],o,w,cur,hr,_=>⟨cur,hr,rfl,fun i=>by rw[if_neg (by simp)]⟩
 |v::vs,o,w,cur,hr,hl=>by
  simp only[Zo]at hl
  have h1:eY (w.setCell ⟨b,o,none⟩ v) b (cur.setIfInBounds o v):=by
   obtain⟨T,hr⟩:=hr
   exact⟨T,heap_setCell_same w b o cur T v hr⟩
  obtain⟨cur',h2,h3,h4⟩:=cB b vs (o+1) _ _ h1 (by simp;omega)
  refine⟨cur',h2,by rw[h3];simp,fun i=> ?_⟩
  rw[h4]
  simp only[Zo]
  by_cases e1:o+1≤i∧i<o+1+vs.length
  ·rw[if_pos e1,if_pos (by omega),show i-o=(i-(o+1))+1 by omega]
   simp
  ·rw[if_neg e1]
   by_cases e2:i=o
   ·subst e2
    rw[if_pos (by omega),Array.getElem?_setIfInBounds_self_of_lt (by omega)]
    simp
   ·rw[if_neg (by omega),Array.getElem?_setIfInBounds_ne (by omega)]
theorem cu (b:Nat):∀(vs:List Value)(o:Nat)(w:World)(k:Nat),k≠b→(w.setCells b o vs).heap[k]? =w.heap[k]?
 |[],_,_,_,_=>rfl
 |v::vs,o,w,k,h=>by
  rw[World.setCells,cu b vs (o+1) _ k h]
  exact heap_setCell_other w ⟨b,o,none⟩ k v h
theorem cC (b:Nat):∀(vs:List Value)(o:Nat)(w:World),(w.setCells b o vs).heap.size=w.heap.size
 |[],_,_=>rfl
 |v::vs,o,w=>by rw[World.setCells,cC b vs (o+1)];simp
theorem bj (b B:Nat)(hB:B≤b):∀(vs:List Value)(o:Nat)(w0 w:World),Below B w0 w→Below B w0 (w.setCells b o vs)
 |[],_,_,_,h=>h
 |v::vs,o,w0,w,h=>by
  rw[World.setCells]
  exact bj b B hB vs (o+1) w0 _ (h.setCell (p:=⟨b,o,none⟩) hB v)
def ju [KF](P:Program)(M0:Nat→Prop)(base:Nat)(σ:St)(w:World)(ρ:List (Option Nat))(v:V)(h':List AObj)(s:Sem Next):Prop:=
 ∃n u w' ρ',s.run P w= .ok n w'∧(n= .value u∨(n= .skip∧u=undef))∧Below base w w'∧HR M0 base w' ρ' h'∧Ch (Mu M0 ρ σ.h) (Mu M0 ρ' h') w w' ρ ρ' σ.h h'∧VR (Mu M0 ρ' h') w' ρ' h' v u
theorem eY.new (w:World)(cells:Array Value)(t:TypeId):eY (w.alloc (.cells cells t)) w.heap.size cells:=⟨t,heap_alloc_new w _⟩
theorem dC (w:World)(o:Obj)(b:Nat)(h:b<w.heap.size):(w.alloc o).heap[b]? =w.heap[b]? :=by
 simp only[World.alloc,Array.getElem?_push]
 rw[if_neg (by omega)]
theorem Rz (k:HR M0 base w ρ σ.h)(t:TypeId)(cells:Array Value)(cs:List L)(hl:rl (Mu M0 ρ σ.h) w ρ σ.h cs cells.toList):
 ∃ρ',Below base w (w.alloc (.cells cells t))∧HR M0 base (w.alloc (.cells cells t)) ρ' (σ.h++[.box cs])∧Ch (Mu M0 ρ σ.h) (Mu M0 ρ' (σ.h++[.box cs])) w (w.alloc (.cells cells t)) ρ ρ' σ.h (σ.h++[.box cs])∧
  VR (Mu M0 ρ' (σ.h++[.box cs])) (w.alloc (.cells cells t)) ρ' (σ.h++[.box cs]) (.one (.ptr σ.h.length 0 0)) (.pointer (some ⟨w.heap.size,0,none⟩)):=by
 obtain⟨h1,h2⟩:=k.push (w':=w.alloc (.cells cells t)) (by simp) (fun b hb=>dC w _ b hb) (some w.heap.size) (.box cs) (fun b e=>by cases e;exact Zk _)
  (fun c=>⟨w.heap.size,cells,rfl,k.le,eY.new w cells t,hl.ch c⟩)
 refine⟨_,(Below.refl _ _).alloc k.le _,h1,h2,some w.heap.size, .box cs,?_,?_,w.heap.size,rfl,by simp⟩
 ·rw[←k.len];simp
 ·simp
theorem mN {h:List AObj}:∀{ls:List L}{ps:List PV},viewL h ls=some ps→ps.length=ls.length∧∀(i:Nat)l,ls[i]? =some l→∃p,ps[i]? =some p∧l.view h=some p
 |[],ps,e=>by simp[viewL]at e;subst e;exact⟨rfl,fun i l hl=>by simp at hl⟩
 |l::ls,ps,e=>by
  unfold viewL at e
  split at e
  ·rename_i p ps' h1 h2
   cases e
   obtain⟨h3,h4⟩:=mN h2
   refine⟨by simp[h3],fun i l' hl=> ?_⟩
   cases i with
   |zero=>simp at hl;subst hl;exact⟨p,rfl,h1⟩
   |succ i=>simpa using h4 i l' (by simpa using hl)
  ·cases e
theorem HU {h:List AObj}(l l':L):l'.view (freezeL h l)=l'.view h:=by
 cases l with
 |arr o=>
  simp only[freezeL]
  split
  ·rename_i z es ho
   cases l' with
   |arr o'=>
    simp only[L.view]
    by_cases e:o=o'
    ·subst e
     rw[Zd (Zb.1 ho).1,ho]
    ·rw[Za e]
   |_=>rfl
  ·rename_i z es ho
   cases l' with
   |arr o'=>
    simp only[L.view]
    by_cases e:o=o'
    ·subst e
     rw[Zd (Zb.1 ho).1,ho]
    ·rw[Za e]
   |_=>rfl
  ·rfl
 |_=>rfl
theorem AI {h:List AObj}(l l':L)(hm:L.mut h l'=false∨l'=l):L.mut (freezeL h l) l'=false:=by
 cases l with
 |arr o=>
  simp only[freezeL]
  split
  ·rename_i z es ho
   cases l' with
   |arr o'=>
    simp only[L.mut]
    by_cases e:o=o'
    ·subst e
     rw[Zd (Zb.1 ho).1]
    ·rw[Za e]
     rcases hm with hm|hm
     ·exact hm
     ·cases hm;exact absurd rfl e
   |_=>rfl
  ·rename_i z es ho
   cases l' with
   |arr o'=>
    simp only[L.mut]
    by_cases e:o=o'
    ·subst e
     rw[Zd (Zb.1 ho).1]
    ·rw[Za e]
     rcases hm with hm|hm
     ·exact hm
     ·cases hm;exact absurd rfl e
   |_=>rfl
  ·rename_i hno hno2
   cases l' with
   |arr o'=>
    rcases hm with hm|hm
    ·exact hm
    ·cases hm
     simp only[L.mut]
   |_=>rfl
 |_=>
  rcases hm with hm|hm
  ·exact hm
  ·subst hm;rfl
theorem ic :∀(ls:List L){h:List AObj}(l':L),l'.view (freezeLs h ls)=l'.view h
 |[],_,_=>rfl
 |l::ls,h,l'=>(ic ls (h:=freezeL h l) l').trans (HU l l')
theorem gV :∀(ls:List L){h:List AObj}(l':L),(L.mut h l'=false∨l'∈ls)→L.mut (freezeLs h ls) l'=false
 |[],h,l',hm=>by rcases hm with hm|hm;exact hm;cases hm
 |l::ls,h,l',hm=>by
  refine gV ls (h:=freezeL h l) l' ?_
  rcases hm with hm|hm
  ·exact .inl (AI l l' (.inl hm))
  ·rcases Z6.1 hm with rfl|hm
   ·exact .inl (AI _ _ (.inr rfl))
   ·exact .inr hm
theorem jk :∀(vs:List V){h:List AObj}(l':L),l'.view (freezeVs h vs)=l'.view h
 |[],_,_=>rfl
 |v::vs,h,l'=>(jk vs (h:=freezeLs h v.cells) l').trans (ic v.cells l')
theorem j9 :∀(vs:List V){h:List AObj}(l':L),(L.mut h l'=false∨∃v∈vs,l'∈v.cells)→L.mut (freezeVs h vs) l'=false
 |[],h,l',hm=>by rcases hm with hm|⟨v,hv,_⟩;exact hm;cases hv
 |v::vs,h,l',hm=>by
  refine j9 vs (h:=freezeLs h v.cells) l' ?_
  rcases hm with hm|⟨v',hv',hl⟩
  ·exact .inl (gV _ l' (.inl hm))
  ·rcases Z6.1 hv' with rfl|hv'
   ·exact .inl (gV _ l' (.inr hl))
   ·exact .inr ⟨v',hv',hl⟩
theorem sO {h h1:List AObj}(k1:HR M0 base w ρ h1){ls:List L}{us:List Value}{ps:List PV}(hl:rl (Mu M0 ρ h1) w ρ h1 ls us)(hv:viewL h ls=some ps)
 (hview:∀l∈ls,l.view h1=l.view h) (hmut:∀l∈ls,L.mut h1 l=false):ps.length=us.length∧∀(j:Nat)p,ps[j]? =some p→∃v,us[j]? =some v∧aw (Mu M0 ρ h1) w p v:=by
 obtain⟨e1,e2⟩:=mN hv
 refine⟨e1.trans hl.1,fun j p hp=> ?_⟩
 have hj:j<ls.length:=by rw[←e1];exact(Zb.1 hp).1
 have hlj:ls[j]? =some ls[j]:=by simp[hj]
 have huj:us[j]? =some (us[j]'(by rw[←hl.1];exact hj)):=by simp[←hl.1,hj]
 obtain⟨p',hp',hview'⟩:=e2 j _ hlj
 rw[hp]at hp';cases hp'
 have hmem:ls[j]∈ls:=Zf hj
 exact⟨_,huj,mP k1 (hl.2 j _ _ hlj huj) (by rw[hview _ hmem];exact hview') (hmut _ hmem)⟩
theorem Aw (s:SR Γ M0 base σ a w ρ){o:Oper}{d:Md}{ao:AOp}{v:V}{h':List AObj}{call:Nat→List V→Option V}{t:TypeId}(hop:o.op= .alloc t)
 (hc:eS P kf d o.op=some ao) (he:cj call σ ao=some (v,h')):ju P M0 base σ w ρ v h' (execOp a.eval o):=by
 rw[hop]at hc;simp only[eS]at hc
 split at hc
 ·rename_i v0 hz
  split at hc
  ·rename_i cs hcs
   cases hc;cases he
   obtain⟨i,hi,hz'⟩:∃i,P.info? t=some i∧i.zero=some v0:=by
    unfold lW at hz
    cases hi:P.info? t with
    |none=>simp[hi]at hz
    |some i=>simp[hi]at hz;exact⟨i,rfl,hz⟩
   obtain⟨ρ',h1,h2,h3,h4⟩:=Rz s.hr t v0.cells cs (pG hcs)
   refine⟨_,_,_,ρ',?_, .inl rfl,h1,h2,h3,h4⟩
   simp only[execOp,hop]
   simp[Instr.alloc,zeroValue,typeInfo,hi,hz',newVar,newRow,run_newObj_alloc]
  ·cases hc
 ·cases hc
theorem OI (s:SR Γ M0 base σ a w ρ){o:Oper}{d:Md}{ao:AOp}{v:V}{h':List AObj}{call:Nat→List V→Option V}{t:TypeId}{x:Operand}(hop:o.op= .box t x)
 (hc:eS P kf d o.op=some ao) (he:cj call σ ao=some (v,h')):ju P M0 base σ w ρ v h' (execOp a.eval o):=by
 rw[hop]at hc;simp only[eS,Zh]at hc
 obtain⟨y,hy,rfl⟩:=hc
 simp only[cj]at he
 split at he
 ·rename_i hpl
  cases he
  have r:=(aC s hy).cells (V.not_tup hpl)
  obtain⟨ρ',h1,h2,h3,h4⟩:=Rz s.hr t (a.eval x).cells _ r
  refine⟨_,_,_,ρ',?_, .inl rfl,h1,h2,h3,h4⟩
  simp only[execOp,hop]
  simp[Instr.box,newVar,newRow,run_newObj_alloc]
 ·cases he
theorem Ii {h:List AObj}(k:HR M0 base w ρ h){w':World}(hs:w.heap.size<w'.heap.size)(hb:∀b,b<w.heap.size→w'.heap[b]? =w.heap[b]?){z cap:Nat}{es:List (List PV)}{cur:Array Value}
 (hz:0<z) (hes:∀e∈es,e.length=z) (hrow:eY w' w.heap.size cur) (h1:cur.size=cap*z) (h2:es.length≤cap) (h3:cap≤maxLen)
 (hr:∀(i:Nat)(e:List PV)(j:Nat)(p:PV),es[i]? =some e→e[j]? =some p→∃v,cur[i*z+j]? =some v∧aw (Mu M0 ρ h) w p v):
 HR M0 base w' (ρ++[some w.heap.size]) (h++[.arr z es])∧Ch (Mu M0 ρ h) (Mu M0 (ρ++[some w.heap.size]) (h++[.arr z es])) w w' ρ (ρ++[some w.heap.size]) h (h++[.arr z es])∧
  VR (Mu M0 (ρ++[some w.heap.size]) (h++[.arr z es])) w' (ρ++[some w.heap.size]) (h++[.arr z es]) (.one (.arr h.length)) (.slice (some ⟨w.heap.size,0,none⟩) es.length cap):=by
 obtain⟨g1,g2⟩:=k.push (w':=w') (Nat.le_of_lt hs) hb (some w.heap.size) (.arr z es) (fun b e=>by cases e;exact Zk _)
  (fun c=>⟨hz,hes,k.le,cur,cap,hrow,h1,h2,h3,fun i e j p he hp=>by
   obtain⟨v,hv,hrd⟩:=hr i e j p he hp
   exact⟨v,hv,aw.go c.go p v hrd⟩⟩)
 refine⟨g1,g2,some w.heap.size, .arr z es,?_,?_,cur,cap,hrow,h1,h2,h3,rfl⟩
 ·rw[←k.len];simp
 ·simp
theorem Mt {h:List AObj}(k:HR M0 base w ρ h){w':World}(hs:w.heap.size<w'.heap.size)(hb:∀b,b<w.heap.size→w'.heap[b]? =w.heap[b]?){z cap:Nat}{es:List (List PV)}{cur:Array Value}
 (hz:0<z) (hes:∀e∈es,e.length=z) (hrow:eY w' w.heap.size cur) (h1:cur.size=cap*z) (h2:es.length≤cap) (h3:cap≤maxLen)
 (hr:∀(i:Nat)(e:List PV)(j:Nat)(p:PV),es[i]? =some e→e[j]? =some p→∃v,cur[i*z+j]? =some v∧aw (Mu M0 ρ h) w p v):
 ∃ρ',HR M0 base w' ρ' (h++[.arr z es])∧Ch (Mu M0 ρ h) (Mu M0 ρ' (h++[.arr z es])) w w' ρ ρ' h (h++[.arr z es])∧
  VR (Mu M0 ρ' (h++[.arr z es])) w' ρ' (h++[.arr z es]) (.one (.arr h.length)) (.slice (some ⟨w.heap.size,0,none⟩) es.length cap):=
 ⟨_,Ii k hs hb hz hes hrow h1 h2 h3 hr⟩
theorem Rv {z:Array Value}{n i j:Nat}(hj:j<z.size)(hi:i<n):(madeCells z (n*z.size))[i*z.size+j]? =some z[j]:=by
 have hlt:i*z.size+j<n*z.size:=by
  calc i*z.size+j<i*z.size+z.size:=by omega
   _=(i+1)*z.size:=by rw[Z9,Nat.one_mul]
   _≤n*z.size:=Z5 _ hi
 have hmod:(i*z.size+j)%z.size=j:=by
  rw[Nat.mul_comm,Nat.mul_add_mod];exact Nat.mod_eq_of_lt hj
 simp[madeCells,hlt,hmod,hj]
theorem O0 {M:Nat→Prop}{v:Value}{p:PV}(e:Vv v=some p):aw M w p v:=by
 unfold Vv at e
 split at e<;>cases e
 ·simp[aw]
 ·simp[aw]
 ·simp[aw]
 ·simp only[aw];exact .inl ⟨by trivial,_,_,rfl⟩
theorem Mo (s:SR Γ M0 base σ a w ρ){o:Oper}{d:Md}{ao:AOp}{v:V}{h':List AObj}{call:Nat→List V→Option V}{t:TypeId}{x y:Operand}(hop:o.op= .makeSlice t x y)
 (hc:eS P kf d o.op=some ao) (he:cj call σ ao=some (v,h')):ju P M0 base σ w ρ v h' (execOp a.eval o):=by
 rw[hop]at hc;simp only[eS]at hc
 split at hc
 ·rename_i e x' y' ht hx hy
  split at hc
  ·rename_i hxy
   subst hxy
   split at hc
   ·rename_i by' z v0 hby hsz hz
    split at hc
    ·rename_i zs hzs
     split at hc
     ·rename_i hzl
      cases hc
      simp only[cj]at he
      split at he
      ·rename_i kk m hm
       split at he
       ·rename_i hb
        obtain⟨h0,hbytes,h63,hzp⟩:=hb
        cases he
        obtain⟨m,rfl⟩:=Int.eq_ofNat_of_zero_le h0
        have ex:=(aC s hx).int hm
        have ey:=(aC s hy).int hm
        obtain⟨i,hi,hz',hs',hb'⟩:∃i,P.info? e=some i∧i.zero=some v0∧i.size=z∧i.bytes=by':=by
         unfold lW at hz;unfold qt at hsz;unfold Np at hby
         cases hi:P.info? e with
         |none=>simp[hi]at hz
         |some i=>simp[hi]at hz hsz hby;exact⟨i,rfl,hz,hsz,hby⟩
        have hu:P.underlying t=some (.slice e):=by
         unfold iO at ht
         split at ht<;>cases ht
         assumption
        have hcs:v0.cells.size=z:=by rw[←hzl,ej hzs];simp
        have hbI:(by':Int)*(m:Int)≤281474976710656:=by rw[Int.mul_comm];omega
        have hrun:=run_make (P:=P) w t e i v0 hu hi hz' kk kk (m:Int) (m:Int) (by omega) (by omega) (by rw[hb'];exact hbI) h63
        simp only[Int.toNat_natCast]at hrun
        rw[hs',←hcs]at hrun
        rw[hzl]
        have hz0:0<z:=by omega
        obtain⟨ρ',g1,g2,g3⟩:=Mt (h:=σ.h) s.hr (w':=w.alloc (.cells (madeCells v0.cells (m*v0.cells.size)) e)) (by simp) (fun b hb=>dC w _ b hb) (z:=z) (cap:=m) (es:=List.replicate m zs) hz0
         (fun e' he'=>by rw[(List.mem_replicate.1 he').2];exact hzl) (eY.new w _ e) (by rw[size_madeCells,hcs]) (by simp) (by simp only[maxLen];omega)
         (fun i' e' j p he' hp=>by
          obtain⟨hi',rfl⟩:i'<m∧zs=e':=by simpa[List.getElem?_replicate]using he'
          obtain⟨v',hv',hcv⟩:=Tm hzs j p hp
          have hj:j<v0.cells.size:=by simpa using(Zb.1 hv').1
          refine⟨v0.cells[j],by rw[←hcs];exact Rv hj hi',?_⟩
          have:v'=v0.cells[j]:=by simpa[hj]using hv'.symm
          rw[←this]
          exact O0 hcv)
        refine⟨.value (.slice (some ⟨w.heap.size,0,none⟩) m m), .slice (some ⟨w.heap.size,0,none⟩) m m,_,ρ',?_, .inl rfl,(Below.refl _ _).alloc s.hr.le _,g1,g2,?_⟩
        ·simp only[execOp,hop,ex,ey]
         simp only[Sem.run_bind,hrun,Result.andThen_ok,Sem.run_pure]
        ·simpa using g3
       ·cases he
      ·cases he
     ·cases hc
    ·cases hc
   ·cases hc
  ·cases hc
 ·cases hc
end
end Gi
namespace Gi
open Go Go.RowKit
variable {KI:KF}
section
variable {Γ:Ctx}{P:Program}{M0:Nat→Prop}{base:Nat}{σ:St}{a:Act}{w:World}{ρ:List (Option Nat)}
theorem nQ {t:TypeId}{n b o:Nat}{u:Value}{cur:Array Value}(hn:qt P t=some n)(hrow:eY w b cur)(hsz:u.cells.size=n)(hle:o+n≤cur.size)(h1:∀v∈u.cells.toList,v.oneCell'=true):
 (Instr.storeAt t (.pointer (some ⟨b,o,none⟩)) u).run P w= .ok () (w.setCells b o u.cells.toList):=by
 have hst:=run_storeCells_cells (P:=P) b o u.cells.toList 0 w (fun j hj=>by
  rw[hrow.cell]
  have:o+j<cur.size:=by simp at hj;omega
  simp[this]) (fun j _=>hrow.free _) h1
 simp only[Nat.add_zero]at hst
 simp[Instr.storeAt,Instr.sureAddr,storeVar,kJ t hn,hsz,hst]
theorem rl.ones {M:Nat→Prop}{h:List AObj}{ls:List L}{us:List Value}(r:rl M w ρ h ls us):∀v∈us,v.oneCell'=true:=fun v hv=>by
 obtain⟨i,hi,rfl⟩:=List.getElem_of_mem hv
 exact(r.2 i (ls[i]'(by rw[r.1];exact hi)) us[i] (by simp[r.1,hi]) (by simp[hi])).one
theorem FT {ob z:Nat}{es:List (List PV)}:∀(ls:List L)(h:List AObj),ls.all (L.notArr ob)=true→h[ob]? =some (.arr z es)→(freezeLs h ls)[ob]? =some (.arr z es):=by
 intro ls
 induction ls with
 |nil=>intro h _ hh;exact hh
 |cons l ls ih=>
  intro h hall hh
  simp only[Zq,Zg]at hall
  refine ih (freezeL h l) hall.2 ?_
  cases l with
  |arr o'=>
   simp only[freezeL]
   split
   ·rw[Za (by simpa[L.notArr]using hall.1)]
    exact hh
   ·rw[Za (by simpa[L.notArr]using hall.1)]
    exact hh
   ·exact hh
  |_=>exact hh
theorem tO {i i' j j' z:Nat}(hj:j<z)(hj':j'<z)(h:i*z+j=i'*z+j'):i=i'∧j=j':=by
 have h1:(i*z+j)/z=i:=by rw[Nat.mul_comm,Nat.mul_add_div (by omega),Nat.div_eq_of_lt hj,Nat.add_zero]
 have h2:(i'*z+j')/z=i':=by rw[Nat.mul_comm,Nat.mul_add_div (by omega),Nat.div_eq_of_lt hj',Nat.add_zero]
 have:i=i':=by rw[←h1,h,h2]
 subst this
 exact⟨rfl,by omega⟩
theorem K4 (s:SR Γ M0 base σ a w ρ){o:Oper}{d:Md}{ao:AOp}{v:V}{h':List AObj}{call:Nat→List V→Option V}{t:TypeId}{x y:Operand}(hop:o.op= .store t x y)
 (hc:eS P kf d o.op=some ao) (he:cj call σ ao=some (v,h')):ju P M0 base σ w ρ v h' (execOp a.eval o):=by
 rw[hop]at hc;simp only[eS]at hc
 split at hc
 ·rename_i n x' y' hn hx hy
  cases hc
  simp only[cj]at he
  split at he
  ·rename_i h'' hst
   cases he
   have rx:=aC s hx
   have ry:=aC s hy
   simp only[bq]at hst
   split at hst
   ·rename_i hlen
    split at hst
    ·rename_i ob i j hev
     rw[hev]at rx
     obtain⟨r0,obj,hr0,hob,hpt⟩:=rx
     split at hst
     ·rename_i cs hcs
      rw[hcs]at hob;cases hob
      split at hst
      ·rename_i hcond
       obtain⟨rfl,hle,hpl⟩:=hcond
       cases hst
       have hls:=ry.cells (V.not_tup hpl)
       obtain⟨b,cur,e,hbase,hrow,hcells⟩:=s.hr.objs ob _ r0 hcs hr0
       subst e
       obtain⟨b',e',hu⟩:=hpt
       cases e'
       simp only[AObj.z,Nat.zero_mul,Nat.zero_add]at hu
       have hsz:(a.eval y).cells.size=n:=by rw[←hlen,hls.1];simp
       have hcl:cs.length=cur.size:=by rw[hcells.1];simp
       have hrun:=nQ (P:=P) hn hrow hsz (by omega) hls.ones (o:=j)
       obtain⟨cur',hrow',hsz',hget⟩:=cB b (a.eval y).cells.toList j w cur hrow (by simp[hsz];omega)
       obtain⟨g1,g2⟩:=s.hr.upd (w':=w.setCells b j (a.eval y).cells.toList) (ob':= .box (putAt cs j (y'.ev σ).cells)) hcs hr0 rfl trivial (cC b _ j w).symm
        (fun k hk=>cu b _ j w k (fun e=>hk (by rw[e])))
        (fun k c e hr=>by cases e;rw[hr.inj hrow];exact⟨cur',hrow',hsz'⟩)
        (fun c=>⟨b,cur',rfl,hbase,hrow',by rw[uU _ _ _ (by omega)];simp only[Array.length_toList,hsz'];exact hcl,fun k l u hl hu'=>by
         rw[uT _ _ _ (by omega)]at hl
         rw[Array.getElem?_toList,hget]at hu'
         simp only[Array.length_toList,hsz]at hu'
         rw[hlen]at hl
         split at hl
         ·rename_i hin
          rw[if_pos hin]at hu'
          exact(hls.2 _ l u hl hu').ch c
         ·rename_i hin
          rw[if_neg hin]at hu'
          exact(hcells.2 _ l u hl (by simpa using hu')).ch c⟩)
       refine⟨.skip,undef,_,ρ,?_, .inr ⟨rfl,rfl⟩,bj b base hbase _ j w w (Below.refl _ _),g1,g2,VR.undef⟩
       simp only[execOp,hop,hu]
       simp[hrun]
      ·cases hst
     ·rename_i z es hcs
      rw[hcs]at hob;cases hob
      split at hst
      ·rename_i e ps hei hps
       split at hst
       ·rename_i hcond
        obtain⟨hle,hna⟩:=hcond
        cases hst
        have hnt:∀xs,y'.ev σ≠ .tup xs:=by
         intro xs e'
         rw[e']at hps
         simp[V.cells,viewL,L.view]at hps
        have hls:=ry.cells hnt
        obtain⟨k1,c1⟩:=s.hr.freezeLs (y'.ev σ).cells
        have hcs1:(freezeLs σ.h (y'.ev σ).cells)[ob]? =some (.arr z es):=FT _ _ hna hcs
        have hls1:rl (Mu M0 ρ (freezeLs σ.h (y'.ev σ).cells)) w ρ (freezeLs σ.h (y'.ev σ).cells) (y'.ev σ).cells (a.eval y).cells.toList:=hls.ch c1
        obtain⟨hpl,hpr⟩:=sO k1 hls1 hps (fun l _=>ic _ l) (fun l hl=>gV _ l (.inr hl))
        obtain⟨hz,hes,kx⟩:=k1.objs ob _ r0 hcs1 hr0
        obtain⟨b',e',hu⟩:=hpt
        subst e'
        simp only[AObj.z]at hu
        obtain⟨hbase,cur,cap,hrow,h1,h2,h3,h4⟩:=kx
        have hsz:(a.eval y).cells.size=n:=by rw[←hlen,hls.1];simp
        have hpn:ps.length=n:=by rw[hpl];simpa using hsz
        have hez:e.length=z:=hes e (Zi hei)
        have hilt:i<es.length:=(Zb.1 hei).1
        have hfit:i*z+j+n≤cur.size:=by
         rw[h1]
         calc i*z+j+n≤i*z+z:=by omega
          _=(i+1)*z:=by rw[Z9,Nat.one_mul]
          _≤cap*z:=Z5 _ (by omega)
        have hrun:=nQ (P:=P) hn hrow hsz hfit hls.ones
        obtain⟨cur',hrow',hsz',hget⟩:=cB b' (a.eval y).cells.toList (i*z+j) w cur hrow (by simp only[Array.length_toList,hsz];exact hfit)
        obtain⟨g1,g2⟩:=k1.upd (w':=w.setCells b' (i*z+j) (a.eval y).cells.toList) (ob':= .arr z (es.set i (putAt e j ps))) hcs1 hr0 rfl ⟨rfl,by simp⟩ (cC b' _ _ w).symm
         (fun k hk=>cu b' _ _ w k (fun e=>hk (by rw[e])))
         (fun k c e hr=>by cases e;rw[hr.inj hrow];exact⟨cur',hrow',hsz'⟩)
         (fun c=>by
          refine⟨hz,fun e1 he1=> ?_,hbase,cur',cap,hrow',by rw[hsz'];exact h1,by simpa using h2,h3,fun i1 e1 j1 p1 hi1 hj1=> ?_⟩
          ·rcases List.mem_or_eq_of_mem_set he1 with hm|rfl
           ·exact hes e1 hm
           ·rw[uU _ _ _ (by omega)];exact hez
          ·rw[hget]
           simp only[Array.length_toList,hsz]
           by_cases hii:i=i1
           ·subst hii
            rw[Zd hilt]at hi1
            cases hi1
            rw[uT _ _ _ (by omega),hpn]at hj1
            split at hj1
            ·rename_i hin
             obtain⟨u,hu1,hu2⟩:=hpr _ _ hj1
             exact⟨u,by rw[if_pos (by omega),show i*z+j1-(i*z+j)=j1-j by omega];exact hu1,aw.go c.go p1 u hu2⟩
            ·rename_i hin
             obtain⟨u,hu1,hu2⟩:=h4 i e j1 p1 hei hj1
             exact⟨u,by rw[if_neg (by omega)];exact hu1,aw.go c.go p1 u hu2⟩
           ·rw[Za hii]at hi1
            obtain⟨u,hu1,hu2⟩:=h4 i1 e1 j1 p1 hi1 hj1
            have hj1z:j1<z:=by rw[←hes e1 (Zi hi1)];exact(Zb.1 hj1).1
            refine⟨u,?_,aw.go c.go p1 u hu2⟩
            rw[if_neg]
            ·exact hu1
            ·intro hin
             have:∃q,q<z∧i1*z+j1=i*z+q:=⟨i1*z+j1-i*z,by omega,by omega⟩
             obtain⟨q,hq,e2⟩:=this
             exact hii (tO hj1z hq e2).1.symm)
        refine⟨.skip,undef,_,ρ,?_, .inr ⟨rfl,rfl⟩,bj b' base hbase _ _ w w (Below.refl _ _),g1,c1.trans g2,VR.undef⟩
        simp only[execOp,hop,hu]
        simp[hrun]
       ·cases hst
      ·cases hst
     ·cases hst
    ·cases hst
   ·cases hst
  ·cases he
 ·cases hc
end
end Gi
namespace Gi
open Go Go.RowKit
variable {KI:KF}
section
variable {Γ:Ctx}{P:Program}{M0:Nat→Prop}{base:Nat}{σ:St}{a:Act}{w:World}{ρ:List (Option Nat)}
theorem iP {h:List AObj}:∀{vs:List V}{es:List (List PV)},aO h vs=some es→es.length=vs.length∧∀(i:Nat)v,vs[i]? =some v→∃e,es[i]? =some e∧viewL h v.cells=some e
 |[],es,e=>by simp[aO]at e;subst e;exact⟨rfl,fun i l hl=>by simp at hl⟩
 |v::vs,es,e=>by
  unfold aO at e
  split at e
  ·rename_i p ps' h1 h2
   cases e
   obtain⟨h3,h4⟩:=iP h2
   refine⟨by simp[h3],fun i l' hl=> ?_⟩
   cases i with
   |zero=>simp at hl;subst hl;exact⟨p,rfl,h1⟩
   |succ i=>simpa using h4 i l' (by simpa using hl)
  ·cases e
theorem sM {z:Nat}:∀(us:List Value)(k:Nat)(cells:Array Value),(∀u∈us,u.cells.size=z)→(k+us.length)*z≤cells.size→
 ∃cells',Instr.fill (fun i=>some (i*z,z)) cells ((us.zipIdx k).map fun x=>(x.2,x.1))=some cells'∧cells'.size=cells.size∧
  (∀i j u,us[i]? =some u→j<z→cells'[(k+i)*z+j]? =u.cells[j]?)∧(∀p,p<k*z→cells'[p]? =cells[p]?)
 |[],k,cells,_,_=>⟨cells,rfl,rfl,fun i j u hu=>by simp at hu,fun p _=>rfl⟩
 |u::us,k,cells,hu,hl=>by
  simp only[Zo]at hl
  have hsz:u.cells.size=z:=hu u (by simp)
  have hkz:k*z+z≤cells.size:=by
   refine Zc ?_ hl
   calc k*z+z=(k+1)*z:=by rw[Z9,Nat.one_mul]
    _≤(k+(us.length+1))*z:=Z5 _ (by omega)
  have hcond:¬(u.cells.size≠z||decide (k*z+u.cells.size>cells.size))=true:=by simp[hsz];omega
  have hfold:u.cells.zipIdx.foldl (fun cs(x:Value×Nat)=>cs.setIfInBounds (k*z+x.2) x.1) cells=(u.cells.toList.zipIdx 0).foldl (fun cs(x:Value×Nat)=>cs.setIfInBounds (k*z+x.2) x.1) cells:=by
   rw[←Array.foldl_toList];simp
  obtain⟨cells',h1,h2,h3,h4⟩:=sM us (k+1) ((u.cells.toList.zipIdx 0).foldl (fun cs(x:Value×Nat)=>cs.setIfInBounds (k*z+x.2) x.1) cells)
   (fun u' hu'=>hu u' (by simp[hu'])) (by rw[An];rwa[show k+1+us.length=k+(us.length+1) by omega])
  refine⟨cells',?_,by rw[h2,An],fun i j u' hu' hj=> ?_,fun p hp=> ?_⟩
  ·simp only[List.zipIdx_cons,Zu,Instr.fill]
   rw[if_neg hcond]
   rw[hfold]
   exact h1
  ·cases i with
   |zero=>
    simp at hu';subst hu'
    rw[Nat.add_zero,h4 _ (by rw[Z9,Nat.one_mul];omega),Ew _ _ 0 cells (by simp[hsz];omega)]
    rw[if_pos (by simp[hsz];omega)]
    simp
   |succ i=>
    have:=h3 i j u' (by simpa using hu') hj
    rwa[show k+1+i=k+(i+1) by omega]at this
  ·rw[h4 p (by rw[Z9,Nat.one_mul];omega),Ew _ _ 0 cells (by simp[hsz];omega),if_neg (by omega)]
theorem Hj (s:SR Γ M0 base σ a w ρ){o:Oper}{d:Md}{ao:AOp}{v:V}{h':List AObj}{call:Nat→List V→Option V}{t:TypeId}{n:Nat}{parts:Array (Nat×Operand)}(hop:o.op= .buildSlice t n parts)
 (hc:eS P kf d o.op=some ao) (he:cj call σ ao=some (v,h')):ju P M0 base σ w ρ v h' (execOp a.eval o):=by
 rw[hop]at hc;simp only[eS]at hc
 split at hc
 ·rename_i e ps ht hps
  split at hc
  ·rename_i z v0 hsz hz
   split at hc
   ·rename_i hcond
    simp only[Zg,beq_iff_eq]at hcond
    obtain⟨hrange,hv0⟩:=hcond
    cases hc
    by_cases q:(d.st&&(ps.isEmpty|| !d.dp))=true
    ·rw[if_pos q]at he;cases he
    rw[if_neg q]at he
    simp only[cj]at he
    split at he
    ·rename_i hchk
     simp only[Zg,decide_eq_true_eq,Zs,beq_iff_eq,List.mem_map,forall_exists_index,and_imp,forall_apply_eq_imp_iff₂,Zv]at hchk
     obtain⟨⟨hall,hz0⟩,h24⟩:=hchk
     split at he
     ·rename_i es hes
      cases he
      obtain⟨i,hi,hz',hs'⟩:∃i,P.info? e=some i∧i.zero=some v0∧i.size=z:=by
       unfold lW at hz;unfold qt at hsz
       cases hi:P.info? e with
       |none=>simp[hi]at hz
       |some i=>simp[hi]at hz hsz;exact⟨i,rfl,hz,hsz⟩
      have hu:P.underlying t=some (.slice e):=by
       unfold iO at ht
       split at ht<;>cases ht
       assumption
      have hplen:ps.length=n:=by rw[ej hps];have:=congrArg List.length hrange;simpa using this
      have hparts:(parts.map fun x=>(x.1,a.eval x.2)).toList=((parts.toList.map fun x=>a.eval x.2).zipIdx 0).map fun x=>(x.2,x.1):=by
       apply List.ext_getElem?
       intro k
       simp only[Array.toList_map,Zm,List.getElem?_zipIdx,Nat.zero_add]
       have hk:(parts.toList.map (·.1))[k]? =(List.range n)[k]? :=by rw[hrange]
       simp only[Zm]at hk
       cases hq:parts.toList[k]? with
       |none=>simp
       |some q=>
        simp only[hq,Option.map_some]at hk⊢
        obtain⟨h1,h2⟩:=Zb.1 hk.symm
        simp at h2
        simp[←h2]
      have hval:∀(k:Nat)q,(parts.toList.map fun x=>a.eval x.2)[k]? =some q→∃y,ps[k]? =some y∧VR (Mu M0 ρ σ.h) w ρ σ.h (y.ev σ) q∧rl (Mu M0 ρ σ.h) w ρ σ.h (y.ev σ).cells q.cells.toList:=by
       intro k q hq
       simp only[Zm,Zh]at hq
       obtain⟨q0,hq0,rfl⟩:=hq
       obtain⟨y,hy,hy'⟩:=gX hps k q0 hq0
       have r:=aC s hy'
       obtain⟨e1,_,he1⟩:=(iP hes).2 k (y.ev σ) (by simp[hy])
       refine⟨y,hy,r,r.cells ?_⟩
       intro xs exs
       rw[exs]at he1
       simp[V.cells,viewL,L.view]at he1
      have hsizes:∀u∈(parts.toList.map fun x=>a.eval x.2),u.cells.size=z:=by
       intro u hu'
       obtain⟨k,hk,rfl⟩:=List.getElem_of_mem hu'
       obtain⟨y,hy,_,hl⟩:=hval k _ (Zl hk)
       have:=hall y (Zi hy)
       rw[←this,hl.1];simp
      have hnl:(parts.toList.map fun x=>a.eval x.2).length=n:=by rw[Zv,←ej hps,hplen]
      obtain⟨cells',hf1,hf2,hf3,_⟩:=sM (z:=z) (parts.toList.map fun x=>a.eval x.2) 0 ((Array.range (n*z)).map (v0.cells[· %v0.cells.size]!)) hsizes (by rw[hnl];simp)
      rw[←hparts,Array.toList_map]at hf1
      have hn24:¬n*z>2^24:=by rw[hplen]at h24;omega
      have hrun:(Instr.buildSlice t n (parts.map fun x=>(x.1,a.eval x.2))).run P w= .ok (.slice (some ⟨w.heap.size,0,none⟩) n n) (w.alloc (.cells cells' e)):=by
       simp only[Instr.buildSlice,Sem.run_bind,run_underlying hu,Result.andThen_ok,kJ e hsz]
       rw[if_neg hn24]
       by_cases hnz:n*z=0
       ·have hr0:Array.range (n*z)= #[]:=by rw[hnz];rfl
        rw[hr0]at hf1
        simp only[hnz,if_true,Sem.run_bind,Sem.run_pure,Result.andThen_ok]
        have hr1:Array.range 0= #[]:=rfl
        simp only[hr1,Array.map_empty]at hf1⊢
        simp[hf1,newRow]
       ·simp only[hnz,if_false]
        have hzv:(zeroValue e).run P w= .ok v0 w:=by simp[zeroValue,typeInfo,hi,hz']
        simp[hzv,hf1,newRow]
      obtain⟨k1,c1⟩:=s.hr.freezeVs (ps.map (Opd.ev σ))
      have hel:es.length=n:=by rw[(iP hes).1];simpa using hplen
      have hrow:∀(i:Nat)(e1:List PV),es[i]? =some e1→∃y q,ps[i]? =some y∧(parts.toList.map fun x=>a.eval x.2)[i]? =some q∧viewL σ.h (y.ev σ).cells=some e1∧rl (Mu M0 ρ σ.h) w ρ σ.h (y.ev σ).cells q.cells.toList:=by
       intro i e1 he1
       have hi':i<n:=by rw[←hel];exact(Zb.1 he1).1
       have hq:(parts.toList.map fun x=>a.eval x.2)[i]? =some ((parts.toList.map fun x=>a.eval x.2)[i]'(by rw[hnl];exact hi')):=by simp[hi',hnl]
       obtain⟨y,hy,_,hl⟩:=hval i _ hq
       obtain⟨e2,he2,hv2⟩:=(iP hes).2 i (y.ev σ) (by simp[hy])
       rw[he1]at he2;cases he2
       exact⟨y,_,hy,hq,hv2,hl⟩
      obtain⟨ρ',g1,g2,g3⟩:=Mt (h:=freezeVs σ.h (ps.map (Opd.ev σ))) k1 (w':=w.alloc (.cells cells' e)) (by simp) (fun b hb=>dC w _ b hb) (z:=z) (cap:=n) (es:=es) hz0
       (fun e1 he1=>by
        obtain⟨k,hk,rfl⟩:=List.getElem_of_mem he1
        obtain⟨y,q,hy,hq,hv,hl⟩:=hrow k _ (Zl hk)
        rw[(mN hv).1]
        exact hall y (Zi hy)) (eY.new w cells' e) (by rw[hf2];simp) (by omega)
       (by
        have:n≤n*z:=Nat.le_mul_of_pos_right n hz0
        simp only[maxLen];omega)
       (fun i e1 j p he1 hp=>by
        obtain⟨y,q,hy,hq,hv,hl⟩:=hrow i e1 he1
        obtain⟨hpl,hpr⟩:=sO k1 (hl.ch c1) hv (fun l _=>jk _ l) (fun l hl'=>j9 _ l (.inr ⟨_,List.mem_map.2 ⟨y,Zi hy,rfl⟩,hl'⟩))
        obtain⟨u,hu1,hu2⟩:=hpr j p hp
        have hj:j<z:=by
         have h1:=(Zb.1 hp).1
         rw[(mN hv).1,hall y (Zi hy)]at h1
         exact h1
        refine⟨u,?_,hu2⟩
        have:=hf3 i j q hq hj
        rw[Nat.zero_add]at this
        rw[this]
        simpa using hu1)
      refine⟨.value (.slice (some ⟨w.heap.size,0,none⟩) n n), .slice (some ⟨w.heap.size,0,none⟩) n n,_,ρ',?_, .inl rfl,(Below.refl _ _).alloc s.hr.le _,g1,c1.trans g2,?_⟩
      ·simp only[execOp,hop]
       have:(parts.map fun(x:Nat×Operand)=>match x with|(i,x)=>(i,a.eval x))=parts.map fun x=>(x.1,a.eval x.2):=rfl
       simp only[Sem.run_bind]
       first|rw[hrun]|(rw[this,hrun])
       simp
      ·rw[hel]at g3;exact g3
     ·cases he
    ·cases he
   ·cases hc
  ·cases hc
 ·cases hc
theorem CJ :∀{ls:List L}{ps:List PV},bR ls=some ps→ls=ps.map .pv
 |[],ps,e=>by simp only[bR]at e;cases e;rfl
 |l::ls,ps,e=>by
  cases l with
  |pv p=>
   simp only[bR]at e
   split at e
   ·rename_i qs h1
    cases e
    rw[CJ h1];rfl
   ·cases e
  |_=>cases e
theorem ua :∀{vs:List V}{es:List (List PV)},cZ vs=some es→es.length=vs.length∧∀(i:Nat)v,vs[i]? =some v→∃e,es[i]? =some e∧v.cells=e.map .pv
 |[],es,e=>by simp only[cZ]at e;cases e;exact⟨rfl,fun i l hl=>by simp at hl⟩
 |v::vs,es,e=>by
  simp only[cZ]at e
  split at e
  ·rename_i p ps' h1 h2
   cases e
   obtain⟨h3,h4⟩:=ua h2
   refine⟨by simp[h3],fun i l' hl=> ?_⟩
   cases i with
   |zero=>simp at hl;subst hl;exact⟨p,rfl,CJ h1⟩
   |succ i=>simpa using h4 i l' (by simpa using hl)
  ·cases e
theorem Hi (s:SR Γ M0 base σ a w ρ){o:Oper}{d:Md}{z:Nat}{ps:List Opd}{v:V}{call:Nat→List V→Option V}
 (hc:eS P kf d o.op=some (.buildF z ps)) (he:bo call σ (.buildF z ps)=some v):∃u w',(execOp a.eval o).run P w= .ok (.value u) w'∧Below w.heap.size w w'∧VR (Mu M0 ρ σ.h) w' ρ σ.h v u:=by
 obtain⟨t,n,parts,hop⟩:∃t n parts,o.op= .buildSlice t n parts:=by
  cases hop:o.op
  case buildSlice t n parts=>exact⟨t,n,parts,rfl⟩
  case makeFunc fn first caps=>rw[hop]at hc;cases fn<;>simp only[eS]at hc<;>first|(cases hc;done)|((repeat' (split at hc))<;>cases hc)
  all_goals
   rw[hop]at hc
   simp only[eS]at hc
   first
   |(cases hc;done)
   |(simp only[Zh]at hc;obtain⟨_,_,hc⟩:=hc;cases hc;done)
   |((repeat' (split at hc))<;>cases hc)
 rw[hop]at hc;simp only[eS]at hc
 split at hc
 ·rename_i e ps' ht hps
  split at hc
  ·rename_i z' v0 hsz hz
   split at hc
   ·rename_i hcond
    simp only[Zg,beq_iff_eq]at hcond
    obtain⟨hrange,hv0⟩:=hcond
    by_cases q:(d.st&&(ps'.isEmpty|| !d.dp))=true
    case neg=>rw[if_neg q]at hc;cases hc
    rw[if_pos q]at hc
    cases hc
    simp only[bo]at he
    split at he
    ·rename_i es hes
     split at he
     ·rename_i hchk
      cases he
      obtain⟨hlen,hz0,h24⟩:=hchk
      have hes1:es.length=ps.length:=by rw[(ua hes).1];simp
      rw[hes1]at h24
      have hall:∀y∈ps,(y.ev σ).cells.length=z:=by
       intro y hy
       obtain⟨k,hk,rfl⟩:=List.getElem_of_mem hy
       obtain⟨e1,he1,hcl⟩:=(ua hes).2 k (ps[k].ev σ) (by simp[hk])
       rw[hcl]
       have:=Zs.1 hlen e1 (Zi he1)
       simpa using this
      obtain⟨i,hi,hz',hs'⟩:∃i,P.info? e=some i∧i.zero=some v0∧i.size=z:=by
       unfold lW at hz;unfold qt at hsz
       cases hi:P.info? e with
       |none=>simp[hi]at hz
       |some i=>simp[hi]at hz hsz;exact⟨i,rfl,hz,hsz⟩
      have hu:P.underlying t=some (.slice e):=by
       unfold iO at ht
       split at ht<;>cases ht
       assumption
      have hplen:ps.length=n:=by rw[ej hps];have:=congrArg List.length hrange;simpa using this
      have hparts:(parts.map fun x=>(x.1,a.eval x.2)).toList=((parts.toList.map fun x=>a.eval x.2).zipIdx 0).map fun x=>(x.2,x.1):=by
       apply List.ext_getElem?
       intro k
       simp only[Array.toList_map,Zm,List.getElem?_zipIdx,Nat.zero_add]
       have hk:(parts.toList.map (·.1))[k]? =(List.range n)[k]? :=by rw[hrange]
       simp only[Zm]at hk
       cases hq:parts.toList[k]? with
       |none=>simp
       |some q=>
        simp only[hq,Option.map_some]at hk⊢
        obtain⟨h1,h2⟩:=Zb.1 hk.symm
        simp at h2
        simp[←h2]
      have hval:∀(k:Nat)q,(parts.toList.map fun x=>a.eval x.2)[k]? =some q→∃y,ps[k]? =some y∧VR (Mu M0 ρ σ.h) w ρ σ.h (y.ev σ) q∧rl (Mu M0 ρ σ.h) w ρ σ.h (y.ev σ).cells q.cells.toList:=by
       intro k q hq
       simp only[Zm,Zh]at hq
       obtain⟨q0,hq0,rfl⟩:=hq
       obtain⟨y,hy,hy'⟩:=gX hps k q0 hq0
       have r:=aC s hy'
       obtain⟨e1,_,he1⟩:=(ua hes).2 k (y.ev σ) (by simp[hy])
       refine⟨y,hy,r,r.cells ?_⟩
       intro xs exs
       rw[exs]at he1
       cases e1<;>simp[V.cells]at he1
      have hsizes:∀u∈(parts.toList.map fun x=>a.eval x.2),u.cells.size=z:=by
       intro u hu'
       obtain⟨k,hk,rfl⟩:=List.getElem_of_mem hu'
       obtain⟨y,hy,_,hl⟩:=hval k _ (Zl hk)
       have:=hall y (Zi hy)
       rw[←this,hl.1];simp
      have hnl:(parts.toList.map fun x=>a.eval x.2).length=n:=by rw[Zv,←ej hps,hplen]
      obtain⟨cells',hf1,hf2,hf3,_⟩:=sM (z:=z) (parts.toList.map fun x=>a.eval x.2) 0 ((Array.range (n*z)).map (v0.cells[· %v0.cells.size]!)) hsizes (by rw[hnl];simp)
      rw[←hparts,Array.toList_map]at hf1
      have hn24:¬n*z>2^24:=by rw[hplen]at h24;omega
      have hrun:(Instr.buildSlice t n (parts.map fun x=>(x.1,a.eval x.2))).run P w= .ok (.slice (some ⟨w.heap.size,0,none⟩) n n) (w.alloc (.cells cells' e)):=by
       simp only[Instr.buildSlice,Sem.run_bind,run_underlying hu,Result.andThen_ok,kJ e hsz]
       rw[if_neg hn24]
       by_cases hnz:n*z=0
       ·have hr0:Array.range (n*z)= #[]:=by rw[hnz];rfl
        rw[hr0]at hf1
        simp only[hnz,if_true,Sem.run_bind,Sem.run_pure,Result.andThen_ok]
        have hr1:Array.range 0= #[]:=rfl
        simp only[hr1,Array.map_empty]at hf1⊢
        simp[hf1,newRow]
       ·simp only[hnz,if_false]
        have hzv:(zeroValue e).run P w= .ok v0 w:=by simp[zeroValue,typeInfo,hi,hz']
        simp[hzv,hf1,newRow]
      have hel:es.length=n:=by rw[hes1,hplen]
      obtain⟨k1,c1⟩:=s.hr.world (w':=w.alloc (.cells cells' e)) (by simp) (fun b hb=>dC w _ b hb)
      refine⟨.slice (some ⟨w.heap.size,0,none⟩) n n,w.alloc (.cells cells' e),?_,(Below.refl _ _).alloc (Zk _) _,?_⟩
      ·simp only[execOp,hop]
       have:(parts.map fun(x:Nat×Operand)=>match x with|(i,x)=>(i,a.eval x))=parts.map fun x=>(x.1,a.eval x.2):=rfl
       simp only[Sem.run_bind]
       first|rw[hrun]|(rw[this,hrun])
       simp
      ·cases es with
       |nil=>
        obtain rfl:n=0:=by simpa using hel.symm
        exact⟨_,rfl⟩
       |cons e0 es0=>
       show aw _ _ (.lst (e0::es0)) _
       simp only[aw]
       refine .inr ⟨w.heap.size,0,n,z,by rw[hel],fun hm=> ?_,by simp,cV.of fun i e1 he1=> ?_,by rw[hel];exact Zk _⟩
       ·rcases hm with hm|⟨oo,ob,ho,hmut,hr⟩
        ·have:=s.hr.old _ hm;have:=s.hr.le;omega
        ·have:=(s.hr.objs oo ob _ ho hr).lt (AObj.mut_live hmut)
         omega
       ·have hi':i<n:=by rw[←hel];exact(Zb.1 he1).1
        have hq:(parts.toList.map fun x=>a.eval x.2)[i]? =some ((parts.toList.map fun x=>a.eval x.2)[i]'(by rw[hnl];exact hi')):=by simp[hi',hnl]
        obtain⟨y,hy,_,hl⟩:=hval i _ hq
        obtain⟨e2,he2,hv2⟩:=(ua hes).2 i (y.ev σ) (by simp[hy])
        rw[he1]at he2;cases he2
        have hlz:e1.length=z:=by have:=hall y (Zi hy);rw[hv2]at this;simpa using this
        refine⟨hlz,dz.of fun j p hp=> ?_⟩
        have hj:j<z:=by rw[←hlz];exact(Zb.1 hp).1
        have hjl:j<((parts.toList.map fun x=>a.eval x.2)[i]'(by rw[hnl];exact hi')).cells.toList.length:=by
         rw[←hl.1,hv2];simpa[hlz]using hj
        have hlr:=hl.2 j (.pv p) _ (by rw[hv2];simp[hp]) (Zl hjl)
        refine⟨_,?_,aw.go c1.go p _ hlr⟩
        rw[(eY.new w cells' e).cell]
        have:=hf3 i j _ hq hj
        rw[Nat.zero_add]at this⊢
        rw[this]
        simp at hjl
        simp[hjl]
     ·cases he
    ·cases he
   ·cases hc
  ·cases hc
 ·cases hc
end
end Gi
