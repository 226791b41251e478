/- Of this proof. -/
import Derived.Test.YtebnmoogdmpepaaGreatGih
set_option linter.unusedSimpArgs false
set_option linter.unusedVariables false
namespace Gi
open Go Go.RowKit
variable {KI:KF}
section
variable {Γ:Ctx}{P:Program}{M0:Nat→Prop}{base:Nat}{σ:St}{a:Act}{w:World}{ρ:List (Option Nat)}
theorem de (b:Nat):∀(vs:List Value)(o:Nat)(w:World)(cur:Array Value),gg w b cur→o+vs.length≤cur.size→
 ∃cur',gg (w.setCells b o vs) b cur'∧cur'.size=cur.size∧∀i,cur'[i]? =if o≤i∧i<o+vs.length then vs[i-o]? else cur[i]?
 |[],o,w,cur,hr,_=>⟨cur,hr,rfl,fun i=>by rw[if_neg (by simp)]⟩
 |v::vs,o,w,cur,hr,hl=>by
  simp only[Zn]at hl
  have h1:gg (w.setCell ⟨b,o,none⟩ v) b (cur.setIfInBounds o v):=by
   obtain⟨T,hr⟩:=hr
   exact⟨T,heap_setCell_same w b o cur T v hr⟩
  obtain⟨cur',h2,h3,h4⟩:=de b vs (o+1) _ _ h1 (by simp;omega)
  refine⟨cur',h2,by rw[h3];simp,fun i=> ?_⟩
  rw[h4]
  simp only[Zn]
  by_cases e1:o+1≤i∧i<o+1+vs.length
  ·rw[if_pos e1,if_pos (by omega),show i-o=(i-(o+1))+1 by omega]
   simp
  ·rw[if_neg e1]
   by_cases e2:i=o
   ·subst e2
    rw[if_pos (by omega),Xb (by omega)]
    simp
   ·rw[if_neg (by omega),Xp (by omega)]
theorem co (b:Nat):∀(vs:List Value)(o:Nat)(w:World)(k:Nat),k≠b→(w.setCells b o vs).heap[k]? =w.heap[k]?
 |[],_,_,_,_=>rfl
 |v::vs,o,w,k,h=>by
  rw[World.setCells,co b vs (o+1) _ k h]
  exact heap_setCell_other w ⟨b,o,none⟩ k v h
theorem cr (b:Nat):∀(vs:List Value)(o:Nat)(w:World),(w.setCells b o vs).heap.size=w.heap.size
 |[],_,_=>rfl
 |v::vs,o,w=>by rw[World.setCells,cr b vs (o+1)];simp
theorem bN (b B:Nat)(hB:B≤b):∀(vs:List Value)(o:Nat)(w0 w:World),Below B w0 w→Below B w0 (w.setCells b o vs)
 |[],_,_,_,h=>h
 |v::vs,o,w0,w,h=>by
  rw[World.setCells]
  exact bN b B hB vs (o+1) w0 _ (h.setCell (p:=⟨b,o,none⟩) hB v)
def jC [KF](P:Program)(M0:Nat→Prop)(base:Nat)(σ:St)(w:World)(ρ:List (Option Nat))(v:V)(h':List AObj)(s:Sem Next):Prop:=
 ∃n u w' ρ',s.run P w= .ok n w'∧(n= .value u∨(n= .skip∧u=undef))∧Below base w w'∧HR M0 base w' ρ' h'∧Ch (Mu M0 ρ σ.h) (Mu M0 ρ' h') w w' ρ ρ' σ.h h'∧VR (Mu M0 ρ' h') w' ρ' h' v u
theorem gg.new (w:World)(cells:Array Value)(t:TypeId):gg (w.alloc (.cells cells t)) w.heap.size cells:=⟨t,heap_alloc_new w _⟩
theorem fg (w:World)(o:Obj)(b:Nat)(h:b<w.heap.size):(w.alloc o).heap[b]? =w.heap[b]? :=by
 simp only[World.alloc,Array.getElem?_push]
 rw[if_neg (by omega)]
theorem RO (k:HR M0 base w ρ σ.h)(t:TypeId)(cells:Array Value)(cs:List L)(hl:ru (Mu M0 ρ σ.h) w ρ σ.h cs cells.toList):
 ∃ρ',Below base w (w.alloc (.cells cells t))∧HR M0 base (w.alloc (.cells cells t)) ρ' (σ.h++[.box cs])∧Ch (Mu M0 ρ σ.h) (Mu M0 ρ' (σ.h++[.box cs])) w (w.alloc (.cells cells t)) ρ ρ' σ.h (σ.h++[.box cs])∧
  VR (Mu M0 ρ' (σ.h++[.box cs])) (w.alloc (.cells cells t)) ρ' (σ.h++[.box cs]) (.one (.ptr σ.h.length 0 0)) (.pointer (some ⟨w.heap.size,0,none⟩)):=by
 obtain⟨h1,h2⟩:=k.push (w':=w.alloc (.cells cells t)) (by simp) (fun b hb=>fg w _ b hb) (some w.heap.size) (.box cs) (fun b e=>by cases e;exact Zl _)
  (fun c=>⟨w.heap.size,cells,rfl,k.le,gg.new w cells t,hl.ch c⟩)
 refine⟨_,(Below.refl _ _).alloc k.le _,h1,h2,some w.heap.size, .box cs,?_,?_,w.heap.size,rfl,by simp⟩
 ·rw[←k.len];simp
 ·simp
theorem mX {h:List AObj}:∀{ls:List L}{ps:List PV},viewL h ls=some ps→ps.length=ls.length∧∀(i:Nat)l,ls[i]? =some l→∃p,ps[i]? =some p∧l.view h=some p
 |[],ps,e=>by simp[viewL]at e;subst e;exact⟨rfl,fun i l hl=>by simp at hl⟩
 |l::ls,ps,e=>by
  unfold viewL at e
  split at e
  ·rename_i p ps' h1 h2
   cases e
   obtain⟨h3,h4⟩:=mX h2
   refine⟨by simp[h3],fun i l' hl=> ?_⟩
   cases i with
   |zero=>simp at hl;subst hl;exact⟨p,rfl,h1⟩
   |succ i=>simpa using h4 i l' (by simpa using hl)
  ·cases e
theorem IX {h:List AObj}(l l':L):l'.view (freezeL h l)=l'.view h:=by
 cases l with
 |arr o=>
  simp only[freezeL]
  split
  ·rename_i z es ho
   cases l' with
   |arr o'=>
    simp only[L.view]
    by_cases e:o=o'
    ·subst e
     rw[Zd (Zb.1 ho).1,ho]
    ·rw[Za e]
   |_=>rfl
  ·rename_i z es ho
   cases l' with
   |arr o'=>
    simp only[L.view]
    by_cases e:o=o'
    ·subst e
     rw[Zd (Zb.1 ho).1,ho]
    ·rw[Za e]
   |_=>rfl
  ·rfl
 |_=>rfl
theorem BO {h:List AObj}(l l':L)(hm:L.mut h l'=false∨l'=l):L.mut (freezeL h l) l'=false:=by
 cases l with
 |arr o=>
  simp only[freezeL]
  split
  ·rename_i z es ho
   cases l' with
   |arr o'=>
    simp only[L.mut]
    by_cases e:o=o'
    ·subst e
     rw[Zd (Zb.1 ho).1]
    ·rw[Za e]
     rcases hm with hm|hm
     ·exact hm
     ·cases hm;exact absurd rfl e
   |_=>rfl
  ·rename_i z es ho
   cases l' with
   |arr o'=>
    simp only[L.mut]
    by_cases e:o=o'
    ·subst e
     rw[Zd (Zb.1 ho).1]
    ·rw[Za e]
     rcases hm with hm|hm
     ·exact hm
     ·cases hm;exact absurd rfl e
   |_=>rfl
  ·rename_i hno hno2
   cases l' with
   |arr o'=>
    rcases hm with hm|hm
    ·exact hm
    ·cases hm
     simp only[L.mut]
   |_=>rfl
 |_=>
  rcases hm with hm|hm
  ·exact hm
  ·subst hm;rfl
theorem ii :∀(ls:List L){h:List AObj}(l':L),l'.view (freezeLs h ls)=l'.view h
 |[],_,_=>rfl
 |l::ls,h,l'=>(ii ls (h:=freezeL h l) l').trans (IX l l')
theorem hJ :∀(ls:List L){h:List AObj}(l':L),(L.mut h l'=false∨l'∈ls)→L.mut (freezeLs h ls) l'=false
 |[],h,l',hm=>by rcases hm with hm|hm;exact hm;cases hm
 |l::ls,h,l',hm=>by
  refine hJ ls (h:=freezeL h l) l' ?_
  rcases hm with hm|hm
  ·exact .inl (BO l l' (.inl hm))
  ·rcases Yh.1 hm with rfl|hm
   ·exact .inl (BO _ _ (.inr rfl))
   ·exact .inr hm
theorem jn :∀(vs:List V){h:List AObj}(l':L),l'.view (freezeVs h vs)=l'.view h
 |[],_,_=>rfl
 |v::vs,h,l'=>(jn vs (h:=freezeLs h v.cells) l').trans (ii v.cells l')
theorem kg :∀(vs:List V){h:List AObj}(l':L),(L.mut h l'=false∨∃v∈vs,l'∈v.cells)→L.mut (freezeVs h vs) l'=false
 |[],h,l',hm=>by rcases hm with hm|⟨v,hv,_⟩;exact hm;cases hv
 |v::vs,h,l',hm=>by
  refine kg vs (h:=freezeLs h v.cells) l' ?_
  rcases hm with hm|⟨v',hv',hl⟩
  ·exact .inl (hJ _ l' (.inl hm))
  ·rcases Yh.1 hv' with rfl|hv'
   ·exact .inl (hJ _ l' (.inr hl))
   ·exact .inr ⟨v',hv',hl⟩
theorem sS {h h1:List AObj}(k1:HR M0 base w ρ h1){ls:List L}{us:List Value}{ps:List PV}(hl:ru (Mu M0 ρ h1) w ρ h1 ls us)(hv:viewL h ls=some ps)
 (hview:∀l∈ls,l.view h1=l.view h) (hmut:∀l∈ls,L.mut h1 l=false):ps.length=us.length∧∀(j:Nat)p,ps[j]? =some p→∃v,us[j]? =some v∧ap (Mu M0 ρ h1) w p v:=by
 obtain⟨e1,e2⟩:=mX hv
 refine⟨e1.trans hl.1,fun j p hp=> ?_⟩
 have hj:j<ls.length:=by rw[←e1];exact(Zb.1 hp).1
 have hlj:ls[j]? =some ls[j]:=by simp[hj]
 have huj:us[j]? =some (us[j]'(by rw[←hl.1];exact hj)):=by simp[←hl.1,hj]
 obtain⟨p',hp',hview'⟩:=e2 j _ hlj
 rw[hp]at hp';cases hp'
 have hmem:ls[j]∈ls:=Zg hj
 exact⟨_,huj,mY k1 (hl.2 j _ _ hlj huj) (by rw[hview _ hmem];exact hview') (hmut _ hmem)⟩
theorem BF (s:SR Γ M0 base σ a w ρ){o:Oper}{d:Md}{ao:AOp}{v:V}{h':List AObj}{call:Nat→List V→Option V}{t:TypeId}(hop:o.op= .alloc t)
 (hc:eV P kf d o.op=some ao) (he:cf call σ ao=some (v,h')):jC P M0 base σ w ρ v h' (execOp a.eval o):=by
 rw[hop]at hc;simp only[eV]at hc
 split at hc
 ·rename_i v0 hz
  split at hc
  ·rename_i cs hcs
   cases hc;cases he
   obtain⟨i,hi,hz'⟩:∃i,P.info? t=some i∧i.zero=some v0:=by
    unfold m4 at hz
    cases hi:P.info? t with
    |none=>simp[hi]at hz
    |some i=>simp[hi]at hz;exact⟨i,rfl,hz⟩
   obtain⟨ρ',h1,h2,h3,h4⟩:=RO s.hr t v0.cells cs (pD hcs)
   refine⟨_,_,_,ρ',?_, .inl rfl,h1,h2,h3,h4⟩
   simp only[execOp,hop]
   simp[Instr.alloc,zeroValue,typeInfo,hi,hz',newVar,newRow,run_newObj_alloc]
  ·cases hc
 ·cases hc
theorem HB (s:SR Γ M0 base σ a w ρ){o:Oper}{d:Md}{ao:AOp}{v:V}{h':List AObj}{call:Nat→List V→Option V}{t:TypeId}{x:Operand}(hop:o.op= .box t x)
 (hc:eV P kf d o.op=some ao) (he:cf call σ ao=some (v,h')):jC P M0 base σ w ρ v h' (execOp a.eval o):=by
 rw[hop]at hc;simp only[eV,Zj]at hc
 obtain⟨y,hy,rfl⟩:=hc
 simp only[cf]at he
 split at he
 ·rename_i hpl
  cases he
  have r:=(aw s hy).cells (V.not_tup hpl)
  obtain⟨ρ',h1,h2,h3,h4⟩:=RO s.hr t (a.eval x).cells _ r
  refine⟨_,_,_,ρ',?_, .inl rfl,h1,h2,h3,h4⟩
  simp only[execOp,hop]
  simp[Instr.box,newVar,newRow,run_newObj_alloc]
 ·cases he
theorem Jc {h:List AObj}(k:HR M0 base w ρ h){w':World}(hs:w.heap.size<w'.heap.size)(hb:∀b,b<w.heap.size→w'.heap[b]? =w.heap[b]?){z cap:Nat}{es:List (List PV)}{cur:Array Value}
 (hz:0<z) (hes:∀e∈es,e.length=z) (hrow:gg w' w.heap.size cur) (h1:cur.size=cap*z) (h2:es.length≤cap) (h3:cap≤maxLen)
 (hr:∀(i:Nat)(e:List PV)(j:Nat)(p:PV),es[i]? =some e→e[j]? =some p→∃v,cur[i*z+j]? =some v∧ap (Mu M0 ρ h) w p v):
 HR M0 base w' (ρ++[some w.heap.size]) (h++[.arr z es])∧Ch (Mu M0 ρ h) (Mu M0 (ρ++[some w.heap.size]) (h++[.arr z es])) w w' ρ (ρ++[some w.heap.size]) h (h++[.arr z es])∧
  VR (Mu M0 (ρ++[some w.heap.size]) (h++[.arr z es])) w' (ρ++[some w.heap.size]) (h++[.arr z es]) (.one (.arr h.length)) (.slice (some ⟨w.heap.size,0,none⟩) es.length cap):=by
 obtain⟨g1,g2⟩:=k.push (w':=w') (Xc hs) hb (some w.heap.size) (.arr z es) (fun b e=>by cases e;exact Zl _)
  (fun c=>⟨hz,hes,k.le,cur,cap,hrow,h1,h2,h3,fun i e j p he hp=>by
   obtain⟨v,hv,hrd⟩:=hr i e j p he hp
   exact⟨v,hv,ap.go c.go p v hrd⟩⟩)
 refine⟨g1,g2,some w.heap.size, .arr z es,?_,?_,cur,cap,hrow,h1,h2,h3,rfl⟩
 ·rw[←k.len];simp
 ·simp
theorem M5 {h:List AObj}(k:HR M0 base w ρ h){w':World}(hs:w.heap.size<w'.heap.size)(hb:∀b,b<w.heap.size→w'.heap[b]? =w.heap[b]?){z cap:Nat}{es:List (List PV)}{cur:Array Value}
 (hz:0<z) (hes:∀e∈es,e.length=z) (hrow:gg w' w.heap.size cur) (h1:cur.size=cap*z) (h2:es.length≤cap) (h3:cap≤maxLen)
 (hr:∀(i:Nat)(e:List PV)(j:Nat)(p:PV),es[i]? =some e→e[j]? =some p→∃v,cur[i*z+j]? =some v∧ap (Mu M0 ρ h) w p v):
 ∃ρ',HR M0 base w' ρ' (h++[.arr z es])∧Ch (Mu M0 ρ h) (Mu M0 ρ' (h++[.arr z es])) w w' ρ ρ' h (h++[.arr z es])∧
  VR (Mu M0 ρ' (h++[.arr z es])) w' ρ' (h++[.arr z es]) (.one (.arr h.length)) (.slice (some ⟨w.heap.size,0,none⟩) es.length cap):=
 ⟨_,Jc k hs hb hz hes hrow h1 h2 h3 hr⟩
theorem RJ {z:Array Value}{n i j:Nat}(hj:j<z.size)(hi:i<n):(madeCells z (n*z.size))[i*z.size+j]? =some z[j]:=by
 have hlt:i*z.size+j<n*z.size:=by
  calc i*z.size+j<i*z.size+z.size:=by omega
   _=(i+1)*z.size:=by rw[Z7,Yv]
   _≤n*z.size:=Zx _ hi
 have hmod:(i*z.size+j)%z.size=j:=by
  rw[Yy,Nat.mul_add_mod];exact Nat.mod_eq_of_lt hj
 simp[madeCells,hlt,hmod,hj]
theorem Pk {M:Nat→Prop}{v:Value}{p:PV}(e:U7 v=some p):ap M w p v:=by
 unfold U7 at e
 split at e<;>cases e
 ·simp[ap]
 ·simp[ap]
 ·simp[ap]
 ·simp only[ap];exact .inl ⟨by trivial,_,_,rfl⟩
theorem MZ (s:SR Γ M0 base σ a w ρ){o:Oper}{d:Md}{ao:AOp}{v:V}{h':List AObj}{call:Nat→List V→Option V}{t:TypeId}{x y:Operand}(hop:o.op= .makeSlice t x y)
 (hc:eV P kf d o.op=some ao) (he:cf call σ ao=some (v,h')):jC P M0 base σ w ρ v h' (execOp a.eval o):=by
 rw[hop]at hc;simp only[eV]at hc
 split at hc
 ·rename_i e x' y' ht hx hy
  split at hc
  ·rename_i hxy
   subst hxy
   split at hc
   ·rename_i by' z v0 hby hsz hz
    split at hc
    ·rename_i zs hzs
     split at hc
     ·rename_i hzl
      cases hc
      simp only[cf]at he
      split at he
      ·rename_i kk m hm
       split at he
       ·rename_i hb
        obtain⟨h0,hbytes,h63,hzp⟩:=hb
        cases he
        obtain⟨m,rfl⟩:=Int.eq_ofNat_of_zero_le h0
        have ex:=(aw s hx).int hm
        have ey:=(aw s hy).int hm
        obtain⟨i,hi,hz',hs',hb'⟩:∃i,P.info? e=some i∧i.zero=some v0∧i.size=z∧i.bytes=by':=by
         unfold m4 at hz;unfold o7 at hsz;unfold NQ at hby
         cases hi:P.info? e with
         |none=>simp[hi]at hz
         |some i=>simp[hi]at hz hsz hby;exact⟨i,rfl,hz,hsz,hby⟩
        have hu:P.underlying t=some (.slice e):=by
         unfold gJ at ht
         split at ht<;>cases ht
         assumption
        have hcs:v0.cells.size=z:=by rw[←hzl,eT hzs];simp
        have hbI:(by':Int)*(m:Int)≤281474976710656:=by rw[Int.mul_comm];omega
        have hrun:=run_make (P:=P) w t e i v0 hu hi hz' kk kk (m:Int) (m:Int) (by omega) (by omega) (by rw[hb'];exact hbI) h63
        simp only[Int.toNat_natCast]at hrun
        rw[hs',←hcs]at hrun
        rw[hzl]
        have hz0:0<z:=by omega
        obtain⟨ρ',g1,g2,g3⟩:=M5 (h:=σ.h) s.hr (w':=w.alloc (.cells (madeCells v0.cells (m*v0.cells.size)) e)) (by simp) (fun b hb=>fg w _ b hb) (z:=z) (cap:=m) (es:=List.replicate m zs) hz0
         (fun e' he'=>by rw[(List.mem_replicate.1 he').2];exact hzl) (gg.new w _ e) (by rw[size_madeCells,hcs]) (by simp) (by simp only[maxLen];omega)
         (fun i' e' j p he' hp=>by
          obtain⟨hi',rfl⟩:i'<m∧zs=e':=by simpa[List.getElem?_replicate]using he'
          obtain⟨v',hv',hcv⟩:=Td hzs j p hp
          have hj:j<v0.cells.size:=by simpa using(Zb.1 hv').1
          refine⟨v0.cells[j],by rw[←hcs];exact RJ hj hi',?_⟩
          have:v'=v0.cells[j]:=by simpa[hj]using hv'.symm
          rw[←this]
          exact Pk hcv)
        refine⟨.value (.slice (some ⟨w.heap.size,0,none⟩) m m), .slice (some ⟨w.heap.size,0,none⟩) m m,_,ρ',?_, .inl rfl,(Below.refl _ _).alloc s.hr.le _,g1,g2,?_⟩
        ·simp only[execOp,hop,ex,ey]
         simp only[Sem.run_bind,hrun,Result.andThen_ok,Sem.run_pure]
        ·simpa using g3
       ·cases he
      ·cases he
     ·cases hc
    ·cases hc
   ·cases hc
  ·cases hc
 ·cases hc
end
end Gi
namespace Gi
open Go Go.RowKit
variable {KI:KF}
section
variable {Γ:Ctx}{P:Program}{M0:Nat→Prop}{base:Nat}{σ:St}{a:Act}{w:World}{ρ:List (Option Nat)}
theorem oh {t:TypeId}{n b o:Nat}{u:Value}{cur:Array Value}(hn:o7 P t=some n)(hrow:gg w b cur)(hsz:u.cells.size=n)(hle:o+n≤cur.size)(h1:∀v∈u.cells.toList,v.oneCell'=true):
 (Instr.storeAt t (.pointer (some ⟨b,o,none⟩)) u).run P w= .ok () (w.setCells b o u.cells.toList):=by
 have hst:=run_storeCells_cells (P:=P) b o u.cells.toList 0 w (fun j hj=>by
  rw[hrow.cell]
  have:o+j<cur.size:=by simp at hj;omega
  simp[this]) (fun j _=>hrow.free _) h1
 simp only[Y1]at hst
 simp[Instr.storeAt,Instr.sureAddr,storeVar,kO t hn,hsz,hst]
theorem ru.ones {M:Nat→Prop}{h:List AObj}{ls:List L}{us:List Value}(r:ru M w ρ h ls us):∀v∈us,v.oneCell'=true:=fun v hv=>by
 obtain⟨i,hi,rfl⟩:=Yp hv
 exact(r.2 i (ls[i]'(by rw[r.1];exact hi)) us[i] (by simp[r.1,hi]) (by simp[hi])).one
theorem G4 {ob z:Nat}{es:List (List PV)}:∀(ls:List L)(h:List AObj),ls.all (L.notArr ob)=true→h[ob]? =some (.arr z es)→(freezeLs h ls)[ob]? =some (.arr z es):=by
 intro ls
 induction ls with
 |nil=>intro h _ hh;exact hh
 |cons l ls ih=>
  intro h hall hh
  simp only[Zq,Zm]at hall
  refine ih (freezeL h l) hall.2 ?_
  cases l with
  |arr o'=>
   simp only[freezeL]
   split
   ·rw[Za (by simpa[L.notArr]using hall.1)]
    exact hh
   ·rw[Za (by simpa[L.notArr]using hall.1)]
    exact hh
   ·exact hh
  |_=>exact hh
theorem uz {i i' j j' z:Nat}(hj:j<z)(hj':j'<z)(h:i*z+j=i'*z+j'):i=i'∧j=j':=by
 have h1:(i*z+j)/z=i:=by rw[Yy,Nat.mul_add_div (by omega),Nat.div_eq_of_lt hj,Y1]
 have h2:(i'*z+j')/z=i':=by rw[Yy,Nat.mul_add_div (by omega),Nat.div_eq_of_lt hj',Y1]
 have:i=i':=by rw[←h1,h,h2]
 subst this
 exact⟨rfl,by omega⟩
theorem LD (s:SR Γ M0 base σ a w ρ){o:Oper}{d:Md}{ao:AOp}{v:V}{h':List AObj}{call:Nat→List V→Option V}{t:TypeId}{x y:Operand}(hop:o.op= .store t x y)
 (hc:eV P kf d o.op=some ao) (he:cf call σ ao=some (v,h')):jC P M0 base σ w ρ v h' (execOp a.eval o):=by
 rw[hop]at hc;simp only[eV]at hc
 split at hc
 ·rename_i n x' y' hn hx hy
  cases hc
  simp only[cf]at he
  split at he
  ·rename_i h'' hst
   cases he
   have rx:=aw s hx
   have ry:=aw s hy
   simp only[bv]at hst
   split at hst
   ·rename_i hlen
    split at hst
    ·rename_i ob i j hev
     rw[hev]at rx
     obtain⟨r0,obj,hr0,hob,hpt⟩:=rx
     split at hst
     ·rename_i cs hcs
      rw[hcs]at hob;cases hob
      split at hst
      ·rename_i hcond
       obtain⟨rfl,hle,hpl⟩:=hcond
       cases hst
       have hls:=ry.cells (V.not_tup hpl)
       obtain⟨b,cur,e,hbase,hrow,hcells⟩:=s.hr.objs ob _ r0 hcs hr0
       subst e
       obtain⟨b',e',hu⟩:=hpt
       cases e'
       simp only[AObj.z,Nat.zero_mul,Yc]at hu
       have hsz:(a.eval y).cells.size=n:=by rw[←hlen,hls.1];simp
       have hcl:cs.length=cur.size:=by rw[hcells.1];simp
       have hrun:=oh (P:=P) hn hrow hsz (by omega) hls.ones (o:=j)
       obtain⟨cur',hrow',hsz',hget⟩:=de b (a.eval y).cells.toList j w cur hrow (by simp[hsz];omega)
       obtain⟨g1,g2⟩:=s.hr.upd (w':=w.setCells b j (a.eval y).cells.toList) (ob':= .box (putAt cs j (y'.ev σ).cells)) hcs hr0 rfl trivial (cr b _ j w).symm
        (fun k hk=>co b _ j w k (fun e=>hk (by rw[e])))
        (fun k c e hr=>by cases e;rw[hr.inj hrow];exact⟨cur',hrow',hsz'⟩)
        (fun c=>⟨b,cur',rfl,hbase,hrow',by rw[vz _ _ _ (by omega)];simp only[Yu,hsz'];exact hcl,fun k l u hl hu'=>by
         rw[vy _ _ _ (by omega)]at hl
         rw[Xl,hget]at hu'
         simp only[Yu,hsz]at hu'
         rw[hlen]at hl
         split at hl
         ·rename_i hin
          rw[if_pos hin]at hu'
          exact(hls.2 _ l u hl hu').ch c
         ·rename_i hin
          rw[if_neg hin]at hu'
          exact(hcells.2 _ l u hl (by simpa using hu')).ch c⟩)
       refine⟨.skip,undef,_,ρ,?_, .inr ⟨rfl,rfl⟩,bN b base hbase _ j w w (Below.refl _ _),g1,g2,VR.undef⟩
       simp only[execOp,hop,hu]
       simp[hrun]
      ·cases hst
     ·rename_i z es hcs
      rw[hcs]at hob;cases hob
      split at hst
      ·rename_i e ps hei hps
       split at hst
       ·rename_i hcond
        obtain⟨hle,hna⟩:=hcond
        cases hst
        have hnt:∀xs,y'.ev σ≠ .tup xs:=by
         intro xs e'
         rw[e']at hps
         simp[V.cells,viewL,L.view]at hps
        have hls:=ry.cells hnt
        obtain⟨k1,c1⟩:=s.hr.freezeLs (y'.ev σ).cells
        have hcs1:(freezeLs σ.h (y'.ev σ).cells)[ob]? =some (.arr z es):=G4 _ _ hna hcs
        have hls1:ru (Mu M0 ρ (freezeLs σ.h (y'.ev σ).cells)) w ρ (freezeLs σ.h (y'.ev σ).cells) (y'.ev σ).cells (a.eval y).cells.toList:=hls.ch c1
        obtain⟨hpl,hpr⟩:=sS k1 hls1 hps (fun l _=>ii _ l) (fun l hl=>hJ _ l (.inr hl))
        obtain⟨hz,hes,kx⟩:=k1.objs ob _ r0 hcs1 hr0
        obtain⟨b',e',hu⟩:=hpt
        subst e'
        simp only[AObj.z]at hu
        obtain⟨hbase,cur,cap,hrow,h1,h2,h3,h4⟩:=kx
        have hsz:(a.eval y).cells.size=n:=by rw[←hlen,hls.1];simp
        have hpn:ps.length=n:=by rw[hpl];simpa using hsz
        have hez:e.length=z:=hes e (Zk hei)
        have hilt:i<es.length:=(Zb.1 hei).1
        have hfit:i*z+j+n≤cur.size:=by
         rw[h1]
         calc i*z+j+n≤i*z+z:=by omega
          _=(i+1)*z:=by rw[Z7,Yv]
          _≤cap*z:=Zx _ (by omega)
        have hrun:=oh (P:=P) hn hrow hsz hfit hls.ones
        obtain⟨cur',hrow',hsz',hget⟩:=de b' (a.eval y).cells.toList (i*z+j) w cur hrow (by simp only[Yu,hsz];exact hfit)
        obtain⟨g1,g2⟩:=k1.upd (w':=w.setCells b' (i*z+j) (a.eval y).cells.toList) (ob':= .arr z (es.set i (putAt e j ps))) hcs1 hr0 rfl ⟨rfl,by simp⟩ (cr b' _ _ w).symm
         (fun k hk=>co b' _ _ w k (fun e=>hk (by rw[e])))
         (fun k c e hr=>by cases e;rw[hr.inj hrow];exact⟨cur',hrow',hsz'⟩)
         (fun c=>by
          refine⟨hz,fun e1 he1=> ?_,hbase,cur',cap,hrow',by rw[hsz'];exact h1,by simpa using h2,h3,fun i1 e1 j1 p1 hi1 hj1=> ?_⟩
          ·rcases Xn he1 with hm|rfl
           ·exact hes e1 hm
           ·rw[vz _ _ _ (by omega)];exact hez
          ·rw[hget]
           simp only[Yu,hsz]
           by_cases hii:i=i1
           ·subst hii
            rw[Zd hilt]at hi1
            cases hi1
            rw[vy _ _ _ (by omega),hpn]at hj1
            split at hj1
            ·rename_i hin
             obtain⟨u,hu1,hu2⟩:=hpr _ _ hj1
             exact⟨u,by rw[if_pos (by omega),show i*z+j1-(i*z+j)=j1-j by omega];exact hu1,ap.go c.go p1 u hu2⟩
            ·rename_i hin
             obtain⟨u,hu1,hu2⟩:=h4 i e j1 p1 hei hj1
             exact⟨u,by rw[if_neg (by omega)];exact hu1,ap.go c.go p1 u hu2⟩
           ·rw[Za hii]at hi1
            obtain⟨u,hu1,hu2⟩:=h4 i1 e1 j1 p1 hi1 hj1
            have hj1z:j1<z:=by rw[←hes e1 (Zk hi1)];exact(Zb.1 hj1).1
            refine⟨u,?_,ap.go c.go p1 u hu2⟩
            rw[if_neg]
            ·exact hu1
            ·intro hin
             have:∃q,q<z∧i1*z+j1=i*z+q:=⟨i1*z+j1-i*z,by omega,by omega⟩
             obtain⟨q,hq,e2⟩:=this
             exact hii (uz hj1z hq e2).1.symm)
        refine⟨.skip,undef,_,ρ,?_, .inr ⟨rfl,rfl⟩,bN b' base hbase _ _ w w (Below.refl _ _),g1,c1.trans g2,VR.undef⟩
        simp only[execOp,hop,hu]
        simp[hrun]
       ·cases hst
      ·cases hst
     ·cases hst
    ·cases hst
   ·cases hst
  ·cases he
 ·cases hc
end
end Gi
