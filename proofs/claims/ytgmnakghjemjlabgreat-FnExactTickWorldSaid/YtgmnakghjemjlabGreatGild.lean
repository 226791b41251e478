/- Of this proof. -/
import Derived.Test.YtgmnakghjemjlabGreatGilc
set_option linter.unusedSimpArgs false
set_option linter.unusedVariables false
namespace Gi
open Go Go.RowKit
variable {KI:KF}
def E9 (P:Program)(f z bytes:Nat):Prop:=
 ∀(w:World)(r:Option Nat)(bs:Option Addr)(n c i vb m vc:Nat)(cs vs:List Value)(cur vcur:Array Value),
  0<m→i≤n→n≤c→c≤maxLen→n+m≤maxLen→(n+m)*bytes≤140737488355328→cs.length=n*z→vs.length=m*z→(∀v∈cs,v.oneCell'=true)→(∀v∈vs,v.oneCell'=true)→
  (match r with
   |none=>n=0∧c=0
   |some b=>bs=some ⟨b,0,none⟩∧gO w b cur∧cur.size=c*z∧vb≠b∧∀(j:Nat)v,cs[j]? =some v→cur[j]? =some v)→
  gO w vb vcur→(∀(j:Nat)v,vs[j]? =some v→vcur[j]? =some v)→
  Calls P f #[.slice bs n c, .int .i64 i, .slice (some ⟨vb,0,none⟩) m vc] w fun e w'=>
   ∃b' c' cur',e= .returned (.slice (some ⟨b',0,none⟩) (n+m) c')∧gO w' b' cur'∧cur'.size=c'*z∧n+m≤c'∧c'≤maxLen∧
    (∀(j:Nat)v,(cs.take (i*z)++vs++cs.drop (i*z))[j]? =some v→cur'[j]? =some v)∧
    (r=some b'∧cur'.size=cur.size∧w'.heap.size=w.heap.size∨b'=w.heap.size∧w.heap.size<w'.heap.size)∧w'.os=w.os∧w'.tape=w.tape∧w'.output=w.output∧∀k,k<w.heap.size→k≠b'→w'.heap[k]? =w.heap[k]?
section
variable {Γ:Ctx}{P:Program}{M0:Nat→Prop}{base:Nat}{σ:St}{a:Act}{w:World}{ρ:List (Option Nat)}
theorem NG {z i n j:Nat}(h:i<n)(hj:j<z):i*z+j<n*z:=by
 calc i*z+j<i*z+z:=by omega
  _=(i+1)*z:=by rw[Nat.add_mul,Nat.one_mul]
  _≤n*z:=Nat.mul_le_mul_right _ h
theorem Ad {M:Nat→Prop}{z i:Nat}{es vs:List (List PV)}{cs vcs:List Value}(hes:∀e∈es,e.length=z)(hvs:∀e∈vs,e.length=z)(hcl:cs.length=es.length*z)(hvl:vcs.length=vs.length*z)(hi:i≤es.length)
 (h1:∀(a:Nat)(e:List PV)(j:Nat)(p:PV),es[a]? =some e→e[j]? =some p→∃v,cs[a*z+j]? =some v∧al M w p v)
 (h2:∀(a:Nat)(e:List PV)(j:Nat)(p:PV),vs[a]? =some e→e[j]? =some p→∃v,vcs[a*z+j]? =some v∧al M w p v):
 ∀(a:Nat)(e:List PV)(j:Nat)(p:PV),(es.take i++vs++es.drop i)[a]? =some e→e[j]? =some p→∃v,(cs.take (i*z)++vcs++cs.drop (i*z))[a*z+j]? =some v∧al M w p v:=by
 have hiz:i*z≤cs.length:=by rw[hcl];exact Nat.mul_le_mul_right _ hi
 have htl:(cs.take (i*z)).length=i*z:=by rw[List.length_take];omega
 have hel:(es.take i).length=i:=by rw[List.length_take];omega
 intro a e j p he hp
 have hj:=(List.getElem?_eq_some_iff.1 hp).1
 by_cases ha:a<i
 ·rw[List.append_assoc,List.getElem?_append_left (by rw[hel];exact ha),List.getElem?_take,if_pos ha]at he
  rw[hes e (List.mem_of_getElem? he)]at hj
  have hlt:=NG ha hj
  obtain⟨v,hv,hr⟩:=h1 a e j p he hp
  exact⟨v,by rw[List.append_assoc,List.getElem?_append_left (by rw[htl];exact hlt),List.getElem?_take,if_pos hlt];exact hv,hr⟩
 ·by_cases hb:a<i+vs.length
  ·rw[List.append_assoc,List.getElem?_append_right (by rw[hel];omega),hel,List.getElem?_append_left (by omega)]at he
   rw[hvs e (List.mem_of_getElem? he)]at hj
   have hlt:=NG (show a-i<vs.length by omega) hj
   have hsub:a*z+j-i*z=(a-i)*z+j:=by
    rw[Nat.sub_mul]
    have:i*z≤a*z:=Nat.mul_le_mul_right _ (by omega)
    omega
   have hge:i*z≤a*z+j:=Nat.le_trans (Nat.mul_le_mul_right _ (by omega)) (Nat.le_add_right _ _)
   obtain⟨v,hv,hr⟩:=h2 (a-i) e j p he hp
   exact⟨v,by rw[List.append_assoc,List.getElem?_append_right (by rw[htl];exact hge),htl,hsub,List.getElem?_append_left (by rw[hvl];exact hlt)];exact hv,hr⟩
  ·rw[List.getElem?_append_right (by rw[List.length_append,hel];omega),List.length_append,hel,List.getElem?_drop]at he
   rw[hes e (List.mem_of_getElem? he)]at hj
   have hge:(i+vs.length)*z≤a*z+j:=Nat.le_trans (Nat.mul_le_mul_right _ (by omega)) (Nat.le_add_right _ _)
   rw[Nat.add_mul]at hge
   have hsub:i*z+(a*z+j-(i*z+vs.length*z))=(i+(a-(i+vs.length)))*z+j:=by
    rw[Nat.add_mul,Nat.sub_mul,Nat.add_mul]
    have:(i+vs.length)*z≤a*z:=Nat.mul_le_mul_right _ (by omega)
    rw[Nat.add_mul]at this
    omega
   obtain⟨v,hv,hr⟩:=h1 _ e j p he hp
   exact⟨v,by rw[List.getElem?_append_right (by rw[List.length_append,htl,hvl];exact hge),List.length_append,htl,hvl,List.getElem?_drop,hsub];exact hv,hr⟩
theorem Dt {M:Nat→Prop}{z:Nat}{es:List (List PV)}{cs:List Value}(hz:0<z)(hes:∀e∈es,e.length=z)(hcl:cs.length=es.length*z)
 (h1:∀(a:Nat)(e:List PV)(j:Nat)(p:PV),es[a]? =some e→e[j]? =some p→∃v,cs[a*z+j]? =some v∧al M w p v):∀v∈cs,v.oneCell'=true:=by
 intro v hv
 obtain⟨k,hk,rfl⟩:=List.mem_iff_getElem.1 hv
 have ha:k/z<es.length:=by
  rw[Nat.div_lt_iff_lt_mul hz,←hcl];exact hk
 have hj:k%z<es[k/z].length:=by rw[hes _ (List.getElem_mem ha)];exact Nat.mod_lt _ hz
 obtain⟨u,hu,hr⟩:=h1 (k/z) es[k/z] (k%z) es[k/z][k%z] (by simp[ha]) (by simp[hj])
 rw[show k/z*z+k%z=k by rw[Nat.mul_comm];exact Nat.div_add_mod k z,List.getElem?_eq_getElem hk]at hu
 cases hu
 exact hr.one
theorem vE {M:Nat→Prop}{z cap:Nat}{es:List (List PV)}{cur:Array Value}(hes:∀e∈es,e.length=z)(hsize:cur.size=cap*z)(hcap:es.length≤cap)
 (h1:∀(a:Nat)(e:List PV)(j:Nat)(p:PV),es[a]? =some e→e[j]? =some p→∃v,cur[a*z+j]? =some v∧al M w p v):
 (cur.toList.take (es.length*z)).length=es.length*z∧(∀(j:Nat)v,(cur.toList.take (es.length*z))[j]? =some v→cur[j]? =some v)∧
 ∀(a:Nat)(e:List PV)(j:Nat)(p:PV),es[a]? =some e→e[j]? =some p→∃v,(cur.toList.take (es.length*z))[a*z+j]? =some v∧al M w p v:=by
 have hle:es.length*z≤cur.size:=by rw[hsize];exact Nat.mul_le_mul_right _ hcap
 refine⟨by simp;omega,fun j v hv=> ?_,fun a e j p he hp=> ?_⟩
 ·rw[List.getElem?_take]at hv
  split at hv
  ·simpa using hv
  ·cases hv
 ·obtain⟨v,hv,hr⟩:=h1 a e j p he hp
  have hj:=(List.getElem?_eq_some_iff.1 hp).1
  rw[hes e (List.mem_of_getElem? he)]at hj
  refine⟨v,?_,hr⟩
  rw[List.getElem?_take,if_pos (NG (List.getElem?_eq_some_iff.1 he).1 hj)]
  simpa using hv
theorem OL {i:Nat}{es vs:List (List PV)}(hi:i≤es.length):(es.take i++vs++es.drop i).length=es.length+vs.length:=by simp;omega
theorem C8 {f z bytes:Nat}(hz0:0<z){h:List AObj}(k:HR M0 base w ρ h){w':World}{es:List (List PV)}{cs:List Value}{c':Nat}{cur':Array Value}(hall:∀e∈es,e.length=z)
 (hrows:∀(a:Nat)(e:List PV)(j:Nat)(p:PV),es[a]? =some e→e[j]? =some p→∃v,cs[a*z+j]? =some v∧al (Mu M0 ρ h) w p v)
 (hrow:gO w' w.heap.size cur') (hsize:cur'.size=c'*z) (hn:es.length≤c') (hc:c'≤maxLen) (hcells:∀(j:Nat)v,cs[j]? =some v→cur'[j]? =some v) (hlt:w.heap.size<w'.heap.size) (hfr:∀b,b<w.heap.size→w'.heap[b]? =w.heap[b]?):
 ∃ρ',HR M0 base w' ρ' (h++[.arr z es])∧Ch (Mu M0 ρ h) (Mu M0 ρ' (h++[.arr z es])) w w' ρ ρ' h (h++[.arr z es])∧
  VR (Mu M0 ρ' (h++[.arr z es])) w' ρ' (h++[.arr z es]) (.one (.arr h.length)) (.slice (some ⟨w.heap.size,0,none⟩) es.length c'):=
 Ka k hlt hfr hz0 hall hrow hsize hn hc fun a e j p he hp=>by
  obtain⟨v,hv,hr⟩:=hrows a e j p he hp
  exact⟨v,hcells _ v hv,hr⟩
theorem JV (s:SR Γ M0 base σ a w ρ){f z bytes:Nat}(ok:E9 P f z bytes){o o2:Nat}{es vs:List (List PV)}(ho:σ.h[o]? =some (.arr z es))(ho2:σ.h[o2]? =some (.arr z vs))(hne:o≠o2)(hm:0<vs.length){i:Nat}(hi:i≤es.length)
 (hlim:(es.length+vs.length)*bytes≤140737488355328) (h63:es.length+vs.length≤maxLen) {ux uv:Value} (rx:LR (Mu M0 ρ σ.h) w ρ σ.h (.arr o) ux) (rv:LR (Mu M0 ρ σ.h) w ρ σ.h (.arr o2) uv):
 Calls P f #[ux, .int .i64 i,uv] w fun e w'=>∃u ρ',e= .returned u∧Below base w w'∧HR M0 base w' ρ' (σ.h.set o .dead++[.arr z (es.take i++vs++es.drop i)])∧
  Ch (Mu M0 ρ σ.h) (Mu M0 ρ' (σ.h.set o .dead++[.arr z (es.take i++vs++es.drop i)])) w w' ρ ρ' σ.h (σ.h.set o .dead++[.arr z (es.take i++vs++es.drop i)])∧
  VR (Mu M0 ρ' (σ.h.set o .dead++[.arr z (es.take i++vs++es.drop i)])) w' ρ' (σ.h.set o .dead++[.arr z (es.take i++vs++es.drop i)]) (.one (.arr σ.h.length)) u:=by
 obtain⟨r0,ob0,hr0,hob0,hsl⟩:=rx
 rw[ho]at hob0;cases hob0
 obtain⟨r2,ob2,hr2,hob2,hsl2⟩:=rv
 rw[ho2]at hob2;cases hob2
 obtain⟨hz0,hes,kx⟩:=s.hr.objs o _ r0 ho hr0
 obtain⟨_,hvs,kv⟩:=s.hr.objs o2 _ r2 ho2 hr2
 cases r2 with
 |none=>obtain rfl:vs=[]:=kv;simp at hm
 |some vb=>
 obtain⟨_,vcur,vcap,hvrow,v1,v2,v3,v4⟩:=kv
 obtain⟨vcur',vcap',hvrow',v1',v2',v3',ev⟩:=hsl2
 obtain⟨q1,q2,q3⟩:=vE hvs v1 v2 v4
 have qo:=Dt hz0 hvs q1 q3
 have hnl:=OL (vs:=vs) hi
 have hall:∀e∈es.take i++vs++es.drop i,e.length=z:=fun e he=>by
  simp only[List.mem_append]at he
  rcases he with(h|h)|h
  ·exact hes e (List.mem_of_mem_take h)
  ·exact hvs e h
  ·exact hes e (List.mem_of_mem_drop h)
 have dead:=s.hr.upd (w':=w) (ob':= .dead) ho hr0 rfl trivial rfl (fun _ _=>rfl) (fun b cur _ hrw=>⟨cur,hrw,rfl⟩) (fun _=>trivial)
 have fresh:∀{cs:List Value}{w':World}{c':Nat}{cur':Array Value},(∀(a:Nat)(e:List PV)(j:Nat)(p:PV),(es.take i++vs++es.drop i)[a]? =some e→e[j]? =some p→∃v,cs[a*z+j]? =some v∧al (Mu M0 ρ σ.h) w p v)→
  gO w' w.heap.size cur'→cur'.size=c'*z→es.length+vs.length≤c'→c'≤maxLen→(∀(j:Nat)v,cs[j]? =some v→cur'[j]? =some v)→w.heap.size<w'.heap.size→w'.os=w.os→w'.tape=w.tape→w'.output=w.output→(∀k,k<w.heap.size→k≠w.heap.size→w'.heap[k]? =w.heap[k]?)→
  ∃u ρ',(Ending.returned (.slice (some ⟨w.heap.size,0,none⟩) (es.length+vs.length) c')= .returned u)∧Below base w w'∧HR M0 base w' ρ' (σ.h.set o .dead++[.arr z (es.take i++vs++es.drop i)])∧
   Ch (Mu M0 ρ σ.h) (Mu M0 ρ' (σ.h.set o .dead++[.arr z (es.take i++vs++es.drop i)])) w w' ρ ρ' σ.h (σ.h.set o .dead++[.arr z (es.take i++vs++es.drop i)])∧
   VR (Mu M0 ρ' (σ.h.set o .dead++[.arr z (es.take i++vs++es.drop i)])) w' ρ' (σ.h.set o .dead++[.arr z (es.take i++vs++es.drop i)]) (.one (.arr σ.h.length)) u:=by
  intro cs w' c' cur' hrows hrow hsize hn hc hcells hlt e1 e2 e3 hfr
  obtain⟨k2,c2⟩:=dead
  obtain⟨ρ',g1,g2,g3⟩:=C8 (f:=f) (bytes:=bytes) hz0 k2 hall (fun a e j p he hp=>by
   obtain⟨v,hv,hr⟩:=hrows a e j p he hp
   exact⟨v,hv,al.go c2.go p v hr⟩) hrow hsize (by rw[hnl];exact hn) hc hcells hlt (fun b hb=>hfr b hb (by omega))
  refine⟨_,ρ',rfl,⟨e1,e2,e3,Nat.le_of_lt hlt,fun k hk=>hfr k (Nat.lt_of_lt_of_le hk s.hr.le) (by have:=s.hr.le;omega)⟩,g1,c2.trans g2,?_⟩
  rw[hnl]at g3
  simpa using g3
 cases r0 with
 |none=>
  obtain rfl:es=[]:=kx
  obtain⟨ad,ex⟩:∃ad,ux= .slice ad 0 0:=hsl
  subst ex ev
  have hi0:i=0:=by simpa using hi
  subst hi0
  refine(ok w none ad 0 0 0 vb vs.length vcap' [] (vcur.toList.take (vs.length*z)) #[] vcur hm (Nat.le_refl _) (Nat.le_refl _) (Nat.zero_le _) (by simpa using h63) (by simpa using hlim) (by simp) q1 (by simp) qo ⟨rfl,rfl⟩ hvrow q2).mono fun e w'⟨b',c',cur',he,hrow,hsize,hn,hc,hcells,hwhere,e1,e2,e3,hfr⟩=> ?_
  rcases hwhere with⟨h,_⟩|⟨rfl,hlt⟩
  ·cases h
  ·subst he
   exact fresh (cs:=[].take (0*z)++vcur.toList.take (vs.length*z)++[].drop (0*z)) (Ad (i:=0) (es:=[]) (cs:=[]) (by simp) hvs (by simp) q1 (by simp) (fun a e j p he=>by simp at he) q3) hrow hsize (by simpa using hn) hc hcells hlt e1 e2 e3 hfr
 |some b=>
  obtain⟨hbase,cur,cap,hrow,h1,h2,h3,h4⟩:=kx
  obtain⟨cur1,cap1,hrow1,h11,h21,h31,ex⟩:=hsl
  cases hrow.inj hrow1
  have hcap:cap1=cap:=Nat.eq_of_mul_eq_mul_right hz0 (h11.symm.trans h1)
  subst hcap ex ev
  have hvb:vb≠b:=fun e=>hne (s.hr.apart o o2 _ _ b ho ho2 rfl rfl hr0 (by rw[hr2,e]))
  obtain⟨p1,p2,p3⟩:=vE hes h1 h2 h4
  have po:=Dt hz0 hes p1 p3
  have hrows:=Ad hes hvs p1 q1 hi p3 q3
  refine(ok w (some b) (some ⟨b,0,none⟩) es.length cap1 i vb vs.length vcap' (cur.toList.take (es.length*z)) (vcur.toList.take (vs.length*z)) cur vcur hm hi h2 h3 h63 hlim p1 q1 po qo ⟨rfl,hrow,h1,hvb,p2⟩ hvrow q2).mono fun e w'⟨b',c',cur',he,hrow',hsize,hn,hc,hcells,hwhere,e1,e2,e3,hfr⟩=> ?_
  subst he
  rcases hwhere with⟨hb',hcz,hws⟩|⟨rfl,hlt⟩
  ·cases hb'
   have hfr':∀k,k≠b→w'.heap[k]? =w.heap[k]? :=fun k hk=>by
    by_cases hl:k<w.heap.size
    ·exact hfr k hl hk
    ·rw[Array.getElem?_eq_none (by omega),Array.getElem?_eq_none (by omega)]
   have hc1:c'=cap1:=Nat.eq_of_mul_eq_mul_right hz0 (hsize.symm.trans (hcz.trans h1))
   obtain⟨k2,c2⟩:=s.hr.upd (w':=w') (ob':= .arr z ((es.take i++vs++es.drop i).take es.length)) ho hr0 rfl ⟨rfl,by rw[List.length_take,hnl];omega⟩ hws.symm
    (fun k hk=>hfr' k (fun e=>hk (by rw[e])))
    (fun k c e hrw=>by cases e;rw[hrw.inj hrow];exact⟨cur',hrow',hcz⟩)
    (fun c=>⟨hz0,fun e he=>hall e (List.mem_of_mem_take he),hbase,cur',c',hrow',hsize,by rw[List.length_take,hnl];omega,hc,fun a1 e1 j1 p1 he1 hp1=>by
     rw[List.getElem?_take]at he1
     split at he1
     ·obtain⟨v,hv,hrd⟩:=hrows a1 e1 j1 p1 he1 hp1
      exact⟨v,hcells _ v hv,al.go c.go p1 v hrd⟩
     ·cases he1⟩)
   have hlt0:o<σ.h.length:=(List.getElem?_eq_some_iff.1 ho).1
   obtain⟨g1,g2⟩:=k2.rename (z:=z) (es:=(es.take i++vs++es.drop i).take es.length) (es':=es.take i++vs++es.drop i) (List.getElem?_set_self hlt0) hr0 (fun mu=>by
    refine⟨hz0,hall,hbase,cur',c',hrow',hsize,by rw[hnl];exact hn,hc,fun a1 e1 j1 p1 he1 hp1=> ?_⟩
    obtain⟨v,hv,hrd⟩:=hrows a1 e1 j1 p1 he1 hp1
    exact⟨v,hcells _ v hv,(al.go c2.go p1 v hrd).weak mu⟩)
   rw[List.set_set]at g1 g2
   refine⟨_,_,rfl,⟨e1,e2,e3,by omega,fun k hk=>hfr' k (by omega)⟩,g1,c2.trans g2,some b, .arr z (es.take i++vs++es.drop i),?_,?_,cur',c',hrow',hsize,by rw[hnl];exact hn,hc,by rw[hnl]⟩
   ·rw[←s.hr.len];simp
   ·rw[List.getElem?_append_right (by simp)];simp
  ·exact fresh hrows hrow' hsize hn hc hcells hlt e1 e2 e3 hfr
theorem JX (s:SR Γ M0 base σ a w ρ){f z bytes:Nat}(ok:E9 P f z bytes){ad:Option Addr}{o2:Nat}{vs:List (List PV)}(ho2:σ.h[o2]? =some (.arr z vs))(hm:0<vs.length)
 (hlim:vs.length*bytes≤140737488355328) (h63:vs.length≤maxLen) {uv:Value} (rv:LR (Mu M0 ρ σ.h) w ρ σ.h (.arr o2) uv):
 Calls P f #[.slice ad 0 0, .int .i64 (0:Nat),uv] w fun e w'=>∃u ρ',e= .returned u∧Below base w w'∧HR M0 base w' ρ' (σ.h++[.arr z vs])∧
  Ch (Mu M0 ρ σ.h) (Mu M0 ρ' (σ.h++[.arr z vs])) w w' ρ ρ' σ.h (σ.h++[.arr z vs])∧VR (Mu M0 ρ' (σ.h++[.arr z vs])) w' ρ' (σ.h++[.arr z vs]) (.one (.arr σ.h.length)) u:=by
 obtain⟨r2,ob2,hr2,hob2,hsl2⟩:=rv
 rw[ho2]at hob2;cases hob2
 obtain⟨hz0,hvs,kv⟩:=s.hr.objs o2 _ r2 ho2 hr2
 cases r2 with
 |none=>obtain rfl:vs=[]:=kv;simp at hm
 |some vb=>
 obtain⟨_,vcur,vcap,hvrow,v1,v2,v3,v4⟩:=kv
 obtain⟨vcur',vcap',hvrow',v1',v2',v3',ev⟩:=hsl2
 subst ev
 obtain⟨q1,q2,q3⟩:=vE hvs v1 v2 v4
 have qo:=Dt hz0 hvs q1 q3
 refine(ok w none ad 0 0 0 vb vs.length vcap' [] (vcur.toList.take (vs.length*z)) #[] vcur hm (Nat.le_refl _) (Nat.le_refl _) (Nat.zero_le _) (by simpa using h63) (by simpa using hlim) (by simp) q1 (by simp) qo ⟨rfl,rfl⟩ hvrow q2).mono fun e w'⟨b',c',cur',he,hrow,hsize,hn,hc,hcells,hwhere,e1,e2,e3,hfr⟩=> ?_
 rcases hwhere with⟨h,_⟩|⟨rfl,hlt⟩
 ·cases h
 ·subst he
  obtain⟨ρ',g1,g2,g3⟩:=C8 (f:=f) (bytes:=bytes) hz0 s.hr (cs:=vcur.toList.take (vs.length*z)) hvs q3 hrow hsize (by simpa using hn) hc (fun j v hj=>hcells j v (by simpa using hj)) hlt (fun b hb=>hfr b hb (by omega))
  refine⟨_,ρ',rfl,⟨e1,e2,e3,Nat.le_of_lt hlt,fun k hk=>hfr k (Nat.lt_of_lt_of_le hk s.hr.le) (by have:=s.hr.le;omega)⟩,g1,g2,?_⟩
  simpa using g3
end
end Gi
