/- Of this proof. -/
import Derived.Test.YtpnolnkjijmfjaaGreatProg
import Derived.Test.YtpnolnkjijmfjaaGreatGild
import Derived.Shelf.Spec.SlicesInsertGrow
import Derived.WalkKit
set_option linter.all false
namespace Go.Proofs.YtpnolnkjijmfjaaGreat
open Go Go.Shelf Go.RowKit Go.Lib Gi
def om {P:Program}(w:World)(dT sT ty elem:TypeId)(z:Nat)(b o dLen dCap:Nat)(a:Addr)(sLen sCap:Nat)(cs:List Value)
 (hu:P.underlying dT=some (.slice elem)) (hs:(P.info? elem).map (·.size)=some z) (hn:cs.length=Nat.min sLen dLen*z)
 (hsrc:∀j v,cs[j]? =some v->w.cell? (a.add j)=some v) (hc:∀j,j<cs.length->(w.cell? ⟨b,o+j,none⟩).isSome=true) (hf:∀j,j<cs.length->w.frozen? ⟨b,o+j,none⟩=false) (h1:∀v∈cs,v.oneCell'=true):
 (Builtin.copy_ #[dT,sT] ty #[.slice (some ⟨b,o,none⟩) dLen dCap, .slice (some a) sLen sCap]).run P w= .ok (goInt (Nat.min sLen dLen)) (w.setCells b o cs):=by
 have hl:=run_loadCells_list (P:=P) w a cs hsrc;have hst:=run_storeCells_cells (P:=P) b o cs 0 w (by simpa using hc) (by simpa using hf) h1;cases hq:P.info? elem with
 |none=>simp[hq]at hs
 |some i=>
  have hi:i.size=z:=by simpa[hq]using hs
  simp[Builtin.copy_,run_underlying hu,Builtin.lenOf,Builtin.firstCells,sizeOf,typeInfo,hq,hi,<-hn,hl,hst]
def zx {P:Program}{z:Nat}(w:World)(vb m vc:Nat)(vs:List Value)(vcur:Array Value)(hvrow:jb w vb vcur)(hvl:vs.length=m*z)(hvs:∀(j:Nat)v,vs[j]? =some v->vcur[j]? =some v):(Builtin.firstCells z m (.slice (some ⟨vb,0,none⟩) m vc)).run P w= .ok vs.toArray w:=by
 have:=run_loadCells_list (P:=P) w ⟨vb,0,none⟩ vs (fun j v hj=>by
  rw[Addr.add_lit]
  exact(hvrow.cell _).trans (by simpa using hvs j v hj))
 rw[hvl]at this;simpa[Builtin.firstCells]using this
set_option maxHeartbeats 1000000 in
def aej {P:Program}{f z B E:Nat}(hz:z=2 \/z=4)
 (room:∀(b n c vb m vc:Nat)(vs:List Value)(cur vcur:Array Value)(w:World),0<m->n+m<=c->c<=9223372036854775807->vs.length=m*z->jb w b cur->cur.size=c*z->jb w vb vcur->(∀(j:Nat)v,vs[j]? =some v->vcur[j]? =some v)->(∀v∈vs,v.oneCell'=true)->Calls P f #[.slice (some ⟨b,0,none⟩) n c, .int .i64 n, .slice (some ⟨vb,0,none⟩) m vc] w fun e w'=>e= .returned (.slice (some ⟨b,0,none⟩) (n+m) c)/\ w'=w.setCells b (n*z) vs)
 (endGrow:∀(n c vb m vc:Nat)(cs vs:List Value)(vcur:Array Value)(w:World)(bs:Option Addr),0<m->n<=c->c<n+m->(n+m)*B<=140737488355328->n+m<=9223372036854775807->(Builtin.firstCells z n (.slice bs n c)).run P w.drew= .ok cs.toArray w.drew->(bs=none->n=0)->vs.length=m*z->jb w vb vcur->(∀(j:Nat)v,vs[j]? =some v->vcur[j]? =some v)->Calls P f #[.slice bs n c, .int .i64 n, .slice (some ⟨vb,0,none⟩) m vc] w fun e w'=>∃(y:Value),y.cells.size=z/\ e= .returned (.slice (some ⟨w.heap.size,0,none⟩) (n+m) (grownCap w (n+m) c E))/\ w'=w.drew.alloc (.cells (cs.toArray++vs.toArray++Builtin.zeroCells y.cells (grownCap w (n+m) c E-(n+m))) E))
 (shift:∀(b n c i vb m vc:Nat)(cs vs:List Value)(cur vcur:Array Value)(w:World),i<n->0<m->n+m<=c->c<=9223372036854775807->vb≠b->cs.length=n*z->vs.length=m*z->jb w b cur->cur.size=c*z->(∀(j:Nat)v,cs[j]? =some v->cur[j]? =some v)->jb w vb vcur->(∀(j:Nat)v,vs[j]? =some v->vcur[j]? =some v)->(∀v∈cs,v.oneCell'=true)->(∀v∈vs,v.oneCell'=true)->Calls P f #[.slice (some ⟨b,0,none⟩) n c, .int .i64 i, .slice (some ⟨vb,0,none⟩) m vc] w fun e w'=>e= .returned (.slice (some ⟨b,0,none⟩) (n+m) c)/\ w'=(w.drew.setCells b ((i+m)*z) (cs.drop (i*z))).setCells b (i*z) vs)
 (grow:∀(b n c i vb m vc:Nat)(cs vs:List Value)(cur vcur:Array Value)(w:World),i<n->0<m->n<=c->c<n+m->(n+m)*B<=140737488355328->cs.length=n*z->vs.length=m*z->jb w b cur->(∀(j:Nat)v,cs[j]? =some v->cur[j]? =some v)->jb w vb vcur->(∀(j:Nat)v,vs[j]? =some v->vcur[j]? =some v)->(∀v∈cs,v.oneCell'=true)->(∀v∈vs,v.oneCell'=true)->Calls P f #[.slice (some ⟨b,0,none⟩) n c, .int .i64 i, .slice (some ⟨vb,0,none⟩) m vc] w fun e w'=>∃(y:Value),y.cells.size=z/\ e= .returned (.slice (some ⟨w.heap.size,0,none⟩) (n+m) (grownCap w (n+m) c E))/\
  w'=(((w.alloc (.cells ((cs.take (i*z)).toArray++Builtin.zeroCells y.cells (n+m-i)++Builtin.zeroCells y.cells (grownCap w (n+m) c E-(n+m))) E)).drew.setCells w.heap.size (i*z) vs).drew).setCells w.heap.size ((i+m)*z) (cs.drop (i*z))):CN P f z B:=by
 intro w r bs n c i vb m vc cs vs cur vcur hm hi hnc hcm hnm hbig hcl hvl h1c h1v hr hvrow hvs;have hc63:c<=9223372036854775807:=hcm;have h63:n+m<=9223372036854775807:=hnm;have new:∀{e:Ending}{w':World}{z0:Value}{olds:List Value}{G:Nat},z0.cells.size=z->olds.length=n*z+m*z->n+m<=G->G<=maxLen->
  (∀(j:Nat)v,(cs.take (i*z)++vs++cs.drop (i*z))[j]? =some v->olds[j]? =some v)->e= .returned (.slice (some ⟨w.heap.size,0,none⟩) (n+m) G)->w'=w.drew.alloc (.cells (olds.toArray++Builtin.zeroCells z0.cells (G-(n+m))) E)->
  ∃b' c' cur',e= .returned (.slice (some ⟨b',0,none⟩) (n+m) c')/\ jb w' b' cur'/\ cur'.size=c'*z/\ n+m<=c'/\ c'<=maxLen/\
   (∀(j:Nat)v,(cs.take (i*z)++vs++cs.drop (i*z))[j]? =some v->cur'[j]? =some v)/\
   (r=some b'/\ cur'.size=cur.size/\ w'.heap.size=w.heap.size \/b'=w.heap.size/\ w.heap.size<w'.heap.size)/\ w'.os=w.os/\ w'.tape=w.tape/\ w'.output=w.output/\ ∀k,k<w.heap.size->k≠b'->w'.heap[k]? =w.heap[k]? :=by intro e w' z0 olds G hz0 hol hG hG2 hcells he hw;subst hw;refine⟨w.heap.size,G,_,he,jb.new w.drew _ E,?_,hG,hG2,fun j v hv=> ?_, .inr ⟨rfl,by simp⟩,rfl,rfl,rfl,fun k hk _=>iw w.drew _ k hk⟩;simp only[Array.size_append,List.size_toArray,size_zeroCells,hz0,hol];rcases hz with rfl|rfl<;>omega;have h1:=hcells j v hv;rw[Array.getElem?_append_left (by simpa using(List.getElem?_eq_some_iff.1 h1).1)];simpa using h1
 by_cases hin:i=n;subst hin;have hdrop:cs.drop (i*z)=[]:=List.drop_eq_nil_of_le (by rcases hz with rfl|rfl<;>omega);have htake:cs.take (i*z)=cs:=List.take_of_length_le (by rcases hz with rfl|rfl<;>omega);by_cases hroom:i+m<=c;cases r with
 |none=>obtain⟨rfl,rfl⟩:=hr;(rcases hz with rfl|rfl<;>omega)
 |some b=>obtain⟨rfl,hrow,hsize,hvb,hcs⟩:=hr;refine(room b i c vb m vc vs cur vcur w hm hroom hc63 hvl hrow hsize hvrow hvs h1v).mono fun e w'⟨he,hw⟩=> ?_;subst hw;obtain⟨cur2,hrow2,hsz2,hget2⟩:=gY b vs (i*z) w cur hrow (by rcases hz with rfl|rfl<;>omega);refine⟨b,c,cur2,he,hrow2,by rw[hsz2];exact hsize,hroom,hcm,fun j v hv=> ?_, .inl ⟨rfl,hsz2,gF b _ _ w⟩,(fH b 0 (Nat.zero_le _) _ _ w w (Below.refl _ _)).os,(fH b 0 (Nat.zero_le _) _ _ w w (Below.refl _ _)).tape,(fH b 0 (Nat.zero_le _) _ _ w w (Below.refl _ _)).output,fun k _ hk=>gE b _ _ w k hk⟩;rw[hdrop,htake,List.append_nil]at hv;rw[hget2];by_cases hj:j<i*z;rw[if_neg (by rcases hz with rfl|rfl<;>omega)];rw[List.getElem?_append_left (by rcases hz with rfl|rfl<;>omega)]at hv;exact hcs j v hv;rw[List.getElem?_append_right (by rcases hz with rfl|rfl<;>omega),hcl]at hv;rw[if_pos (by have:=(List.getElem?_eq_some_iff.1 hv).1;(rcases hz with rfl|rfl<;>omega))];exact hv
 have hold:(Builtin.firstCells z i (.slice bs i c)).run P w.drew= .ok cs.toArray w.drew:=by
  cases r with
  |none=>obtain⟨rfl,rfl⟩:=hr;have hc0:cs=[]:=List.length_eq_zero_iff.1 (by simpa using hcl);subst hc0;rcases hz with rfl|rfl<;>cases bs<;>rfl
  |some b=>obtain⟨rfl,q1,_,_,q2⟩:=hr;exact zx w.drew b i c cs cur q1 hcl q2
 refine(endGrow i c vb m vc cs vs vcur w bs hm hnc (by rcases hz with rfl|rfl<;>omega) hbig h63 hold (fun e=>by cases r with|none=>exact hr.1|some b=>rw[hr.1]at e;cases e) hvl hvrow hvs).mono fun e w'⟨z0,hz0,he,hw⟩=> ?_;refine new (olds:=cs++vs) hz0 (by rw[List.length_append,hcl,hvl]) (grownCap_ge w _ _ _) (grownCap_le_maxLen w _ _ _ hnm) (fun j v hv=> ?_) he (by rw[hw];simp);rw[hdrop,htake,List.append_nil]at hv;exact hv;have hlt:i<n:=by rcases hz with rfl|rfl<;>omega
 cases r with
 |none=>obtain⟨rfl,rfl⟩:=hr;(rcases hz with rfl|rfl<;>omega)
 |some b=>
  obtain⟨rfl,hrow,hsize,hvb,hcs⟩:=hr;have hdl:(cs.drop (i*z)).length=n*z-i*z:=by rw[List.length_drop,hcl]
  have htl:(cs.take (i*z)).length=i*z:=by rw[List.length_take,hcl];(rcases hz with rfl|rfl<;>omega)
  by_cases hroom:n+m<=c;refine(shift b n c i vb m vc cs vs cur vcur w hlt hm hroom hc63 hvb hcl hvl hrow hsize hcs hvrow hvs h1c h1v).mono fun e w'⟨he,hw⟩=> ?_;subst hw;have hrowd:jb w.drew b cur:=hrow;obtain⟨cur1,hrow1,hsz1,hget1⟩:=gY b (cs.drop (i*z)) ((i+m)*z) w.drew cur hrowd (by rw[hdl];(rcases hz with rfl|rfl<;>omega));obtain⟨cur2,hrow2,hsz2,hget2⟩:=gY b vs (i*z) _ cur1 hrow1 (by rcases hz with rfl|rfl<;>omega);have bel:=fH b 0 (Nat.zero_le _) vs (i*z) w _ (fH b 0 (Nat.zero_le _) (cs.drop (i*z)) ((i+m)*z) w w.drew ⟨rfl,rfl,rfl,Nat.le_refl _,fun _ _=>rfl⟩);refine⟨b,c,cur2,he,hrow2,by rw[hsz2,hsz1];exact hsize,hroom,hcm,fun j v hv=> ?_, .inl ⟨rfl,by rw[hsz2,hsz1],by rw[gF,gF];rfl⟩,bel.os,bel.tape,bel.output,fun k _ hk=>by rw[gE b _ _ _ k hk,gE b _ _ _ k hk];rfl⟩;rw[hget2];by_cases h1:j<i*z;rw[if_neg (by rcases hz with rfl|rfl<;>omega),hget1,if_neg (by rcases hz with rfl|rfl<;>omega)];rw[List.append_assoc,List.getElem?_append_left (by rcases hz with rfl|rfl<;>omega),List.getElem?_take,if_pos h1]at hv;exact hcs j v hv;by_cases h2:j<i*z+m*z;rw[if_pos (by rcases hz with rfl|rfl<;>omega)];rw[List.append_assoc,List.getElem?_append_right (by rcases hz with rfl|rfl<;>omega),htl,List.getElem?_append_left (by rcases hz with rfl|rfl<;>omega)]at hv;exact hv;rw[if_neg (by rcases hz with rfl|rfl<;>omega),hget1];rw[List.getElem?_append_right (by rw[List.length_append];(rcases hz with rfl|rfl<;>omega)),List.length_append,htl,hvl]at hv;have hl:=(List.getElem?_eq_some_iff.1 hv).1;rw[if_pos (by rcases hz with rfl|rfl<;>omega)];rw[show j-(i+m)*z=j-(i*z+m*z) by rcases hz with rfl|rfl<;>omega];exact hv;refine(grow b n c i vb m vc cs vs cur vcur w hlt hm hnc (by rcases hz with rfl|rfl<;>omega) hbig hcl hvl hrow hcs hvrow hvs h1c h1v).mono fun e w'⟨z0,hz0,he,hw⟩=> ?_;have hG:=grownCap_ge w (n+m) c E;have hG2:=grownCap_le_maxLen w (n+m) c E hnm;generalize grownCap w (n+m) c E=G at he hw hG hG2;generalize hROW:(cs.take (i*z)).toArray++Builtin.zeroCells z0.cells (n+m-i)++Builtin.zeroCells z0.cells (G-(n+m))=ROW at hw;have hRs:ROW.size=G*z:=by rw[<-hROW];simp only[Array.size_append,List.size_toArray,size_zeroCells,hz0,htl];rcases hz with rfl|rfl<;>omega
  have hR0:∀j,j<i*z->ROW[j]? =cs[j]? :=fun j hj=>by rw[<-hROW,Array.getElem?_append_left (by simp only[Array.size_append,List.size_toArray,htl];(rcases hz with rfl|rfl<;>omega)),Array.getElem?_append_left (by simp only[List.size_toArray,htl];exact hj)];simp[hj]
  have hrow0:jb (w.alloc (.cells ROW E)).drew w.heap.size ROW:=jb.new w ROW E;obtain⟨cur1,hrow1,hsz1,hget1⟩:=gY w.heap.size vs (i*z) _ ROW hrow0 (by rcases hz with rfl|rfl<;>omega);have hrow1d:jb ((w.alloc (.cells ROW E)).drew.setCells w.heap.size (i*z) vs).drew w.heap.size cur1:=hrow1;obtain⟨cur2,hrow2,hsz2,hget2⟩:=gY w.heap.size (cs.drop (i*z)) ((i+m)*z) _ cur1 hrow1d (by rw[hdl];(rcases hz with rfl|rfl<;>omega));have bel0:Below w.heap.size w (w.alloc (.cells ROW E)).drew:=⟨rfl,rfl,rfl,by simp[World.drew],fun k hk=>iw w _ k hk⟩;have bel1:=fH w.heap.size w.heap.size (Nat.le_refl _) vs (i*z) w _ bel0;have bel1d:Below w.heap.size w ((w.alloc (.cells ROW E)).drew.setCells w.heap.size (i*z) vs).drew:=⟨bel1.os,bel1.tape,bel1.output,bel1.size,bel1.block⟩;have bel2:=fH w.heap.size w.heap.size (Nat.le_refl _) (cs.drop (i*z)) ((i+m)*z) w _ bel1d;rw[<-hw]at bel2 hrow2;refine⟨w.heap.size,G,cur2,he,hrow2,by rw[hsz2,hsz1,hRs],hG,hG2,fun j v hv=> ?_, .inr ⟨rfl,hrow2.lt⟩,bel2.os,bel2.tape,bel2.output,fun k hk _=>bel2.block k hk⟩;rw[hget2];by_cases h1:j<i*z;rw[if_neg (by rcases hz with rfl|rfl<;>omega),hget1,if_neg (by rcases hz with rfl|rfl<;>omega),hR0 j h1];rw[List.append_assoc,List.getElem?_append_left (by rcases hz with rfl|rfl<;>omega),List.getElem?_take,if_pos h1]at hv;exact hv;by_cases h2:j<i*z+m*z;rw[if_neg (by rcases hz with rfl|rfl<;>omega),hget1,if_pos (by rcases hz with rfl|rfl<;>omega)];rw[List.append_assoc,List.getElem?_append_right (by rcases hz with rfl|rfl<;>omega),htl,List.getElem?_append_left (by rcases hz with rfl|rfl<;>omega)]at hv;exact hv;rw[List.getElem?_append_right (by rw[List.length_append];(rcases hz with rfl|rfl<;>omega)),List.length_append,htl,hvl]at hv;have hl:=(List.getElem?_eq_some_iff.1 hv).1;rw[if_pos (by rcases hz with rfl|rfl<;>omega)];rw[show j-(i+m)*z=j-(i*z+m*z) by rcases hz with rfl|rfl<;>omega];exact hv
set_option maxHeartbeats 4000000 in
set_option maxRecDepth 100000 in
def abc {P:Program}{f T TI E z B:Nat}(hz:z=2 \/z=4)(hB:B=24 \/B=56 \/B=16)(tS:P.underlying T=some (.slice E))(tI:P.underlying TI=some (.int .i64))(hI:∃i0 z0,P.info? E=some i0/\ i0.size=z/\ i0.bytes=B/\ i0.zero=some z0/\ z0.cells.size=z)
 (walk:∀(b n c i vb m vc G:Nat)(cs vs:List Value)(ROW:Array Value)(w:World),i<n->0<m->n<=c->c<n+m->¬((m:Int)=0)->¬((i:Int)=(n:Int))->(c:Int)<(n:Int)+(m:Int)->n+m<=G->G<=9223372036854775807->¬(G=i)->¬(G=i+m)->¬(c=i)->b≠w.heap.size->(∀ty,(Builtin.append_ #[T,TI] ty #[.slice (some ⟨b,0,none⟩) i c, .int .i64 ((n:Int)+(m:Int)-(i:Int))]).run P w= .ok (.slice (some ⟨w.heap.size,0,none⟩) (n+m) G) (w.drew.alloc (.cells ROW E)))->(∀(W:World),(∀x,W.cell? x=(w.drew.alloc (.cells ROW E)).cell? x)->(∀x,W.frozen? x=(w.drew.alloc (.cells ROW E)).frozen? x)->∀ty dc,(Builtin.copy_ #[T,T] ty #[.slice (some ⟨w.heap.size,i*z,none⟩) (n+m-i) dc, .slice (some ⟨vb,0,none⟩) m vc]).run P W= .ok (goInt (Nat.min m (n+m-i))) (W.setCells w.heap.size (i*z) vs))->(∀(W:World),(∀x,W.cell? x=((w.drew.alloc (.cells ROW E)).setCells w.heap.size (i*z) vs).cell? x)->(∀x,W.frozen? x=((w.drew.alloc (.cells ROW E)).setCells w.heap.size (i*z) vs).frozen? x)->∀ty dc sc,(Builtin.copy_ #[T,T] ty #[.slice (some ⟨w.heap.size,(i+m)*z,none⟩) (n+m-(i+m)) dc, .slice (some ⟨b,i*z,none⟩) (n-i) sc]).run P W= .ok (goInt (Nat.min (n-i) (n+m-(i+m)))) (W.setCells w.heap.size ((i+m)*z) (cs.drop (i*z))))->
  Calls P f #[.slice (some ⟨b,0,none⟩) n c, .int .i64 i, .slice (some ⟨vb,0,none⟩) m vc] w fun e w'=>e= .returned (.slice (some ⟨w.heap.size,0,none⟩) (n+m) G)/\ w'=(((w.alloc (.cells ROW E)).drew.setCells w.heap.size (i*z) vs).drew).setCells w.heap.size ((i+m)*z) (cs.drop (i*z)))
 (b n c i vb m vc:Nat) (cs vs:List Value) (cur vcur:Array Value) (w:World) (hi:i<n) (hm:0<m) (hnc:n<=c) (hroom:c<n+m) (hbig:(n+m)*B<=140737488355328)
 (hcl:cs.length=n*z) (hvl:vs.length=m*z) (hrow:jb w b cur) (hcs:∀(j:Nat)v,cs[j]? =some v->cur[j]? =some v)
 (hvrow:jb w vb vcur) (hvs:∀(j:Nat)v,vs[j]? =some v->vcur[j]? =some v) (h1c:∀v∈cs,v.oneCell'=true) (h1v:∀v∈vs,v.oneCell'=true):
 Calls P f #[.slice (some ⟨b,0,none⟩) n c, .int .i64 i, .slice (some ⟨vb,0,none⟩) m vc] w fun e w'=>
  ∃(y:Value),y.cells.size=z/\ e= .returned (.slice (some ⟨w.heap.size,0,none⟩) (n+m) (grownCap w (n+m) c E))/\
  w'=(((w.alloc (.cells ((cs.take (i*z)).toArray++Builtin.zeroCells y.cells (n+m-i)++Builtin.zeroCells y.cells (grownCap w (n+m) c E-(n+m))) E)).drew.setCells w.heap.size (i*z) vs).drew).setCells w.heap.size ((i+m)*z) (cs.drop (i*z)):=by
 obtain⟨i0,z0,hi0,hi1,hi2,hi3,hi4⟩:=hI;have hsz:(P.info? E).map (·.size)=some z:=by rw[hi0,<-hi1];rfl
 have hz1:¬((m:Int)=0):=by omega
 have hz2:¬((i:Int)=(n:Int)):=by omega
 have hz3:(c:Int)<(n:Int)+(m:Int):=by omega
 have hbw:b<w.heap.size:=hrow.lt;have hvw:vb<w.heap.size:=hvrow.lt;have hkk:(n:Int)+(m:Int)-(i:Int)=((n+m-i:Nat):Int):=by omega
 have hik:i+(n+m-i)=n+m:=by omega
 have hold:(Builtin.firstCells i0.size i (.slice (some ⟨b,0,none⟩) i c)).run P w.drew= .ok (cs.take (i*z)).toArray w.drew:=by
  rw[hi1];exact zx w.drew b i c (cs.take (i*z)) cur hrow (by rw[List.length_take,hcl];(rcases hz with rfl|rfl<;>omega)) (fun j v hj=>by
   rw[List.getElem?_take]at hj
   split at hj
   ·exact hcs j v hj
   ·cases hj)
 have hrz:∀ty,(Builtin.append_ #[T,TI] ty #[.slice (some ⟨b,0,none⟩) i c, .int .i64 ((n:Int)+(m:Int)-(i:Int))]).run P w=
  .ok (.slice (some ⟨w.heap.size,0,none⟩) (n+m) (grownCap w (n+m) c E)) (w.drew.alloc (.cells ((cs.take (i*z)).toArray++Builtin.zeroCells z0.cells (n+m-i)++Builtin.zeroCells z0.cells (grownCap w (n+m) c E-(n+m))) E)):=fun ty=>by have h:=Lib.run_append_grow_zeros w T TI ty E i0 z0 .i64 .i64 tS tI hi0 hi3 (some ⟨b,0,none⟩) i c (cs.take (i*z)) hold (n+m-i) (by rcases hB with rfl|rfl|rfl<;>omega) (by rcases hB with rfl|rfl|rfl<;>omega) (by rcases hB with rfl|rfl|rfl<;>omega) (by rcases hB with rfl|rfl|rfl<;>omega) (by rw[hi2];(rcases hB with rfl|rfl|rfl<;>omega)) (by rw[hi2,hik];exact growslice_fits hroom hbig);rw[hik]at h;rw[hkk];exact h
 obtain⟨G,hG⟩:∃G,G=grownCap w (n+m) c E:=⟨_,rfl⟩;obtain⟨ROW,hROW⟩:∃ROW:Array Value,ROW=(cs.take (i*z)).toArray++Builtin.zeroCells z0.cells (n+m-i)++Builtin.zeroCells z0.cells (G-(n+m)):=⟨_,rfl⟩;rw[<-hG]at hrz⊢;rw[<-hROW]at hrz;have hGn:n+m<=G:=by rw[hG];exact grownCap_ge w _ _ _
 have hRl:(n+m)*z<=ROW.size:=by rw[hROW];simp only[Array.size_append,List.size_toArray,size_zeroCells,hi4,List.length_take,hcl];rcases hz with rfl|rfl<;>omega
 obtain⟨W1,hW1⟩:∃W1,W1=w.drew.alloc (.cells ROW E):=⟨_,rfl⟩;rw[<-hW1]at hrz;have hN:∀j,j<(n+m)*z->(W1.cell? ⟨w.heap.size,j,none⟩).isSome=true:=fun j hj=>by rw[hW1,World.cell?_alloc_at (w:=w.drew) ROW _ w.heap.size j rfl,Array.getElem?_eq_getElem (by omega)];rfl
 have hNf:∀j,W1.frozen? ⟨w.heap.size,j,none⟩=false:=fun j=>by rw[hW1];exact World.frozen?_alloc_at (w:=w.drew) ROW _ w.heap.size j rfl
 have hOb:∀j v,w.cell? ⟨b,j,none⟩=some v->W1.cell? ⟨b,j,none⟩=some v:=fun j v h=>by rw[hW1,World.cell?_alloc_past (w:=w.drew) _ b j hbw];exact h
 have hOv:∀j v,w.cell? ⟨vb,j,none⟩=some v->W1.cell? ⟨vb,j,none⟩=some v:=fun j v h=>by rw[hW1,World.cell?_alloc_past (w:=w.drew) _ vb j hvw];exact h
 have hcpA:∀(W:World),(∀x,W.cell? x=W1.cell? x)->(∀x,W.frozen? x=W1.frozen? x)->∀ty dc,(Builtin.copy_ #[T,T] ty #[.slice (some ⟨w.heap.size,i*z,none⟩) (n+m-i) dc, .slice (some ⟨vb,0,none⟩) m vc]).run P W= .ok (goInt (Nat.min m (n+m-i))) (W.setCells w.heap.size (i*z) vs):=fun W hWc hWf ty dc=>
  om W _ _ ty E z w.heap.size (i*z) (n+m-i) dc ⟨vb,0,none⟩ m vc vs tS hsz (by rw[hvl];simp only[Nat.min_def];split<;>rcases hz with rfl|rfl<;>omega)
   (fun j v hj=>by rw[Addr.add_lit,hWc];exact hOv _ v ((hvrow.cell _).trans (by simpa using hvs j v hj)))
   (fun j hj=>by rw[hWc];exact hN _ (by rcases hz with rfl|rfl<;>omega)) (fun j hj=>by rw[hWf];exact hNf _) h1v
 have hG63:G<=9223372036854775807:=by have:=grownCap_le_maxLen w (n+m) c E (by unfold maxLen;rcases hB with rfl|rfl|rfl<;>omega);rw[<-hG]at this;unfold maxLen at this;rcases hz with rfl|rfl<;>omega
 have hGi:¬(G=i):=by omega
 have hGim:¬(G=i+m):=by omega
 have hci:¬(c=i):=by omega
 have hbN:b≠w.heap.size:=by omega
 have hdl:(cs.drop (i*z)).length=n*z-i*z:=by rw[List.length_drop,hcl]
 have hcpB:∀(W:World),(∀x,W.cell? x=(W1.setCells w.heap.size (i*z) vs).cell? x)->(∀x,W.frozen? x=(W1.setCells w.heap.size (i*z) vs).frozen? x)->∀ty dc sc,(Builtin.copy_ #[T,T] ty #[.slice (some ⟨w.heap.size,(i+m)*z,none⟩) (n+m-(i+m)) dc, .slice (some ⟨b,i*z,none⟩) (n-i) sc]).run P W= .ok (goInt (Nat.min (n-i) (n+m-(i+m)))) (W.setCells w.heap.size ((i+m)*z) (cs.drop (i*z))):=fun W hWc hWf ty dc sc=>
  om W _ _ ty E z w.heap.size ((i+m)*z) (n+m-(i+m)) dc ⟨b,i*z,none⟩ (n-i) sc (cs.drop (i*z)) tS hsz (by rw[hdl];simp only[Nat.min_def];split<;>rcases hz with rfl|rfl<;>omega)
   (fun j v hj=>by
    rw[Addr.add_lit,hWc,World.cell?_setCells_out _ _ _ _ _ (fun h _=>absurd h hbN)]
    exact hOb _ v ((hrow.cell _).trans (hcs (i*z+j) v (by rwa[List.getElem?_drop]at hj))))
   (fun j hj=>by rw[hWc];exact isSome_setCells _ _ _ _ (fun t ht=>hN _ (by rcases hz with rfl|rfl<;>omega)) _ (hN _ (by rcases hz with rfl|rfl<;>omega)))
   (fun j hj=>by rw[hWf,World.frozen?_setCells];exact hNf _) (fun v hv=>h1c v (List.mem_of_mem_drop hv))
 subst hW1;have fin:∀{e:Ending}{w':World},e= .returned (.slice (some ⟨w.heap.size,0,none⟩) (n+m) G)->w'=(((w.alloc (.cells ROW E)).drew.setCells w.heap.size (i*z) vs).drew).setCells w.heap.size ((i+m)*z) (cs.drop (i*z))->∃(y:Value),y.cells.size=z/\ e= .returned (.slice (some ⟨w.heap.size,0,none⟩) (n+m) G)/\
  w'=(((w.alloc (.cells ((cs.take (i*z)).toArray++Builtin.zeroCells y.cells (n+m-i)++Builtin.zeroCells y.cells (G-(n+m))) E)).drew.setCells w.heap.size (i*z) vs).drew).setCells w.heap.size ((i+m)*z) (cs.drop (i*z)):=fun h1 h2=>⟨z0,hi4,h1,by rw[<-hROW];exact h2⟩
 exact(walk b n c i vb m vc G cs vs ROW w hi hm hnc hroom hz1 hz2 hz3 hGn hG63 hGi hGim hci hbN hrz hcpA hcpB).mono fun e w' h=>fin h.1 h.2
section
variable (b n c i vb m vc:Nat)(cs vs:List Value)(cur vcur:Array Value)(w:World)
def OQ :Tryz.prog.underlying 263=some (.slice 333):=by kernel_rfl
def aev :(Tryz.prog.info? 333).map (·.size)=some 2:=by kernel_rfl
set_option maxHeartbeats 4000000 in
set_option maxRecDepth 100000 in
def TS (hi:i<n)(hm:0<m)(hroom:n+m<=c)(hc63:c<=9223372036854775807)(hvb:vb≠b)
 (hcl:cs.length=n*2) (hvl:vs.length=m*2) (hrow:jb w b cur) (hsize:cur.size=c*2) (hcs:∀(j:Nat)v,cs[j]? =some v->cur[j]? =some v)
 (hvrow:jb w vb vcur) (hvs:∀(j:Nat)v,vs[j]? =some v->vcur[j]? =some v) (h1c:∀v∈cs,v.oneCell'=true) (h1v:∀v∈vs,v.oneCell'=true):
 Calls Tryz.prog 345 #[.slice (some ⟨b,0,none⟩) n c, .int .i64 i, .slice (some ⟨vb,0,none⟩) m vc] w fun e w'=>
  e= .returned (.slice (some ⟨b,0,none⟩) (n+m) c)/\ w'=(w.drew.setCells b ((i+m)*2) (cs.drop (i*2))).setCells b (i*2) vs:=by
 have hz1:¬((m:Int)=0):=by omega
 have hz2:¬((i:Int)=(n:Int)):=by omega
 have tS:=OQ;have hsz:=aev;have hsp:∀j,j<(n+m)*2->(w.cell? ⟨b,j,none⟩).isSome=true:=fun j hj=>by rw[hrow.cell,Array.getElem?_eq_getElem (by omega)];rfl
 have hov:∀lb cb,(callFunc 380 #[.slice (some ⟨vb,0,none⟩) m vc, .slice (some ⟨b,(i+m)*2,none⟩) lb cb]).run Tryz.prog w= .ok (.value (.bool false)) w:=fun lb cb=>by
  obtain⟨TA,hA⟩:=hvrow;obtain⟨TB,hB⟩:=hrow;rw[run_callFunc_extern Tryz.func380 (by kernel_rfl) (by kernel_rfl) (by kernel_rfl) (e:=Extern.SlicesOverlaps.overlaps #[263,263] #[4]) (by kernel_rfl),
   Lib.run_overlaps_apart w 263 4 333 tS 2 (fun w=>by rfl) ⟨vb,0,none⟩ ⟨b,(i+m)*2,none⟩ m vc lb cb hvb TA TB vcur.size cur.size (by simp[World.shape?,hA]) (by simp[World.shape?,hB]) (by omega) (by simp[World.frozen?,hA]) (by simp[World.frozen?,hA])]
  rfl
 have hw1:IntKind.i64.wrap ((i:Int)+(m:Int))=(i:Int)+(m:Int):=by rw[IntKind.wrap_i64];omega
 have hb1:(0:Int)<=(i:Int)+(m:Int):=by omega
 have hin:i<=n:=by omega
 have htn:((i:Int)+(m:Int)).toNat=i+m:=by omega
 have hb2:¬(c=i+m):=by omega
 have hb3:(i:Int)<=(n:Int)+(m:Int):=by omega
 have hb4:¬(c=i):=by omega
 have hdl:(cs.drop (i*2)).length=n*2-i*2:=by rw[List.length_drop,hcl]
 have hcp1:∀ty dc sc,(Builtin.copy_ #[263,263] ty #[.slice (some ⟨b,(i+m)*2,none⟩) (n+m-(i+m)) dc, .slice (some ⟨b,i*2,none⟩) (n+m-i) sc]).run Tryz.prog w.drew= .ok (goInt (Nat.min (n+m-i) (n+m-(i+m)))) (w.drew.setCells b ((i+m)*2) (cs.drop (i*2))):=fun ty dc sc=>
  om w.drew _ _ ty 333 2 b ((i+m)*2) (n+m-(i+m)) dc ⟨b,i*2,none⟩ (n+m-i) sc (cs.drop (i*2)) tS hsz (by rw[hdl];simp only[Nat.min_def];split<;>omega)
   (fun j v hj=>by
    rw[Addr.add_lit]
    exact(hrow.cell _).trans (hcs (i*2+j) v (by rwa[List.getElem?_drop]at hj)))
   (fun j hj=>hsp _ (by omega)) (fun j hj=>hrow.free _) (fun v hv=>h1c v (List.mem_of_mem_drop hv))
 obtain⟨W1,hW1⟩:∃W1,W1=w.drew.setCells b ((i+m)*2) (cs.drop (i*2)):=⟨_,rfl⟩;have hsp1:∀k,k<(n+m)*2->(W1.cell? ⟨b,k,none⟩).isSome=true:=fun k hk=>by rw[hW1];exact isSome_setCells b (cs.drop (i*2)) ((i+m)*2) w.drew (fun j hj=>hsp ((i+m)*2+j) (by rw[hdl]at hj;omega)) k (hsp k hk)
 have hcp2:∀(W:World),(∀x,W.cell? x=W1.cell? x)->(∀x,W.frozen? x=W1.frozen? x)->∀ty dc,(Builtin.copy_ #[263,263] ty #[.slice (some ⟨b,i*2,none⟩) (n+m-i) dc, .slice (some ⟨vb,0,none⟩) m vc]).run Tryz.prog W= .ok (goInt (Nat.min m (n+m-i))) (W.setCells b (i*2) vs):=fun W hWc hWf ty dc=>
  om W _ _ ty 333 2 b (i*2) (n+m-i) dc ⟨vb,0,none⟩ m vc vs tS hsz (by rw[hvl];simp only[Nat.min_def];split<;>omega)
   (fun j v hj=>by
    rw[Addr.add_lit,hWc,hW1,World.cell?_setCells_out b _ _ _ _ (fun h _=>absurd h hvb)]
    exact(hvrow.cell _).trans (by simpa using hvs j v hj))
   (fun j hj=>by rw[hWc];exact hsp1 _ (by omega)) (fun j hj=>by rw[hWf,hW1,World.frozen?_setCells];exact hrow.free _) h1v
 rw[<-hW1]at hcp1;have mixed:Tryz.prog.follows .mixedOrders=true:=by kernel_rfl
 go_enter Tryz.func345,Tryz.ntmps345;go_wp2_with (simp only[hov]);go_region_law_o (refine step_copy_runI rfl _ _ 263 263 rfl _ _ (by simp[Act.eval,Act.put]) (by simp[Act.eval,Act.put]) (hcp1 _ _ _) ?_);go_wp2_with (at_builtin;refine wpList_copy_runI _ rfl _ _ 263 263 rfl _ _ rfl rfl (hcp2 _ (fun _=>rfl) (fun _=>rfl) _ _) ?_);go_ret;first|exact⟨rfl,rfl⟩|exact⟨rfl,by rw[hW1]⟩
def Rx (bs:Option Addr)(n c:Nat):∀w,(Builtin.lenOf (.slice bs n c)).run Tryz.prog w= .ok n w:=fun w=>rfl
set_option maxHeartbeats 4000000 in
set_option maxRecDepth 100000 in
def WO (hm:0<m)(hroom:n+m<=c)(hc63:c<=9223372036854775807)
 (hvl:vs.length=m*2) (hrow:jb w b cur) (hsize:cur.size=c*2)
 (hvrow:jb w vb vcur) (hvs:∀(j:Nat)v,vs[j]? =some v->vcur[j]? =some v) (h1v:∀v∈vs,v.oneCell'=true):
 Calls Tryz.prog 345 #[.slice (some ⟨b,0,none⟩) n c, .int .i64 n, .slice (some ⟨vb,0,none⟩) m vc] w fun e w'=>
  e= .returned (.slice (some ⟨b,0,none⟩) (n+m) c)/\ w'=w.setCells b (n*2) vs:=by
 have hz1:¬((m:Int)=0):=by omega
 have tS:=OQ;obtain⟨i0,hi0,hi1⟩:∃i0,Tryz.prog.info? 333=some i0/\ i0.size=2:=⟨_,rfl,rfl⟩;have hrun:∀ty,(Builtin.append_ #[263,263] ty #[.slice (some ⟨b,0,none⟩) n c, .slice (some ⟨vb,0,none⟩) m vc]).run Tryz.prog w= .ok (.slice (some ⟨b,0,none⟩) (n+m) c) (w.setCells b (n*2) vs):=fun ty=>by have:=CS (P:=Tryz.prog) (ty:=ty) (w:=w) tS (.inr ⟨_,tS⟩) hi0 (g:=b) (n:=n) (cap:=c) (m:=m) hrow (u:= .slice (some ⟨vb,0,none⟩) m vc) (Rx _ _ _) (news:=vs) (by rw[hi1];exact hvl) (by rw[hi1];exact zx w vb m vc vs vcur hvrow hvl hvs) h1v hroom (by rw[hi1];omega);rw[hi1]at this;exact this
 go_enter Tryz.func345,Tryz.ntmps345;go_wp2_with (at_builtin;refine Lib.wpList_append_run _ rfl _ _ _ _ rfl _ _ rfl rfl _ _ (hrun _) ?_);go_ret;exact⟨rfl,rfl⟩
set_option maxHeartbeats 4000000 in
set_option maxRecDepth 100000 in
def Nt (bs:Option Addr)(hm:0<m)(hnc:n<=c)(hroom:c<n+m)(hbig:(n+m)*24<=140737488355328)(h63:n+m<=9223372036854775807)
 (hold:(Builtin.firstCells 2 n (.slice bs n c)).run Tryz.prog w.drew= .ok cs.toArray w.drew) (hnil:bs=none->n=0)
 (hvl:vs.length=m*2) (hvrow:jb w vb vcur) (hvs:∀(j:Nat)v,vs[j]? =some v->vcur[j]? =some v):
 Calls Tryz.prog 345 #[.slice bs n c, .int .i64 n, .slice (some ⟨vb,0,none⟩) m vc] w fun e w'=>
  ∃(z:Value),z.cells.size=2/\ e= .returned (.slice (some ⟨w.heap.size,0,none⟩) (n+m) (grownCap w (n+m) c 333))/\ w'=w.drew.alloc (.cells (cs.toArray++vs.toArray++Builtin.zeroCells z.cells (grownCap w (n+m) c 333-(n+m))) 333):=by
 have hz1:¬((m:Int)=0):=by omega
 have tS:=OQ;obtain⟨i0,z0,hi0,hi1,hi2,hi3,hi4⟩:∃i0 z0,Tryz.prog.info? 333=some i0/\ i0.size=2/\ i0.bytes=24/\ i0.zero=some z0/\ z0.cells.size=2:=⟨_,_,rfl,rfl,rfl,rfl,rfl⟩;have hrun0:=fun ty=>zd (P:=Tryz.prog) (ty:=ty) (w:=w) tS (.inr ⟨_,tS⟩) hi0 hi3 (s:= .slice bs n c) rfl (Rx (some ⟨vb,0,none⟩) m vc) (by rw[hi1];exact hold) (by rw[hi1];exact zx w.drew vb m vc vs vcur hvrow hvl hvs) hroom h63 (by rw[hi2];exact hbig);obtain⟨G,hG⟩:∃G,G=grownCap w (n+m) c 333:=⟨_,rfl⟩;obtain⟨ROW,hROW⟩:∃ROW:Array Value,ROW=cs.toArray++vs.toArray++Builtin.zeroCells z0.cells (G-(n+m)):=⟨_,rfl⟩;have hrun:∀ty,(Builtin.append_ #[263,263] ty #[.slice bs n c, .slice (some ⟨vb,0,none⟩) m vc]).run Tryz.prog w= .ok (.slice (some ⟨w.heap.size,0,none⟩) (n+m) G) (w.drew.alloc (.cells ROW 333)):=fun ty=>by rw[hROW,hG];exact hrun0 ty
 rw[<-hG];have main:Calls Tryz.prog 345 #[.slice bs n c, .int .i64 n, .slice (some ⟨vb,0,none⟩) m vc] w fun e w'=>
  e= .returned (.slice (some ⟨w.heap.size,0,none⟩) (n+m) G)/\ w'=w.drew.alloc (.cells ROW 333):=by
  clear hrun0 hG hROW;go_enter Tryz.func345,Tryz.ntmps345;cases bs with
  |none=>have h0:=hnil rfl;subst h0;go_wp2_with (at_builtin;refine Lib.wpList_append_run _ rfl _ _ _ _ rfl _ _ rfl rfl _ _ (hrun _) ?_);go_ret;exact⟨rfl,rfl⟩
  |some a=>obtain⟨ab,ao,asp⟩:=a;go_wp2_with (at_builtin;refine Lib.wpList_append_run _ rfl _ _ _ _ rfl _ _ rfl rfl _ _ (hrun _) ?_);all_goals (go_ret;exact⟨rfl,rfl⟩)
 exact main.mono fun e w' h=>⟨z0,hi4,h.1,by rw[<-hROW];exact h.2⟩
end
set_option maxHeartbeats 4000000 in
set_option maxRecDepth 100000 in
def abm :CN Tryz.prog 345 2 24:=aej (.inl rfl) (fun b n c vb m vc vs cur vcur w=>WO b n c vb m vc vs cur vcur w) (fun n c vb m vc cs vs vcur w bs=>Nt n c vb m vc cs vs vcur w bs) (fun b n c i vb m vc cs vs cur vcur w=>TS b n c i vb m vc cs vs cur vcur w) (abc (P:=Tryz.prog) (f:=345) (T:=263) (TI:=3) (E:=333) (z:=2) (B:=24) (.inl rfl) (.inl rfl) OQ (by kernel_rfl) ⟨_,_,rfl,rfl,rfl,rfl,rfl⟩ (by
 intro b n c i vb m vc G cs vs ROW w hi hm hnc hroom hz1 hz2 hz3 hGn hG63 hGi hGim hci hbN hrz hcpA hcpB
 have mixed:Tryz.prog.follows .mixedOrders=true:=by kernel_rfl
 have hE1:∀x,((w.alloc (.cells ROW 333)).drew).cell? x=(w.drew.alloc (.cells ROW 333)).cell? x:=fun x=>rfl
 have hE2:∀x,((w.alloc (.cells ROW 333)).drew).frozen? x=(w.drew.alloc (.cells ROW 333)).frozen? x:=fun x=>rfl
 have hF1:∀x,(((w.alloc (.cells ROW 333)).drew.setCells w.heap.size (i*2) vs).drew).cell? x=((w.drew.alloc (.cells ROW 333)).setCells w.heap.size (i*2) vs).cell? x:=fun x=>rfl
 have hF2:∀x,(((w.alloc (.cells ROW 333)).drew.setCells w.heap.size (i*2) vs).drew).frozen? x=((w.drew.alloc (.cells ROW 333)).setCells w.heap.size (i*2) vs).frozen? x:=fun x=>rfl
 have hw1:IntKind.i64.wrap ((i:Int)+(m:Int))=(i:Int)+(m:Int):=by rw[IntKind.wrap_i64];omega
 have hb1:(0:Int)<=(i:Int)+(m:Int):=by omega
 have hin:i<=n:=by omega
 have htn:((i:Int)+(m:Int)).toNat=i+m:=by omega
 have hb3:(i:Int)<=(n:Int):=by omega
 go_enter Tryz.func345,Tryz.ntmps345
 go_wp2_with (first
  |(at_builtin;refine Lib.wpList_append_run _ rfl _ _ _ _ rfl _ _ rfl rfl _ _ (hrz _) ?_)
  |(at_builtin;refine wpList_copy_runI _ rfl _ _ 263 263 rfl _ _ rfl rfl (hcpA _ hE1 hE2 _ _) ?_)
  |(at_builtin;refine wpList_copy_runI _ rfl _ _ 263 263 rfl _ _ rfl rfl (hcpB _ (fun _=>rfl) (fun _=>rfl) _ _ _) ?_))
 go_region_law_o (refine step_copy_runI rfl _ _ 263 263 rfl (.slice (some ⟨w.heap.size,(i+m)*2,none⟩) (n+m-(i+m)) (G-(i+m))) (.slice (some ⟨b,i*2,none⟩) (n-i) (c-i)) (by simp[Act.eval,Act.put]) (by simp[Act.eval,Act.put]) (hcpB _ hF1 hF2 3 (G-(i+m)) (c-i)) ?_)
 go_wp2
 go_ret
 exact⟨rfl,rfl⟩))
section
variable (b n c i vb m vc:Nat)(cs vs:List Value)(cur vcur:Array Value)(w:World)
def Vm :Tryz.prog.underlying 76=some (.slice 267):=by kernel_rfl
def afp :(Tryz.prog.info? 267).map (·.size)=some 4:=by kernel_rfl
set_option maxHeartbeats 4000000 in
set_option maxRecDepth 100000 in
def WW (hi:i<n)(hm:0<m)(hroom:n+m<=c)(hc63:c<=9223372036854775807)(hvb:vb≠b)
 (hcl:cs.length=n*4) (hvl:vs.length=m*4) (hrow:jb w b cur) (hsize:cur.size=c*4) (hcs:∀(j:Nat)v,cs[j]? =some v->cur[j]? =some v)
 (hvrow:jb w vb vcur) (hvs:∀(j:Nat)v,vs[j]? =some v->vcur[j]? =some v) (h1c:∀v∈cs,v.oneCell'=true) (h1v:∀v∈vs,v.oneCell'=true):
 Calls Tryz.prog 346 #[.slice (some ⟨b,0,none⟩) n c, .int .i64 i, .slice (some ⟨vb,0,none⟩) m vc] w fun e w'=>
  e= .returned (.slice (some ⟨b,0,none⟩) (n+m) c)/\ w'=(w.drew.setCells b ((i+m)*4) (cs.drop (i*4))).setCells b (i*4) vs:=by
 have hz1:¬((m:Int)=0):=by omega
 have hz2:¬((i:Int)=(n:Int)):=by omega
 have tS:=Vm;have hsz:=afp;have hsp:∀j,j<(n+m)*4->(w.cell? ⟨b,j,none⟩).isSome=true:=fun j hj=>by rw[hrow.cell,Array.getElem?_eq_getElem (by omega)];rfl
 have hov:∀lb cb,(callFunc 382 #[.slice (some ⟨vb,0,none⟩) m vc, .slice (some ⟨b,(i+m)*4,none⟩) lb cb]).run Tryz.prog w= .ok (.value (.bool false)) w:=fun lb cb=>by
  obtain⟨TA,hA⟩:=hvrow;obtain⟨TB,hB⟩:=hrow;rw[run_callFunc_extern Tryz.func382 (by kernel_rfl) (by kernel_rfl) (by kernel_rfl) (e:=Extern.SlicesOverlaps.overlaps #[76,76] #[4]) (by kernel_rfl),
   Lib.run_overlaps_apart w 76 4 267 tS 4 (fun w=>by rfl) ⟨vb,0,none⟩ ⟨b,(i+m)*4,none⟩ m vc lb cb hvb TA TB vcur.size cur.size (by simp[World.shape?,hA]) (by simp[World.shape?,hB]) (by omega) (by simp[World.frozen?,hA]) (by simp[World.frozen?,hA])]
  rfl
 have hw1:IntKind.i64.wrap ((i:Int)+(m:Int))=(i:Int)+(m:Int):=by rw[IntKind.wrap_i64];omega
 have hb1:(0:Int)<=(i:Int)+(m:Int):=by omega
 have hin:i<=n:=by omega
 have htn:((i:Int)+(m:Int)).toNat=i+m:=by omega
 have hb2:¬(c=i+m):=by omega
 have hb3:(i:Int)<=(n:Int)+(m:Int):=by omega
 have hb4:¬(c=i):=by omega
 have hdl:(cs.drop (i*4)).length=n*4-i*4:=by rw[List.length_drop,hcl]
 have hcp1:∀ty dc sc,(Builtin.copy_ #[76,76] ty #[.slice (some ⟨b,(i+m)*4,none⟩) (n+m-(i+m)) dc, .slice (some ⟨b,i*4,none⟩) (n+m-i) sc]).run Tryz.prog w.drew= .ok (goInt (Nat.min (n+m-i) (n+m-(i+m)))) (w.drew.setCells b ((i+m)*4) (cs.drop (i*4))):=fun ty dc sc=>
  om w.drew _ _ ty 267 4 b ((i+m)*4) (n+m-(i+m)) dc ⟨b,i*4,none⟩ (n+m-i) sc (cs.drop (i*4)) tS hsz (by rw[hdl];simp only[Nat.min_def];split<;>omega)
   (fun j v hj=>by
    rw[Addr.add_lit]
    exact(hrow.cell _).trans (hcs (i*4+j) v (by rwa[List.getElem?_drop]at hj)))
   (fun j hj=>hsp _ (by omega)) (fun j hj=>hrow.free _) (fun v hv=>h1c v (List.mem_of_mem_drop hv))
 obtain⟨W1,hW1⟩:∃W1,W1=w.drew.setCells b ((i+m)*4) (cs.drop (i*4)):=⟨_,rfl⟩;have hsp1:∀k,k<(n+m)*4->(W1.cell? ⟨b,k,none⟩).isSome=true:=fun k hk=>by rw[hW1];exact isSome_setCells b (cs.drop (i*4)) ((i+m)*4) w.drew (fun j hj=>hsp ((i+m)*4+j) (by rw[hdl]at hj;omega)) k (hsp k hk)
 have hcp2:∀(W:World),(∀x,W.cell? x=W1.cell? x)->(∀x,W.frozen? x=W1.frozen? x)->∀ty dc,(Builtin.copy_ #[76,76] ty #[.slice (some ⟨b,i*4,none⟩) (n+m-i) dc, .slice (some ⟨vb,0,none⟩) m vc]).run Tryz.prog W= .ok (goInt (Nat.min m (n+m-i))) (W.setCells b (i*4) vs):=fun W hWc hWf ty dc=>
  om W _ _ ty 267 4 b (i*4) (n+m-i) dc ⟨vb,0,none⟩ m vc vs tS hsz (by rw[hvl];simp only[Nat.min_def];split<;>omega)
   (fun j v hj=>by
    rw[Addr.add_lit,hWc,hW1,World.cell?_setCells_out b _ _ _ _ (fun h _=>absurd h hvb)]
    exact(hvrow.cell _).trans (by simpa using hvs j v hj))
   (fun j hj=>by rw[hWc];exact hsp1 _ (by omega)) (fun j hj=>by rw[hWf,hW1,World.frozen?_setCells];exact hrow.free _) h1v
 rw[<-hW1]at hcp1;have mixed:Tryz.prog.follows .mixedOrders=true:=by kernel_rfl
 go_enter Tryz.func346,Tryz.ntmps346;go_wp2_with (simp only[hov]);go_region_law_o (refine step_copy_runI rfl _ _ 76 76 rfl _ _ (by simp[Act.eval,Act.put]) (by simp[Act.eval,Act.put]) (hcp1 _ _ _) ?_);go_wp2_with (at_builtin;refine wpList_copy_runI _ rfl _ _ 76 76 rfl _ _ rfl rfl (hcp2 _ (fun _=>rfl) (fun _=>rfl) _ _) ?_);go_ret;first|exact⟨rfl,rfl⟩|exact⟨rfl,by rw[hW1]⟩
def US (bs:Option Addr)(n c:Nat):∀w,(Builtin.lenOf (.slice bs n c)).run Tryz.prog w= .ok n w:=fun w=>rfl
set_option maxHeartbeats 4000000 in
set_option maxRecDepth 100000 in
def abH (hm:0<m)(hroom:n+m<=c)(hc63:c<=9223372036854775807)
 (hvl:vs.length=m*4) (hrow:jb w b cur) (hsize:cur.size=c*4)
 (hvrow:jb w vb vcur) (hvs:∀(j:Nat)v,vs[j]? =some v->vcur[j]? =some v) (h1v:∀v∈vs,v.oneCell'=true):
 Calls Tryz.prog 346 #[.slice (some ⟨b,0,none⟩) n c, .int .i64 n, .slice (some ⟨vb,0,none⟩) m vc] w fun e w'=>
  e= .returned (.slice (some ⟨b,0,none⟩) (n+m) c)/\ w'=w.setCells b (n*4) vs:=by
 have hz1:¬((m:Int)=0):=by omega
 have tS:=Vm;obtain⟨i0,hi0,hi1⟩:∃i0,Tryz.prog.info? 267=some i0/\ i0.size=4:=⟨_,rfl,rfl⟩;have hrun:∀ty,(Builtin.append_ #[76,76] ty #[.slice (some ⟨b,0,none⟩) n c, .slice (some ⟨vb,0,none⟩) m vc]).run Tryz.prog w= .ok (.slice (some ⟨b,0,none⟩) (n+m) c) (w.setCells b (n*4) vs):=fun ty=>by have:=CS (P:=Tryz.prog) (ty:=ty) (w:=w) tS (.inr ⟨_,tS⟩) hi0 (g:=b) (n:=n) (cap:=c) (m:=m) hrow (u:= .slice (some ⟨vb,0,none⟩) m vc) (US _ _ _) (news:=vs) (by rw[hi1];exact hvl) (by rw[hi1];exact zx w vb m vc vs vcur hvrow hvl hvs) h1v hroom (by rw[hi1];omega);rw[hi1]at this;exact this
 go_enter Tryz.func346,Tryz.ntmps346;go_wp2_with (at_builtin;refine Lib.wpList_append_run _ rfl _ _ _ _ rfl _ _ rfl rfl _ _ (hrun _) ?_);go_ret;exact⟨rfl,rfl⟩
set_option maxHeartbeats 4000000 in
set_option maxRecDepth 100000 in
def P0 (bs:Option Addr)(hm:0<m)(hnc:n<=c)(hroom:c<n+m)(hbig:(n+m)*56<=140737488355328)(h63:n+m<=9223372036854775807)
 (hold:(Builtin.firstCells 4 n (.slice bs n c)).run Tryz.prog w.drew= .ok cs.toArray w.drew) (hnil:bs=none->n=0)
 (hvl:vs.length=m*4) (hvrow:jb w vb vcur) (hvs:∀(j:Nat)v,vs[j]? =some v->vcur[j]? =some v):
 Calls Tryz.prog 346 #[.slice bs n c, .int .i64 n, .slice (some ⟨vb,0,none⟩) m vc] w fun e w'=>
  ∃(z:Value),z.cells.size=4/\ e= .returned (.slice (some ⟨w.heap.size,0,none⟩) (n+m) (grownCap w (n+m) c 267))/\ w'=w.drew.alloc (.cells (cs.toArray++vs.toArray++Builtin.zeroCells z.cells (grownCap w (n+m) c 267-(n+m))) 267):=by
 have hz1:¬((m:Int)=0):=by omega
 have tS:=Vm;obtain⟨i0,z0,hi0,hi1,hi2,hi3,hi4⟩:∃i0 z0,Tryz.prog.info? 267=some i0/\ i0.size=4/\ i0.bytes=56/\ i0.zero=some z0/\ z0.cells.size=4:=⟨_,_,rfl,rfl,rfl,rfl,rfl⟩;have hrun0:=fun ty=>zd (P:=Tryz.prog) (ty:=ty) (w:=w) tS (.inr ⟨_,tS⟩) hi0 hi3 (s:= .slice bs n c) rfl (US (some ⟨vb,0,none⟩) m vc) (by rw[hi1];exact hold) (by rw[hi1];exact zx w.drew vb m vc vs vcur hvrow hvl hvs) hroom h63 (by rw[hi2];exact hbig);obtain⟨G,hG⟩:∃G,G=grownCap w (n+m) c 267:=⟨_,rfl⟩;obtain⟨ROW,hROW⟩:∃ROW:Array Value,ROW=cs.toArray++vs.toArray++Builtin.zeroCells z0.cells (G-(n+m)):=⟨_,rfl⟩;have hrun:∀ty,(Builtin.append_ #[76,76] ty #[.slice bs n c, .slice (some ⟨vb,0,none⟩) m vc]).run Tryz.prog w= .ok (.slice (some ⟨w.heap.size,0,none⟩) (n+m) G) (w.drew.alloc (.cells ROW 267)):=fun ty=>by rw[hROW,hG];exact hrun0 ty
 rw[<-hG];have main:Calls Tryz.prog 346 #[.slice bs n c, .int .i64 n, .slice (some ⟨vb,0,none⟩) m vc] w fun e w'=>
  e= .returned (.slice (some ⟨w.heap.size,0,none⟩) (n+m) G)/\ w'=w.drew.alloc (.cells ROW 267):=by
  clear hrun0 hG hROW;go_enter Tryz.func346,Tryz.ntmps346;cases bs with
  |none=>have h0:=hnil rfl;subst h0;go_wp2_with (at_builtin;refine Lib.wpList_append_run _ rfl _ _ _ _ rfl _ _ rfl rfl _ _ (hrun _) ?_);go_ret;exact⟨rfl,rfl⟩
  |some a=>obtain⟨ab,ao,asp⟩:=a;go_wp2_with (at_builtin;refine Lib.wpList_append_run _ rfl _ _ _ _ rfl _ _ rfl rfl _ _ (hrun _) ?_);all_goals (go_ret;exact⟨rfl,rfl⟩)
 exact main.mono fun e w' h=>⟨z0,hi4,h.1,by rw[<-hROW];exact h.2⟩
end
set_option maxHeartbeats 4000000 in
set_option maxRecDepth 100000 in
def acN :CN Tryz.prog 346 4 56:=aej (.inr rfl) (fun b n c vb m vc vs cur vcur w=>abH b n c vb m vc vs cur vcur w) (fun n c vb m vc cs vs vcur w bs=>P0 n c vb m vc cs vs vcur w bs) (fun b n c i vb m vc cs vs cur vcur w=>WW b n c i vb m vc cs vs cur vcur w) (abc (P:=Tryz.prog) (f:=346) (T:=76) (TI:=3) (E:=267) (z:=4) (B:=56) (.inr rfl) (.inr (.inl rfl)) Vm (by kernel_rfl) ⟨_,_,rfl,rfl,rfl,rfl,rfl⟩ (by
 intro b n c i vb m vc G cs vs ROW w hi hm hnc hroom hz1 hz2 hz3 hGn hG63 hGi hGim hci hbN hrz hcpA hcpB
 have mixed:Tryz.prog.follows .mixedOrders=true:=by kernel_rfl
 have hE1:∀x,((w.alloc (.cells ROW 267)).drew).cell? x=(w.drew.alloc (.cells ROW 267)).cell? x:=fun x=>rfl
 have hE2:∀x,((w.alloc (.cells ROW 267)).drew).frozen? x=(w.drew.alloc (.cells ROW 267)).frozen? x:=fun x=>rfl
 have hF1:∀x,(((w.alloc (.cells ROW 267)).drew.setCells w.heap.size (i*4) vs).drew).cell? x=((w.drew.alloc (.cells ROW 267)).setCells w.heap.size (i*4) vs).cell? x:=fun x=>rfl
 have hF2:∀x,(((w.alloc (.cells ROW 267)).drew.setCells w.heap.size (i*4) vs).drew).frozen? x=((w.drew.alloc (.cells ROW 267)).setCells w.heap.size (i*4) vs).frozen? x:=fun x=>rfl
 have hw1:IntKind.i64.wrap ((i:Int)+(m:Int))=(i:Int)+(m:Int):=by rw[IntKind.wrap_i64];omega
 have hb1:(0:Int)<=(i:Int)+(m:Int):=by omega
 have hin:i<=n:=by omega
 have htn:((i:Int)+(m:Int)).toNat=i+m:=by omega
 have hb3:(i:Int)<=(n:Int):=by omega
 go_enter Tryz.func346,Tryz.ntmps346
 go_wp2_with (first
  |(at_builtin;refine Lib.wpList_append_run _ rfl _ _ _ _ rfl _ _ rfl rfl _ _ (hrz _) ?_)
  |(at_builtin;refine wpList_copy_runI _ rfl _ _ 76 76 rfl _ _ rfl rfl (hcpA _ hE1 hE2 _ _) ?_)
  |(at_builtin;refine wpList_copy_runI _ rfl _ _ 76 76 rfl _ _ rfl rfl (hcpB _ (fun _=>rfl) (fun _=>rfl) _ _ _) ?_))
 go_region_law_o (refine step_copy_runI rfl _ _ 76 76 rfl (.slice (some ⟨w.heap.size,(i+m)*4,none⟩) (n+m-(i+m)) (G-(i+m))) (.slice (some ⟨b,i*4,none⟩) (n-i) (c-i)) (by simp[Act.eval,Act.put]) (by simp[Act.eval,Act.put]) (hcpB _ hF1 hF2 3 (G-(i+m)) (c-i)) ?_)
 go_wp2
 go_ret
 exact⟨rfl,rfl⟩))
section
variable (b n c i vb m vc:Nat)(cs vs:List Value)(cur vcur:Array Value)(w:World)
def Eb :Tryz.prog.underlying 137=some (.slice 270):=by kernel_rfl
def abJ :(Tryz.prog.info? 270).map (·.size)=some 2:=by kernel_rfl
set_option maxHeartbeats 4000000 in
set_option maxRecDepth 100000 in
def Ou (hi:i<n)(hm:0<m)(hroom:n+m<=c)(hc63:c<=9223372036854775807)(hvb:vb≠b)
 (hcl:cs.length=n*2) (hvl:vs.length=m*2) (hrow:jb w b cur) (hsize:cur.size=c*2) (hcs:∀(j:Nat)v,cs[j]? =some v->cur[j]? =some v)
 (hvrow:jb w vb vcur) (hvs:∀(j:Nat)v,vs[j]? =some v->vcur[j]? =some v) (h1c:∀v∈cs,v.oneCell'=true) (h1v:∀v∈vs,v.oneCell'=true):
 Calls Tryz.prog 291 #[.slice (some ⟨b,0,none⟩) n c, .int .i64 i, .slice (some ⟨vb,0,none⟩) m vc] w fun e w'=>
  e= .returned (.slice (some ⟨b,0,none⟩) (n+m) c)/\ w'=(w.drew.setCells b ((i+m)*2) (cs.drop (i*2))).setCells b (i*2) vs:=by
 have hz1:¬((m:Int)=0):=by omega
 have hz2:¬((i:Int)=(n:Int)):=by omega
 have tS:=Eb;have hsz:=abJ;have hsp:∀j,j<(n+m)*2->(w.cell? ⟨b,j,none⟩).isSome=true:=fun j hj=>by rw[hrow.cell,Array.getElem?_eq_getElem (by omega)];rfl
 have hov:∀lb cb,(callFunc 340 #[.slice (some ⟨vb,0,none⟩) m vc, .slice (some ⟨b,(i+m)*2,none⟩) lb cb]).run Tryz.prog w= .ok (.value (.bool false)) w:=fun lb cb=>by
  obtain⟨TA,hA⟩:=hvrow;obtain⟨TB,hB⟩:=hrow;rw[run_callFunc_extern Tryz.func340 (by kernel_rfl) (by kernel_rfl) (by kernel_rfl) (e:=Extern.SlicesOverlaps.overlaps #[137,137] #[4]) (by kernel_rfl),
   Lib.run_overlaps_apart w 137 4 270 tS 2 (fun w=>by rfl) ⟨vb,0,none⟩ ⟨b,(i+m)*2,none⟩ m vc lb cb hvb TA TB vcur.size cur.size (by simp[World.shape?,hA]) (by simp[World.shape?,hB]) (by omega) (by simp[World.frozen?,hA]) (by simp[World.frozen?,hA])]
  rfl
 have hw1:IntKind.i64.wrap ((i:Int)+(m:Int))=(i:Int)+(m:Int):=by rw[IntKind.wrap_i64];omega
 have hb1:(0:Int)<=(i:Int)+(m:Int):=by omega
 have hin:i<=n:=by omega
 have htn:((i:Int)+(m:Int)).toNat=i+m:=by omega
 have hb2:¬(c=i+m):=by omega
 have hb3:(i:Int)<=(n:Int)+(m:Int):=by omega
 have hb4:¬(c=i):=by omega
 have hdl:(cs.drop (i*2)).length=n*2-i*2:=by rw[List.length_drop,hcl]
 have hcp1:∀ty dc sc,(Builtin.copy_ #[137,137] ty #[.slice (some ⟨b,(i+m)*2,none⟩) (n+m-(i+m)) dc, .slice (some ⟨b,i*2,none⟩) (n+m-i) sc]).run Tryz.prog w.drew= .ok (goInt (Nat.min (n+m-i) (n+m-(i+m)))) (w.drew.setCells b ((i+m)*2) (cs.drop (i*2))):=fun ty dc sc=>
  om w.drew _ _ ty 270 2 b ((i+m)*2) (n+m-(i+m)) dc ⟨b,i*2,none⟩ (n+m-i) sc (cs.drop (i*2)) tS hsz (by rw[hdl];simp only[Nat.min_def];split<;>omega)
   (fun j v hj=>by
    rw[Addr.add_lit]
    exact(hrow.cell _).trans (hcs (i*2+j) v (by rwa[List.getElem?_drop]at hj)))
   (fun j hj=>hsp _ (by omega)) (fun j hj=>hrow.free _) (fun v hv=>h1c v (List.mem_of_mem_drop hv))
 obtain⟨W1,hW1⟩:∃W1,W1=w.drew.setCells b ((i+m)*2) (cs.drop (i*2)):=⟨_,rfl⟩;have hsp1:∀k,k<(n+m)*2->(W1.cell? ⟨b,k,none⟩).isSome=true:=fun k hk=>by rw[hW1];exact isSome_setCells b (cs.drop (i*2)) ((i+m)*2) w.drew (fun j hj=>hsp ((i+m)*2+j) (by rw[hdl]at hj;omega)) k (hsp k hk)
 have hcp2:∀(W:World),(∀x,W.cell? x=W1.cell? x)->(∀x,W.frozen? x=W1.frozen? x)->∀ty dc,(Builtin.copy_ #[137,137] ty #[.slice (some ⟨b,i*2,none⟩) (n+m-i) dc, .slice (some ⟨vb,0,none⟩) m vc]).run Tryz.prog W= .ok (goInt (Nat.min m (n+m-i))) (W.setCells b (i*2) vs):=fun W hWc hWf ty dc=>
  om W _ _ ty 270 2 b (i*2) (n+m-i) dc ⟨vb,0,none⟩ m vc vs tS hsz (by rw[hvl];simp only[Nat.min_def];split<;>omega)
   (fun j v hj=>by
    rw[Addr.add_lit,hWc,hW1,World.cell?_setCells_out b _ _ _ _ (fun h _=>absurd h hvb)]
    exact(hvrow.cell _).trans (by simpa using hvs j v hj))
   (fun j hj=>by rw[hWc];exact hsp1 _ (by omega)) (fun j hj=>by rw[hWf,hW1,World.frozen?_setCells];exact hrow.free _) h1v
 rw[<-hW1]at hcp1;have mixed:Tryz.prog.follows .mixedOrders=true:=by kernel_rfl
 go_enter Tryz.func291,Tryz.ntmps291;go_wp2_with (simp only[hov]);go_region_law_o (refine step_copy_runI rfl _ _ 137 137 rfl _ _ (by simp[Act.eval,Act.put]) (by simp[Act.eval,Act.put]) (hcp1 _ _ _) ?_);go_wp2_with (at_builtin;refine wpList_copy_runI _ rfl _ _ 137 137 rfl _ _ rfl rfl (hcp2 _ (fun _=>rfl) (fun _=>rfl) _ _) ?_);go_ret;first|exact⟨rfl,rfl⟩|exact⟨rfl,by rw[hW1]⟩
def JY (bs:Option Addr)(n c:Nat):∀w,(Builtin.lenOf (.slice bs n c)).run Tryz.prog w= .ok n w:=fun w=>rfl
set_option maxHeartbeats 4000000 in
set_option maxRecDepth 100000 in
def RX (hm:0<m)(hroom:n+m<=c)(hc63:c<=9223372036854775807)
 (hvl:vs.length=m*2) (hrow:jb w b cur) (hsize:cur.size=c*2)
 (hvrow:jb w vb vcur) (hvs:∀(j:Nat)v,vs[j]? =some v->vcur[j]? =some v) (h1v:∀v∈vs,v.oneCell'=true):
 Calls Tryz.prog 291 #[.slice (some ⟨b,0,none⟩) n c, .int .i64 n, .slice (some ⟨vb,0,none⟩) m vc] w fun e w'=>
  e= .returned (.slice (some ⟨b,0,none⟩) (n+m) c)/\ w'=w.setCells b (n*2) vs:=by
 have hz1:¬((m:Int)=0):=by omega
 have tS:=Eb;obtain⟨i0,hi0,hi1⟩:∃i0,Tryz.prog.info? 270=some i0/\ i0.size=2:=⟨_,rfl,rfl⟩;have hrun:∀ty,(Builtin.append_ #[137,137] ty #[.slice (some ⟨b,0,none⟩) n c, .slice (some ⟨vb,0,none⟩) m vc]).run Tryz.prog w= .ok (.slice (some ⟨b,0,none⟩) (n+m) c) (w.setCells b (n*2) vs):=fun ty=>by have:=CS (P:=Tryz.prog) (ty:=ty) (w:=w) tS (.inr ⟨_,tS⟩) hi0 (g:=b) (n:=n) (cap:=c) (m:=m) hrow (u:= .slice (some ⟨vb,0,none⟩) m vc) (JY _ _ _) (news:=vs) (by rw[hi1];exact hvl) (by rw[hi1];exact zx w vb m vc vs vcur hvrow hvl hvs) h1v hroom (by rw[hi1];omega);rw[hi1]at this;exact this
 go_enter Tryz.func291,Tryz.ntmps291;go_wp2_with (at_builtin;refine Lib.wpList_append_run _ rfl _ _ _ _ rfl _ _ rfl rfl _ _ (hrun _) ?_);go_ret;exact⟨rfl,rfl⟩
set_option maxHeartbeats 4000000 in
set_option maxRecDepth 100000 in
def IM (bs:Option Addr)(hm:0<m)(hnc:n<=c)(hroom:c<n+m)(hbig:(n+m)*16<=140737488355328)(h63:n+m<=9223372036854775807)
 (hold:(Builtin.firstCells 2 n (.slice bs n c)).run Tryz.prog w.drew= .ok cs.toArray w.drew) (hnil:bs=none->n=0)
 (hvl:vs.length=m*2) (hvrow:jb w vb vcur) (hvs:∀(j:Nat)v,vs[j]? =some v->vcur[j]? =some v):
 Calls Tryz.prog 291 #[.slice bs n c, .int .i64 n, .slice (some ⟨vb,0,none⟩) m vc] w fun e w'=>
  ∃(z:Value),z.cells.size=2/\ e= .returned (.slice (some ⟨w.heap.size,0,none⟩) (n+m) (grownCap w (n+m) c 270))/\ w'=w.drew.alloc (.cells (cs.toArray++vs.toArray++Builtin.zeroCells z.cells (grownCap w (n+m) c 270-(n+m))) 270):=by
 have hz1:¬((m:Int)=0):=by omega
 have tS:=Eb;obtain⟨i0,z0,hi0,hi1,hi2,hi3,hi4⟩:∃i0 z0,Tryz.prog.info? 270=some i0/\ i0.size=2/\ i0.bytes=16/\ i0.zero=some z0/\ z0.cells.size=2:=⟨_,_,rfl,rfl,rfl,rfl,rfl⟩;have hrun0:=fun ty=>zd (P:=Tryz.prog) (ty:=ty) (w:=w) tS (.inr ⟨_,tS⟩) hi0 hi3 (s:= .slice bs n c) rfl (JY (some ⟨vb,0,none⟩) m vc) (by rw[hi1];exact hold) (by rw[hi1];exact zx w.drew vb m vc vs vcur hvrow hvl hvs) hroom h63 (by rw[hi2];exact hbig);obtain⟨G,hG⟩:∃G,G=grownCap w (n+m) c 270:=⟨_,rfl⟩;obtain⟨ROW,hROW⟩:∃ROW:Array Value,ROW=cs.toArray++vs.toArray++Builtin.zeroCells z0.cells (G-(n+m)):=⟨_,rfl⟩;have hrun:∀ty,(Builtin.append_ #[137,137] ty #[.slice bs n c, .slice (some ⟨vb,0,none⟩) m vc]).run Tryz.prog w= .ok (.slice (some ⟨w.heap.size,0,none⟩) (n+m) G) (w.drew.alloc (.cells ROW 270)):=fun ty=>by rw[hROW,hG];exact hrun0 ty
 rw[<-hG];have main:Calls Tryz.prog 291 #[.slice bs n c, .int .i64 n, .slice (some ⟨vb,0,none⟩) m vc] w fun e w'=>
  e= .returned (.slice (some ⟨w.heap.size,0,none⟩) (n+m) G)/\ w'=w.drew.alloc (.cells ROW 270):=by
  clear hrun0 hG hROW;go_enter Tryz.func291,Tryz.ntmps291;cases bs with
  |none=>have h0:=hnil rfl;subst h0;go_wp2_with (at_builtin;refine Lib.wpList_append_run _ rfl _ _ _ _ rfl _ _ rfl rfl _ _ (hrun _) ?_);go_ret;exact⟨rfl,rfl⟩
  |some a=>obtain⟨ab,ao,asp⟩:=a;go_wp2_with (at_builtin;refine Lib.wpList_append_run _ rfl _ _ _ _ rfl _ _ rfl rfl _ _ (hrun _) ?_);all_goals (go_ret;exact⟨rfl,rfl⟩)
 exact main.mono fun e w' h=>⟨z0,hi4,h.1,by rw[<-hROW];exact h.2⟩
end
set_option maxHeartbeats 4000000 in
set_option maxRecDepth 100000 in
def Tw :CN Tryz.prog 291 2 16:=aej (.inl rfl) (fun b n c vb m vc vs cur vcur w=>RX b n c vb m vc vs cur vcur w) (fun n c vb m vc cs vs vcur w bs=>IM n c vb m vc cs vs vcur w bs) (fun b n c i vb m vc cs vs cur vcur w=>Ou b n c i vb m vc cs vs cur vcur w) (abc (P:=Tryz.prog) (f:=291) (T:=137) (TI:=3) (E:=270) (z:=2) (B:=16) (.inl rfl) (.inr (.inr rfl)) Eb (by kernel_rfl) ⟨_,_,rfl,rfl,rfl,rfl,rfl⟩ (by
 intro b n c i vb m vc G cs vs ROW w hi hm hnc hroom hz1 hz2 hz3 hGn hG63 hGi hGim hci hbN hrz hcpA hcpB
 have mixed:Tryz.prog.follows .mixedOrders=true:=by kernel_rfl
 have hE1:∀x,((w.alloc (.cells ROW 270)).drew).cell? x=(w.drew.alloc (.cells ROW 270)).cell? x:=fun x=>rfl
 have hE2:∀x,((w.alloc (.cells ROW 270)).drew).frozen? x=(w.drew.alloc (.cells ROW 270)).frozen? x:=fun x=>rfl
 have hF1:∀x,(((w.alloc (.cells ROW 270)).drew.setCells w.heap.size (i*2) vs).drew).cell? x=((w.drew.alloc (.cells ROW 270)).setCells w.heap.size (i*2) vs).cell? x:=fun x=>rfl
 have hF2:∀x,(((w.alloc (.cells ROW 270)).drew.setCells w.heap.size (i*2) vs).drew).frozen? x=((w.drew.alloc (.cells ROW 270)).setCells w.heap.size (i*2) vs).frozen? x:=fun x=>rfl
 have hw1:IntKind.i64.wrap ((i:Int)+(m:Int))=(i:Int)+(m:Int):=by rw[IntKind.wrap_i64];omega
 have hb1:(0:Int)<=(i:Int)+(m:Int):=by omega
 have hin:i<=n:=by omega
 have htn:((i:Int)+(m:Int)).toNat=i+m:=by omega
 have hb3:(i:Int)<=(n:Int):=by omega
 go_enter Tryz.func291,Tryz.ntmps291
 go_wp2_with (first
  |(at_builtin;refine Lib.wpList_append_run _ rfl _ _ _ _ rfl _ _ rfl rfl _ _ (hrz _) ?_)
  |(at_builtin;refine wpList_copy_runI _ rfl _ _ 137 137 rfl _ _ rfl rfl (hcpA _ hE1 hE2 _ _) ?_)
  |(at_builtin;refine wpList_copy_runI _ rfl _ _ 137 137 rfl _ _ rfl rfl (hcpB _ (fun _=>rfl) (fun _=>rfl) _ _ _) ?_))
 go_region_law_o (refine step_copy_runI rfl _ _ 137 137 rfl (.slice (some ⟨w.heap.size,(i+m)*2,none⟩) (n+m-(i+m)) (G-(i+m))) (.slice (some ⟨b,i*2,none⟩) (n-i) (c-i)) (by simp[Act.eval,Act.put]) (by simp[Act.eval,Act.put]) (hcpB _ hF1 hF2 3 (G-(i+m)) (c-i)) ?_)
 go_wp2
 go_ret
 exact⟨rfl,rfl⟩))
end Go.Proofs.YtpnolnkjijmfjaaGreat
