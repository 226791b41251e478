/- Of this proof. -/
import Derived.Test.YtbeaonmepfkmmaaGreatGpmd
set_option linter.unusedSimpArgs false
set_option linter.unusedVariables false
namespace Gi
open Go Go.RowKit
def kY (ops:List AOper):Bool:=ops.all fun o=>o.op.noZ
theorem MB (a b:List AOper):kY (a++b)=(kY a&&kY b):=by simp[kY]
theorem CO (a:AOper)(b:List AOper):kY (a::b)=(a.op.noZ&&kY b):=by simp[kY]
theorem yK :∀(p:List Nat)(c:Nat),kY (qh c p)=true
 |[],c=>rfl
 |d::ds,c=>by simp only[qh,CO,yK ds,AOp.noZ,Bool.and_self]
theorem RX (mt c:Nat)(t:PTy):kY (tZ mt c t)=true:=by
 cases t with
 |int κ=>cases κ<;>rfl
 |_=>rfl
theorem Qm (z mt c:Nat)(t:PTy)(x:MC):∀r∈LX z mt c t x,kY r=true:=by
 have nil:kY []=true:=rfl
 have hS:∀t,∀r∈Bf z mt c t x,kY r=true:=by
  intro t r hr
  simp only[Bf,List.mem_cons,List.not_mem_nil,or_false]at hr
  rcases hr with rfl|rfl
  ·simp only[Mz,List.cons_append,List.nil_append,CO,MB,RX,yK,AOp.noZ,nil,Bool.and_self]
  ·rfl
 have hT:∀r∈EI z c x,kY r=true:=by
  intro r hr
  simp only[EI,List.mem_cons,List.not_mem_nil,or_false]at hr
  subst hr
  simp only[Mz,List.cons_append,List.nil_append,CO,MB,yK,AOp.noZ,nil,Bool.and_self]
 cases t<;>first|exact hT|exact hS _
theorem MD (z mt:Nat):∀(ts:List PTy)(xs:List MC)(c:Nat),∀r∈OH z mt c ts xs,kY r=true
 |[],xs,c,r,hr=>by cases xs<;>cases hr
 |t::ts,[],c,r,hr=>by cases hr
 |t::ts,x::xs,c,r,hr=>by
  simp only[OH,List.mem_append]at hr
  rcases hr with hr|hr
  ·exact Qm z mt c t x r hr
  ·exact MD z mt ts xs _ r hr
theorem I4 :∀(rs:List (List AOper)),(∀r∈rs,kY r=true)→(Lf rs).noZ=true
 |[],_=>rfl
 |[a],h=>h a (by simp)
 |a::b::r,h=>by
  have h1:=h a (by simp)
  have h2:=I4 (b::r) (fun x m=>h x (by simp only[List.mem_cons]at m⊢;exact .inr m))
  simp only[Lf,ACode.noZ,h2,Bool.and_true]
  exact h1
theorem I3 (mt:Nat)(ts:List PTy)(xs:List MC):(fD mt ts xs).body.noZ=true:=by
 have:=I4 _ (MD ts.length mt ts xs 12)
 simp only[fD,zw,PX,Ge,ACode.noZ,this,Bool.and_true,Bool.true_and]
 rfl
section
variable {Φ:Nat→Option AFn}{ext:Nat→List V→Option V}{mT:Int→List UInt8}{mt:Nat}
theorem eF (hT:zP Φ ext mT mt){f:Nat}{ts:List PTy}{xs:List MC}(hk:Φ f=some (fD mt ts xs))(hn:Φ (f+mM)=none)(hm:EB Φ ext mT 0 ts xs):ou Φ ext mT f ts:=by
 have hN:=A2 (mt:=mt) ts xs 12
 obtain⟨m,hm'⟩:∃m,kg mt 12 ts xs+1-2=m+11:=⟨kg mt 12 ts xs-12,by omega⟩
 constructor
 ·intro k
  refine vD hn hk (I3 mt ts xs) ?_
  have e0:asList (lent []) (aQ [])=some []:=rfl
  have hrun:∃t',fB Φ ext (fD mt ts xs).body (hJ (fD mt ts xs) [aQ [],aa .i64 k])=some (.ret,⟨t',[]⟩)∧t'.getD 4 (.tup [])=aa .i64 k:=by
   have hst:hJ (fD mt ts xs) [aQ [],aa .i64 k]=⟨aQ []::aa .i64 k::List.replicate (m+11) (.tup []),[]⟩:=by
    simp only[hJ,du,thaw,thawL,fD,List.length_cons,List.length_nil,List.map_nil,List.cons_append,List.nil_append,hm']
   rw[hst]
   have hl:(aQ []::aa .i64 k::List.replicate (m+11) (V.tup [])).length=kg mt 12 ts xs+1:=by simp;omega
   generalize hlp:aC (au (ah Φ ext) aC (zw mt ts xs))=lp
   have hloop:∀u2 u3 u4 u6 u7 u8 u9(r:List V),lp ⟨aQ []::aa .i64 k::u2::u3::u4::aa .i64 0::u6::u7::u8::u9::r,[]⟩=some (.exit 0,⟨aQ []::aa .i64 k::u2::u3::u4::aa .i64 0::aa .i64 0::aQ []::aa .i64 0::aD false::r,[]⟩):=by
    intro u2 u3 u4 u6 u7 u8 u9 r
    rw[←hlp]
    refine it ?_ (by simp)
    simp[zw,PX,au,ai,aE,aO,a9,Opd.ev,put,e0,bin,ca,isBool]
   have hrep:List.replicate (m+11) (V.tup [])= .tup []:: .tup []:: .tup []:: .tup []:: .tup []:: .tup []:: .tup []:: .tup []::List.replicate (m+3) (.tup []):=rfl
   rw[hrep]at hl⊢
   let w:List V:=aQ []::aa .i64 k:: .tup []:: .tup []::aa .i64 0::aa .i64 0::aa .i64 0::aQ []::aa .i64 0::aD false::List.replicate (m+3) (.tup [])
   have hwl:w.length=kg mt 12 ts xs+1:=by simp only[w,List.length_cons,List.length_replicate]at hl⊢;omega
   have q1:w.getD 1 (.tup [])=aa .i64 k:=rfl
   have q2:(w.set (kg mt 12 ts xs) (aa .i64 k)).getD (kg mt 12 ts xs) (.tup [])=aa .i64 k:=aF (by omega)
   refine⟨(w.set (kg mt 12 ts xs) (aa .i64 k)).set 4 (aa .i64 k),?_,aF (by simp;omega)⟩
   have hend:au (ah Φ ext) aC (.seq (.region [⟨some (kg mt 12 ts xs), .mv (.tmp 1),none⟩,⟨some 4, .mv (.tmp (kg mt 12 ts xs)),none⟩]) .ret) ⟨w,[]⟩=some (.ret,⟨(w.set (kg mt 12 ts xs) (aa .i64 k)).set 4 (aa .i64 k),[]⟩):=by
    simp only[au,ai,aE,aO,a9,Opd.ev,q1,put,q2]
   generalize hec:ACode.seq (.region [⟨some (kg mt 12 ts xs), .mv (.tmp 1),none⟩,⟨some 4, .mv (.tmp (kg mt 12 ts xs)),none⟩]) .ret=ec at hend
   simp only[fB,fD,hec,au,ai,aE,aO,a9,Opd.ev,put,List.set_cons_succ,List.set_cons_zero,hlp,hloop,if_true]
   exact hend
  obtain⟨t',r1,r2⟩:=hrun
  rw[r1]
  simp only[sy,Ce,fD,aR,aw,cq,r2,List.flatMap_cons,List.flatMap_nil,List.append_nil,V.cells,bE,comp,aK,bv,du,thaw,thawL,List.length_nil,List.take_zero,gu,L.flat,if_true]
  rfl
 ·intro rows h k h0 hk2
  obtain⟨hl1,hr⟩:=aS h
  refine vD hn hk (I3 mt ts xs) ?_
  have hst:hJ (fD mt ts xs) [.one (.down ts.length rows),aa .i64 k]=⟨.one (.arr 0)::aa .i64 k::List.replicate (m+11) (.tup []),[.zarr ts.length rows]⟩:=by
   simp only[hJ,du,thaw,thawL,fD,List.length_cons,List.length_nil,List.map_cons,List.map_nil,List.cons_append,List.nil_append,AObj.zone,hm']
  let t0:List V:= .one (.arr 0)::aa .i64 k:: .tup []:: .tup []::aa .i64 0::aa .i64 0::List.replicate (m+7) (.tup [])
  have hl0:t0.length=kg mt 12 ts xs+1:=by simp[t0];omega
  obtain⟨t',a1,a2,a3⟩:=Ot hT hm rows [] k t0 ⟨rfl,rfl,rfl⟩ hr h0 hk2 (by simpa using hl1) (by omega)
  simp only[List.nil_append]at a1
  have q1:t'.getD 1 (.tup [])=aa .i64 (gi mT rows k).2:=getD_some a3
  have q2:(t'.set (kg mt 12 ts xs) (aa .i64 (gi mT rows k).2)).getD (kg mt 12 ts xs) (.tup [])=aa .i64 (gi mT rows k).2:=aF (by omega)
  have hend:au (ah Φ ext) aC (.seq (.region [⟨some (kg mt 12 ts xs), .mv (.tmp 1),none⟩,⟨some 4, .mv (.tmp (kg mt 12 ts xs)),none⟩]) .ret) ⟨t',[.zarr ts.length (gi mT rows k).1]⟩=some (.ret,⟨(t'.set (kg mt 12 ts xs) (aa .i64 (gi mT rows k).2)).set 4 (aa .i64 (gi mT rows k).2),[.zarr ts.length (gi mT rows k).1]⟩):=by
   simp only[au,ai,aE,aO,a9,Opd.ev,q1,put,q2]
  have q3:((t'.set (kg mt 12 ts xs) (aa .i64 (gi mT rows k).2)).set 4 (aa .i64 (gi mT rows k).2)).getD 4 (.tup [])=aa .i64 (gi mT rows k).2:=aF (by simp;omega)
  have hrun:fB Φ ext (fD mt ts xs).body (hJ (fD mt ts xs) [.one (.down ts.length rows),aa .i64 k])=some (.ret,⟨(t'.set (kg mt 12 ts xs) (aa .i64 (gi mT rows k).2)).set 4 (aa .i64 (gi mT rows k).2),[.zarr ts.length (gi mT rows k).1]⟩):=by
   rw[hst]
   generalize hec:ACode.seq (.region [⟨some (kg mt 12 ts xs), .mv (.tmp 1),none⟩,⟨some 4, .mv (.tmp (kg mt 12 ts xs)),none⟩]) .ret=ec at hend
   have hrep:List.replicate (m+11) (V.tup [])= .tup []:: .tup []:: .tup []:: .tup []::List.replicate (m+7) (.tup []):=rfl
   generalize hlp:aC (au (ah Φ ext) aC (zw mt ts xs))=lp at a1
   simp only[t0]at a1
   simp only[fB,fD,hec,hrep,au,ai,aE,aO,a9,Opd.ev,put,List.set_cons_succ,List.set_cons_zero,hlp,a1,if_true]
   exact hend
  rw[hrun]
  simp only[sy,Ce,fD,aR,aw,cq,q3,List.flatMap_cons,List.flatMap_nil,List.append_nil,V.cells,bE,comp,aK,bv,du,thaw,thawL,List.nil_append,List.length_cons,List.length_nil,Nat.zero_add,List.take_succ_cons,List.take_zero,gu,L.flat,if_true]
  rfl
end
section
variable (mT:Int→List UInt8)
def fb :List PV→Int→List PV×Int
 |[],k=>([],k)
 | .lst rows::ps,k=>(.lst (gi mT rows k).1::(fb ps (gi mT rows k).2).1,(fb ps (gi mT rows k).2).2)
 |p::ps,k=>(p::(fb ps k).1,(fb ps k).2)
end
theorem kA (mT:Int→List UInt8):∀(a b:List PV)(k:Int),fb mT (a++b) k=((fb mT a k).1++(fb mT b (fb mT a k).2).1,(fb mT b (fb mT a k).2).2)
 |[],b,k=>by simp only[List.nil_append,fb]
 | .lst rows::a,b,k=>by simp only[List.cons_append,fb,kA mT a b]
 | .int _ _::a,b,k=>by simp only[List.cons_append,fb,kA mT a b]
 | .bool _::a,b,k=>by simp only[List.cons_append,fb,kA mT a b]
 | .str _::a,b,k=>by simp only[List.cons_append,fb,kA mT a b]
theorem lP (mT:Int→List UInt8):∀(a:List PV)(k:Int),k≤(fb mT a k).2
 |[],k=>by simp only[fb];omega
 | .lst rows::a,k=>by
  simp only[fb]
  have:=yJ mT rows k
  have:=lP mT a (gi mT rows k).2
  omega
 | .int _ _::a,k=>by simp only[fb];exact lP mT a k
 | .bool _::a,k=>by simp only[fb];exact lP mT a k
 | .str _::a,k=>by simp only[fb];exact lP mT a k
def Hz :List PTy→List PV→List L
 | .lst us::ts, .lst rows::ps=> .down us.length rows::Hz ts ps
 |_::ts,p::ps=> .pv p::Hz ts ps
 |_,_=>[]
def gE :List PTy→List PV→List AObj
 | .lst us::ts, .lst rows::ps=> .zarr us.length rows::gE ts ps
 |_::ts,_::ps=>gE ts ps
 |_,_=>[]
def i7 :Nat→List PTy→List PV→List L
 |j, .lst us::ts, .lst rows::ps=> .arr j::i7 (j+1) ts ps
 |j,_::ts,p::ps=> .pv p::i7 j ts ps
 |_,_,_=>[]
def OA :List PTy→List PV→List (Bool×List L)
 | .lst us::ts, .lst rows::ps=>(false,[.down us.length rows])::OA ts ps
 |_::ts,_::ps=>OA ts ps
 |_,_=>[]
theorem fF {P:List PTy→List PV→Prop}(nil:P [] [])(lst:∀us rows ts ps,n5 (.lst us) (.lst rows)→bp ts ps→P ts ps→P (.lst us::ts) (.lst rows::ps))(flat:∀t p ts ps,n5 t p→t.flatT=true→p.flat=true→bp ts ps→P ts ps→P (t::ts) (p::ps)):∀(ts:List PTy)(ps:List PV),bp ts ps→P ts ps
 |[],ps,h=>by rw[eV h];exact nil
 | .lst us::ts,ps,h=>by
  obtain⟨p,r,rfl,h1,h2⟩:=dB h
  obtain⟨rows,rfl⟩:=mV h1
  exact lst us rows ts r h1 h2 (fF nil lst flat ts r h2)
 | .int κ::ts,ps,h=>by
  obtain⟨p,r,rfl,h1,h2⟩:=dB h
  obtain⟨n,rfl⟩:=lh h1
  exact flat _ _ ts r h1 rfl rfl h2 (fF nil lst flat ts r h2)
 | .bool::ts,ps,h=>by
  obtain⟨p,r,rfl,h1,h2⟩:=dB h
  obtain⟨n,rfl⟩:=j7 h1
  exact flat _ _ ts r h1 rfl rfl h2 (fF nil lst flat ts r h2)
 | .str::ts,ps,h=>by
  obtain⟨p,r,rfl,h1,h2⟩:=dB h
  obtain⟨n,rfl⟩:=jG h1
  exact flat _ _ ts r h1 rfl rfl h2 (fF nil lst flat ts r h2)
theorem Ia {t:PTy}{p:PV}{ts:List PTy}{ps:List PV}(ht:t.flatT=true):Hz (t::ts) (p::ps)= .pv p::Hz ts ps:=by cases t<;>first|rfl|cases ht
theorem gT {t:PTy}{p:PV}{ts:List PTy}{ps:List PV}(ht:t.flatT=true):gE (t::ts) (p::ps)=gE ts ps:=by cases t<;>first|rfl|cases ht
theorem lm {t:PTy}{p:PV}{ts:List PTy}{ps:List PV}{j:Nat}(ht:t.flatT=true):i7 j (t::ts) (p::ps)= .pv p::i7 j ts ps:=by cases t<;>first|rfl|cases ht
theorem I7 {t:PTy}{p:PV}{ts:List PTy}{ps:List PV}(ht:t.flatT=true):OA (t::ts) (p::ps)=OA ts ps:=by cases t<;>first|rfl|cases ht
theorem oP (mT:Int→List UInt8){p:PV}{ps:List PV}{k:Int}(hp:p.flat=true):fb mT (p::ps) k=(p::(fb mT ps k).1,(fb mT ps k).2):=by cases p<;>first|rfl|cases hp
theorem FJ {ts:List PTy}{ps:List PV}(h:bp ts ps):∀j,(i7 j ts ps).length=ts.length:=by
 refine fF (P:=fun ts ps=>∀j,(i7 j ts ps).length=ts.length) (fun j=>rfl) ?_ ?_ ts ps h
 ·intro us rows ts ps _ _ ih j
  simp only[i7,List.length_cons,ih]
 ·intro t p ts ps _ ht hp _ ih j
  rw[lm ht]
  simp only[List.length_cons,ih]
theorem Sb {ts:List PTy}{ps:List PV}(h:bp ts ps):∀hh:List AObj,∃ds,thawL hh (Hz ts ps)=(i7 hh.length ts ps,hh++ds)∧ds.map AObj.zone=gE ts ps:=by
 refine fF (P:=fun ts ps=>∀hh:List AObj,∃ds,thawL hh (Hz ts ps)=(i7 hh.length ts ps,hh++ds)∧ds.map AObj.zone=gE ts ps) ?_ ?_ ?_ ts ps h
 ·intro hh;exact⟨[],by simp[Hz,thawL,i7],rfl⟩
 ·intro us rows ts ps _ _ ih hh
  obtain⟨ds,e1,e2⟩:=ih (hh++[.darr us.length rows])
  refine⟨.darr us.length rows::ds,?_,by simp only[List.map_cons,e2,AObj.zone,gE]⟩
  simp only[Hz,thawL,e1,i7,List.length_append,List.length_singleton,List.append_assoc,List.cons_append,List.nil_append]
 ·intro t p ts ps _ ht hp _ ih hh
  obtain⟨ds,e1,e2⟩:=ih hh
  refine⟨ds,?_,by rw[e2,gT ht]⟩
  rw[Ia ht,lm ht]
  simp only[thawL,e1]
theorem Nm {p:PV}(h:p.flat=true):p.bare=true:=by cases p<;>first|rfl|cases h
theorem Mo {ts:List PTy}{ps:List PV}(h:bp ts ps):∀(pre post:List AObj),lL (pre++gE ts ps++post) (i7 pre.length ts ps)=some (Hz ts ps):=by
 refine fF (P:=fun ts ps=>∀(pre post:List AObj),lL (pre++gE ts ps++post) (i7 pre.length ts ps)=some (Hz ts ps)) (fun _ _=>rfl) ?_ ?_ ts ps h
 ·intro us rows ts ps _ _ ih pre post
  have:=ih (pre++[.zarr us.length rows]) post
  simp only[List.length_append,List.length_singleton,List.append_assoc,List.cons_append,List.nil_append]at this
  have hg:(pre++(AObj.zarr us.length rows::(gE ts ps++post)))[pre.length]? =some (.zarr us.length rows):=by
   rw[List.getElem?_append_right (Nat.le_refl _),Nat.sub_self];rfl
  simp only[gE,i7,Hz,List.append_assoc,List.cons_append,lL,zt,hg,this]
 ·intro t p ts ps _ ht hp _ ih pre post
  rw[Ia ht,lm ht,gT ht]
  have hb:PV.bare _=true:=Nm hp
  simp only[lL,zt,hb,if_true,ih pre post]
theorem Rf {ts:List PTy}{ps:List PV}(h:bp ts ps):∀(j:Nat),(al (i7 j ts ps)).Nodup∧∀o∈al (i7 j ts ps),j≤o:=by
 refine fF (P:=fun ts ps=>∀(j:Nat),(al (i7 j ts ps)).Nodup∧∀o∈al (i7 j ts ps),j≤o) (fun j=>⟨List.nodup_nil,fun o ho=>by cases ho⟩) ?_ ?_ ts ps h
 ·intro us rows ts ps _ _ ih j
  obtain⟨h1,h2⟩:=ih (j+1)
  have e:al (i7 j (.lst us::ts) (.lst rows::ps))=j::al (i7 (j+1) ts ps):=by simp[i7,al]
  rw[e]
  refine⟨List.nodup_cons.2 ⟨fun hm=>by have:=h2 _ hm;omega,h1⟩,fun o ho=> ?_⟩
  rcases List.mem_cons.1 ho with rfl|ho
  ·exact Nat.le_refl _
  ·have:=h2 o ho;omega
 ·intro t p ts ps _ ht hp _ ih j
  have e:al (i7 j (t::ts) (p::ps))=al (i7 j ts ps):=by rw[lm ht];simp[al]
  rw[e];exact ih j
theorem Td (mT:Int→List UInt8){ts:List PTy}{ps:List PV}(h:bp ts ps):∀(pre post:List AObj)(k:Int),kB (pre++gE ts ps++post) (al (i7 pre.length ts ps)) (OA ts (fb mT ps k).1)=some (pre++gE ts (fb mT ps k).1++post):=by
 refine fF (P:=fun ts ps=>∀(pre post:List AObj)(k:Int),kB (pre++gE ts ps++post) (al (i7 pre.length ts ps)) (OA ts (fb mT ps k).1)=some (pre++gE ts (fb mT ps k).1++post)) (fun _ _ _=>rfl) ?_ ?_ ts ps h
 ·intro us rows ts ps _ _ ih pre post k
  have:=ih (pre++[.zarr us.length (gi mT rows k).1]) post (gi mT rows k).2
  simp only[List.length_append,List.length_singleton,List.append_assoc,List.cons_append,List.nil_append]at this
  have e:al (i7 pre.length (.lst us::ts) (.lst rows::ps))=pre.length::al (i7 (pre.length+1) ts ps):=by simp[i7,al]
  rw[e]
  simp only[fb,gE,OA,kB,List.append_assoc,List.cons_append]
  rw[List.set_append_right _ _ (Nat.le_refl _),Nat.sub_self,List.set_cons_zero,this]
 ·intro t p ts ps _ ht hp _ ih pre post k
  have e:al (i7 pre.length (t::ts) (p::ps))=al (i7 pre.length ts ps):=by rw[lm ht];simp[al]
  rw[e,oP mT hp,gT ht,gT ht,I7 ht]
  exact ih pre post k
theorem R3 (mT:Int→List UInt8){ts:List PTy}{ps:List PV}(h:bp ts ps):∀k,gu (gE ts (fb mT ps k).1)=some (OA ts (fb mT ps k).1):=by
 refine fF (P:=fun ts ps=>∀k,gu (gE ts (fb mT ps k).1)=some (OA ts (fb mT ps k).1)) (fun _=>rfl) ?_ ?_ ts ps h
 ·intro us rows ts ps _ _ ih k
  simp only[fb,gE,gu,ih,OA]
 ·intro t p ts ps _ ht hp _ ih k
  rw[oP mT hp,gT ht,I7 ht,ih]
theorem Dy (mT:Int→List UInt8){ts:List PTy}{ps:List PV}(h:bp ts ps):∀k,(gE ts (fb mT ps k).1).length=(gE ts ps).length:=by
 refine fF (P:=fun ts ps=>∀k,(gE ts (fb mT ps k).1).length=(gE ts ps).length) (fun _=>rfl) ?_ ?_ ts ps h
 ·intro us rows ts ps _ _ ih k
  simp only[fb,gE,List.length_cons,ih]
 ·intro t p ts ps _ ht hp _ ih k
  rw[oP mT hp,gT ht,gT ht,ih]
theorem Hy {ts us:List PTy}{a b:List PV}(h:bp ts a):gE (ts++us) (a++b)=gE ts a++gE us b:=by
 refine fF (P:=fun ts a=>gE (ts++us) (a++b)=gE ts a++gE us b) rfl ?_ ?_ ts a h
 ·intro us rows ts ps _ _ ih
  simp only[List.cons_append,gE,ih]
 ·intro t p ts ps _ ht hp _ ih
  simp only[List.cons_append]
  rw[gT ht,gT ht,ih]
theorem Fp (mT:Int→List UInt8){ts us:List PTy}{a b:List PV}(h:bp ts a):∀k,gE (ts++us) ((fb mT a k).1++b)=gE ts (fb mT a k).1++gE us b:=by
 refine fF (P:=fun ts a=>∀k,gE (ts++us) ((fb mT a k).1++b)=gE ts (fb mT a k).1++gE us b) (fun _=>rfl) ?_ ?_ ts a h
 ·intro us rows ts ps _ _ ih k
  simp only[fb,List.cons_append,gE,ih]
 ·intro t p ts ps _ ht hp _ ih k
  rw[oP mT hp]
  simp only[List.cons_append]
  rw[gT ht,gT ht,ih]
theorem Kk {ts us:List PTy}{a b:List PV}(h:bp ts a):∀j,i7 j (ts++us) (a++b)=i7 j ts a++i7 (j+(gE ts a).length) us b:=by
 refine fF (P:=fun ts a=>∀j,i7 j (ts++us) (a++b)=i7 j ts a++i7 (j+(gE ts a).length) us b) (fun j=>rfl) ?_ ?_ ts a h
 ·intro us rows ts ps _ _ ih j
  simp only[List.cons_append,i7,gE,List.length_cons,ih]
  rw[show j+1+(gE ts ps).length=j+((gE ts ps).length+1) by omega]
 ·intro t p ts ps _ ht hp _ ih j
  simp only[List.cons_append]
  rw[lm ht,lm ht,gT ht,ih]
  rfl
theorem Pv {ts:List PTy}{ps:List PV}(h:bp ts ps):∀j,(i7 j ts ps).all plain=true:=by
 refine fF (P:=fun ts ps=>∀j,(i7 j ts ps).all plain=true) (fun j=>rfl) ?_ ?_ ts ps h
 ·intro us rows ts ps _ _ ih j
  simp only[i7,List.all_cons,ih,Bool.and_true];rfl
 ·intro t p ts ps _ ht hp _ ih j
  rw[lm ht]
  simp only[List.all_cons,ih,Bool.and_true];rfl
inductive MS where
 |k (ts:List PTy)
 |s (ts:List PTy) (f:Nat)
 |l (us:List PTy) (f:Nat)
def MS.ts :MS→List PTy
 | .k ts=>ts
 | .s ts _=>ts
 | .l us _=>[.lst us]
def gy :List MS→List PTy
 |[]=>[]
 |s::ss=>s.ts++gy ss
def Tu (c off:Nat)(g:Bool)(n f:Nat):List AOper:=[⟨some c, .fieldA (.tmp 2) off,none⟩,⟨some (c+1), .loadZ g n (.tmp c),none⟩,⟨some (c+2), .mv (.tmp 1),none⟩,⟨some (c+3), .callM f (.tmp (c+1)) (.tmp (c+2)),none⟩,⟨some 1, .mv (.tmp (c+3)),none⟩]
def Ou :Nat→Nat→List MS→ACode
 |c,_,[]=> .seq (.region [⟨some c, .mv (.tmp 1),none⟩,⟨some 4, .mv (.tmp c),none⟩]) .ret
 |c,off, .k ts::ss=>Ou c (off+ts.length) ss
 |c,off, .s ts f::ss=> .seq (.region (Tu c off true ts.length f)) (Ou (c+4) (off+ts.length) ss)
 |c,off, .l _ f::ss=> .seq (.region (Tu c off false 1 f)) (Ou (c+4) (off+1) ss)
def Ov :Nat→List MS→Nat
 |c,[]=>c
 |c, .k _::ss=>Ov c ss
 |c,_::ss=>Ov (c+4) ss
def nO (ss:List MS):AFn:=⟨Ov 5 ss+1,[.tmp 4], .seq (.region [⟨some 2, .box (.tmp 0),none⟩,⟨some 4, .mv (.pv (.int .i64 0)),none⟩]) (Ou 5 0 ss)⟩
theorem AX :∀(ss:List MS)(c off:Nat),(Ou c off ss).noZ=true
 |[],c,off=>rfl
 | .k ts::ss,c,off=>AX ss c _
 | .s ts f::ss,c,off=>by simp only[Ou,ACode.noZ,AX ss,Bool.and_true];rfl
 | .l us f::ss,c,off=>by simp only[Ou,ACode.noZ,AX ss,Bool.and_true];rfl
theorem yI :∀(ss:List MS)(c:Nat),c≤Ov c ss
 |[],c=>Nat.le_refl _
 | .k ts::ss,c=>yI ss c
 | .s ts f::ss,c=>Nat.le_trans (by omega) (yI ss (c+4))
 | .l us f::ss,c=>Nat.le_trans (by omega) (yI ss (c+4))
section
variable {Φ:Nat→Option AFn}{ext:Nat→List V→Option V}{mT:Int→List UInt8}{mt:Nat}
def Ka (Φ:Nat→Option AFn)(ext:Nat→List V→Option V)(mT:Int→List UInt8)(f:Nat)(ts:List PTy):Prop:=
 ∀row:List PV,bp ts row→∀k:Int,0≤k→(fb mT row k).2≤yH→ah Φ ext (f+mM) [.agg (Hz ts row),aa .i64 k]=some (.tup ((false,[.pv (.int .i64 (fb mT row k).2)])::OA ts (fb mT row k).1))
def HE (Φ:Nat→Option AFn)(ext:Nat→List V→Option V)(mT:Int→List UInt8):List MS→Prop
 |[]=>True
 | .k ts::ss=>ts.all PTy.flatT=true∧HE Φ ext mT ss
 | .s ts f::ss=>Ka Φ ext mT f ts∧HE Φ ext mT ss
 | .l us f::ss=>ou Φ ext mT f us∧HE Φ ext mT ss
theorem IV {g:Bool}{n f c m:Nat}{C1 C2:List L}{Z1 Z2:List AObj}{ts:List PTy}{x:List PV}{v a:V}{k:Int}{t:List V}(hx:bp ts x)(h1:t[1]? =some (aa .i64 k))(h2:t[2]? =some (.one (.ptr m 0 0)))(hc:5≤c)(hl:c+3<t.length)
 (hb:(Z1++gE ts x++Z2)[m]? =some (.box (C1++C2))) (hcut:fO g n C1.length (C1++C2)=some v) (hv:v.cells=i7 Z1.length ts x) (hsub:∀o c,v≠ .one (.sub o c)) (hlend:uk (Z1++gE ts x++Z2) v=some a) (hcall:ah Φ ext (f+mM) [a,aa .i64 k]=some (.tup ((false,[.pv (.int .i64 (fb mT x k).2)])::OA ts (fb mT x k).1))):
 ∃t',ai (ah Φ ext) (Tu c C1.length g n f) ⟨t,Z1++gE ts x++Z2⟩=some ⟨t',Z1++gE ts (fb mT x k).1++Z2⟩∧t'.length=t.length∧t'[1]? =some (aa .i64 (fb mT x k).2)∧t'[2]? =some (.one (.ptr m 0 0)):=by
 have e1:=getD_some h1
 have e2:=getD_some h2
 have q1:(t.set c (V.one (.ptr m 0 C1.length))).getD c (.tup [])= .one (.ptr m 0 C1.length):=aF (by omega)
 have q2:((t.set c (V.one (.ptr m 0 C1.length))).set (c+1) v).getD 1 (.tup [])=aa .i64 k:=(dj (by omega)).trans ((dj (by omega)).trans e1)
 have q3:(((t.set c (V.one (.ptr m 0 C1.length))).set (c+1) v).set (c+2) (aa .i64 k)).getD (c+1) (.tup [])=v:=(dj (by omega)).trans (aF (by simp;omega))
 have q4:(((t.set c (V.one (.ptr m 0 C1.length))).set (c+1) v).set (c+2) (aa .i64 k)).getD (c+2) (.tup [])=aa .i64 k:=aF (by simp;omega)
 have q5:((((t.set c (V.one (.ptr m 0 C1.length))).set (c+1) v).set (c+2) (aa .i64 k)).set (c+3) (aa .i64 (fb mT x k).2)).getD (c+3) (.tup [])=aa .i64 (fb mT x k).2:=aF (by simp;omega)
 have hnd:(al v.cells).Nodup:=by rw[hv];exact(Rf hx _).1
 have hput:=Td mT hx Z1 Z2 k
 rw[←hv]at hput
 have hM:kG (ah Φ ext) (Z1++gE ts x++Z2) f v k=some (aa .i64 (fb mT x k).2,Z1++gE ts (fb mT x k).1++Z2):=by
  unfold kG
  split
  ·rename_i o cc;exact absurd rfl (hsub o cc)
  ·simp only[hnd,if_true,hlend,hcall,L.flat,hput]
 refine⟨((((t.set c (V.one (.ptr m 0 C1.length))).set (c+1) v).set (c+2) (aa .i64 k)).set (c+3) (aa .i64 (fb mT x k).2)).set 1 (aa .i64 (fb mT x k).2),?_,by simp,List.getElem?_set_self (by simp;omega),by rw[List.getElem?_set_ne (by omega),List.getElem?_set_ne (by omega),List.getElem?_set_ne (by omega),List.getElem?_set_ne (by omega),List.getElem?_set_ne (by omega)];exact h2⟩
 simp only[Tu,ai,aE,aO,a9,b6,Opd.ev,e2,put,Nat.zero_add,q1,rt,hb,bf,if_true,hcut,q2,q3,q4,hM,q5]
theorem AW :∀(ss:List MS),HE Φ ext mT ss→∀{c:Nat}{C1:List L}{Z1:List AObj}{b:List PV}{k:Int}{t:List V},bp (gy ss) b→0≤k→(fb mT b k).2≤yH→t[1]? =some (aa .i64 k)→t[2]? =some (.one (.ptr (Z1.length+(gE (gy ss) b).length) 0 0))→5≤c→Ov c ss<t.length→
 ∃t',au (ah Φ ext) aC (Ou c C1.length ss) ⟨t,Z1++gE (gy ss) b++[.box (C1++i7 Z1.length (gy ss) b)]⟩=some (.ret,⟨t',Z1++gE (gy ss) (fb mT b k).1++[.box (C1++i7 Z1.length (gy ss) b)]⟩)∧t'.getD 4 (.tup [])=aa .i64 (fb mT b k).2
 |[],_,c,C1,Z1,b,k,t,hb,h0,hk,h1,h2,hc,hl=>by
  obtain rfl:=eV hb
  simp only[Ov]at hl
  have q2:(t.set c (aa .i64 k)).getD c (.tup [])=aa .i64 k:=aF hl
  refine⟨(t.set c (aa .i64 k)).set 4 (aa .i64 k),?_,by simp only[fb];exact aF (by simp;omega)⟩
  simp only[Ou,au,ai,aE,aO,a9,Opd.ev,getD_some h1,put,q2,fb]
 | .k ts::ss,hss,c,C1,Z1,b,k,t,hb,h0,hk,h1,h2,hc,hl=>by
  simp only[gy,MS.ts]at hb h2⊢
  obtain⟨x,y,rfl,hx,hy⟩:=j6 (ts:=ts) hb
  have flat:∀{ts:List PTy}{x:List PV},bp ts x→ts.all PTy.flatT=true→gE ts x=[]∧∀k,fb mT x k=(x,k):=by
   intro ts x h
   refine fF (P:=fun ts x=>ts.all PTy.flatT=true→gE ts x=[]∧∀k,fb mT x k=(x,k)) (fun _=>⟨rfl,fun _=>rfl⟩) ?_ ?_ ts x h
   ·intro us rows ts ps _ _ _ ha
    simp[PTy.flatT]at ha
   ·intro t p ts ps _ ht hp _ ih ha
    simp only[List.all_cons,Bool.and_eq_true]at ha
    obtain⟨i1,i2⟩:=ih ha.2
    exact⟨by rw[gT ht,i1],fun k=>by rw[oP mT hp,i2]⟩
  obtain⟨z0,m0⟩:=flat hx hss.1
  have hm:fb mT (x++y) k=(x++(fb mT y k).1,(fb mT y k).2):=by rw[kA,m0]
  have hlen:(C1++i7 Z1.length ts x).length=C1.length+ts.length:=by rw[List.length_append,FJ hx]
  rw[Hy hx,z0,List.nil_append]at h2⊢
  rw[Kk hx,z0,hm]
  simp only[hm]at hk
  have hz2:∀y',gE (ts++gy ss) (x++y')=gE (gy ss) y':=fun y'=>by rw[Hy hx,z0,List.nil_append]
  simp only[hz2,List.length_nil,Nat.add_zero]
  obtain⟨t',r1,r2⟩:=AW ss hss.2 (c:=c) (C1:=C1++i7 Z1.length ts x) (Z1:=Z1) hy h0 hk h1 h2 hc hl
  rw[hlen]at r1
  simp only[List.append_assoc]at r1⊢
  exact⟨t',r1,r2⟩
 | .s ts f::ss,hss,c,C1,Z1,b,k,t,hb,h0,hk,h1,h2,hc,hl=>by
  simp only[gy,MS.ts]at hb h2⊢
  obtain⟨x,y,rfl,hx,hy⟩:=j6 (ts:=ts) hb
  have hN:=yI ss (c+4)
  simp only[Ov]at hl
  simp only[kA]at hk
  have hle:=lP mT y (fb mT x k).2
  have hlx:=lP mT x k
  have hcl:=FJ hx Z1.length
  rw[Hy hx]at h2⊢
  rw[Kk hx]
  simp only[kA,Fp mT hx]
  generalize hC2:i7 (Z1.length+(gE ts x).length) (gy ss) y=C2
  generalize hB:[AObj.box (C1++(i7 Z1.length ts x++C2))]=B
  have hcut:fO true ts.length C1.length (C1++(i7 Z1.length ts x++C2))=some (.agg (i7 Z1.length ts x)):=by
   unfold fO
   rw[if_pos (by simp[hcl]),if_pos rfl,List.drop_left,←hcl,List.take_left]
  obtain⟨t1,a1,a2,a3,a4⟩:=IV (Φ:=Φ) (ext:=ext) (mT:=mT) (g:=true) (n:=ts.length) (f:=f) (c:=c) (m:=Z1.length+(gE ts x++gE (gy ss) y).length) (C1:=C1) (C2:=i7 Z1.length ts x++C2) (Z1:=Z1) (Z2:=gE (gy ss) y++B) (v:= .agg (i7 Z1.length ts x)) (a:= .agg (Hz ts x)) hx h1 h2 hc (by omega) (by
   rw[←hB]
   have:Z1++gE ts x++(gE (gy ss) y++[AObj.box (C1++(i7 Z1.length ts x++C2))])=(Z1++(gE ts x++gE (gy ss) y))++[AObj.box (C1++(i7 Z1.length ts x++C2))]:=by simp
   rw[this,List.getElem?_append_right (by simp)]
   simp) hcut rfl (fun _ _ h=>by cases h) (by
   have:=Mo hx Z1 (gE (gy ss) y++B)
   simp only[uk,this]) (hss.1 x hx k h0 (by omega))
  obtain⟨t2,b1,b2⟩:=AW ss hss.2 (c:=c+4) (C1:=C1++i7 Z1.length ts x) (Z1:=Z1++gE ts (fb mT x k).1) (b:=y) (k:=(fb mT x k).2) (t:=t1) hy (by omega) hk a3 (by rw[a4];simp only[List.length_append,Dy mT hx];congr 3;omega) (by omega) (by omega)
  refine⟨t2,?_,b2⟩
  have hlen:(C1++i7 Z1.length ts x).length=C1.length+ts.length:=by rw[List.length_append,hcl]
  have hpos:(Z1++gE ts (fb mT x k).1).length=Z1.length+(gE ts x).length:=by rw[List.length_append,Dy mT hx]
  rw[hlen,hpos,hC2]at b1
  simp only[Ou,au,List.append_assoc]at a1 b1⊢
  rw[hB]at b1
  rw[a1]
  exact b1
 | .l us f::ss,hss,c,C1,Z1,b,k,t,hb,h0,hk,h1,h2,hc,hl=>by
  simp only[gy,MS.ts]at hb h2⊢
  obtain⟨x,y,rfl,hx,hy⟩:=j6 (ts:=[.lst us]) hb
  have hN:=yI ss (c+4)
  simp only[Ov]at hl
  simp only[kA]at hk
  have hle:=lP mT y (fb mT x k).2
  have hlx:=lP mT x k
  have hcl:=FJ hx Z1.length
  have hx':=hx
  obtain⟨p,x',rfl,hp,hn⟩:=dB hx'
  obtain rfl:=eV hn
  obtain⟨rows,rfl⟩:=mV hp
  rw[Hy hx]at h2⊢
  rw[Kk hx]
  simp only[kA,Fp mT hx]
  generalize hC2:i7 (Z1.length+(gE [.lst us] [.lst rows]).length) (gy ss) y=C2
  generalize hB:[AObj.box (C1++(i7 Z1.length [.lst us] [.lst rows]++C2))]=B
  have hcut:fO false 1 C1.length (C1++(i7 Z1.length [.lst us] [.lst rows]++C2))=some (.one (.arr Z1.length)):=by
   simp[fO,i7]
  obtain⟨t1,a1,a2,a3,a4⟩:=IV (Φ:=Φ) (ext:=ext) (mT:=mT) (g:=false) (n:=1) (f:=f) (c:=c) (m:=Z1.length+(gE [.lst us] [.lst rows]++gE (gy ss) y).length) (C1:=C1) (C2:=i7 Z1.length [.lst us] [.lst rows]++C2) (Z1:=Z1) (Z2:=gE (gy ss) y++B) (v:= .one (.arr Z1.length)) (a:= .one (.down us.length rows)) hx h1 h2 hc (by omega) (by
   rw[←hB]
   have:Z1++gE [.lst us] [.lst rows]++(gE (gy ss) y++[AObj.box (C1++(i7 Z1.length [.lst us] [.lst rows]++C2))])=(Z1++(gE [.lst us] [.lst rows]++gE (gy ss) y))++[AObj.box (C1++(i7 Z1.length [.lst us] [.lst rows]++C2))]:=by simp
   rw[this,List.getElem?_append_right (by simp)]
   simp) hcut rfl (fun _ _ h=>by cases h) (by
   have:=Mo hx Z1 (gE (gy ss) y++B)
   simp only[i7,Hz,lL]at this
   split at this
   ·rename_i a b h1 h2
    cases this
    cases h2
    simp only[uk,h1]
   ·cases this) (by
   simp only[fb]at hle hlx hk⊢
   exact hss.1.2 rows hp k h0 (by omega))
  obtain⟨t2,b1,b2⟩:=AW ss hss.2 (c:=c+4) (C1:=C1++i7 Z1.length [.lst us] [.lst rows]) (Z1:=Z1++gE [.lst us] (fb mT [.lst rows] k).1) (b:=y) (k:=(fb mT [.lst rows] k).2) (t:=t1) hy (by omega) hk a3 (by rw[a4];simp only[List.length_append,Dy mT hx];congr 3;omega) (by omega) (by omega)
  refine⟨t2,?_,b2⟩
  have hlen:(C1++i7 Z1.length [.lst us] [.lst rows]).length=C1.length+1:=by rw[List.length_append,hcl];rfl
  have hpos:(Z1++gE [.lst us] (fb mT [.lst rows] k).1).length=Z1.length+(gE [.lst us] [.lst rows]).length:=by rw[List.length_append,Dy mT hx]
  rw[hlen,hpos,hC2]at b1
  simp only[Ou,au,List.append_assoc]at a1 b1⊢
  rw[hB]at b1
  rw[a1]
  exact b1
theorem sM {f:Nat}{ss:List MS}(hk:Φ f=some (nO ss))(hn:Φ (f+mM)=none)(hss:HE Φ ext mT ss):Ka Φ ext mT f (gy ss):=by
 intro row hr k h0 hk2
 have hN:=yI ss 5
 obtain⟨m,hm⟩:∃m,Ov 5 ss+1-2=m+4:=⟨Ov 5 ss-5,by omega⟩
 have hz:(nO ss).body.noZ=true:=by
  simp only[nO,ACode.noZ,AX,Bool.and_true]
  rfl
 refine vD hn hk hz ?_
 obtain⟨ds,d1,d2⟩:=Sb hr []
 simp only[List.length_nil,List.nil_append]at d1
 have hA:du [] [.agg (Hz (gy ss) row),aa .i64 k]=([.agg (i7 0 (gy ss) row),aa .i64 k],ds):=by
  simp only[du,thaw,d1,thawL]
 have hst:hJ (nO ss) [.agg (Hz (gy ss) row),aa .i64 k]=⟨.agg (i7 0 (gy ss) row)::aa .i64 k::List.replicate (m+4) (.tup []),gE (gy ss) row⟩:=by
  simp only[hJ,hA,d2,nO,List.length_cons,List.length_nil,List.cons_append,List.nil_append,hm]
 have hlen:ds.length=(gE (gy ss) row).length:=by rw[←d2];simp
 let t0:List V:= .agg (i7 0 (gy ss) row)::aa .i64 k:: .one (.ptr (gE (gy ss) row).length 0 0):: .tup []::aa .i64 0::List.replicate (m+1) (.tup [])
 have hl0:t0.length=Ov 5 ss+1:=by simp[t0];omega
 obtain⟨t',a1,a2⟩:=AW (Φ:=Φ) (ext:=ext) ss hss (c:=5) (C1:=[]) (Z1:=[]) (b:=row) (k:=k) (t:=t0) hr h0 hk2 rfl (by simp[t0]) (Nat.le_refl _) (by omega)
 simp only[List.length_nil,List.nil_append]at a1
 have hrun:fB Φ ext (nO ss).body (hJ (nO ss) [.agg (Hz (gy ss) row),aa .i64 k])=some (.ret,⟨t',gE (gy ss) (fb mT row k).1++[.box (i7 0 (gy ss) row)]⟩):=by
  rw[hst]
  have hrep:List.replicate (m+4) (V.tup [])= .tup []:: .tup []:: .tup []::List.replicate (m+1) (.tup []):=rfl
  simp only[t0]at a1
  simp only[fB,nO,hrep,au,ai,aE,aO,a9,b6,Opd.ev,put,List.getD_cons_zero,V.cells,Pv hr,if_true,List.set_cons_succ,List.set_cons_zero]
  exact a1
 have htake:(gE (gy ss) (fb mT row k).1++[AObj.box (i7 0 (gy ss) row)]).take ds.length=gE (gy ss) (fb mT row k).1:=by
  rw[hlen,←Dy mT hr k,List.take_left]
 rw[hrun]
 simp only[sy,Ce,nO,aR,aw,cq,a2,List.flatMap_cons,List.flatMap_nil,List.append_nil,V.cells,bE,comp,aK,bv,hA,htake,R3 mT hr,L.flat,if_true]
 rfl
end
end Gi
