/- Of this proof. -/
import Derived.Test.YtgmnakghjemjlabGreatGpm
set_option linter.unusedSimpArgs false
set_option linter.unusedVariables false
namespace Gi
open Go Go.RowKit
def kX (ops:List AOper):Bool:=ops.all fun o=>o.op.noZ
theorem Lo (a b:List AOper):kX (a++b)=(kX a&&kX b):=by simp[kX]
theorem Dj (a:AOper)(b:List AOper):kX (a::b)=(a.op.noZ&&kX b):=by simp[kX]
theorem zh :∀(p:List Nat)(c:Nat),kX (p9 c p)=true
 |[],c=>rfl
 |d::ds,c=>by simp only[p9,Dj,zh ds,AOp.noZ,Bool.and_self]
theorem Pw (mt c:Nat)(t:PTy):kX (tU mt c t)=true:=by
 cases t with
 |int κ=>cases κ<;>rfl
 |_=>rfl
theorem Ow (z mt c:Nat)(t:PTy)(x:MC):∀r∈KS z mt c t x,kX r=true:=by
 have nil:kX []=true:=rfl
 have hS:∀t,∀r∈BN z mt c t x,kX r=true:=by
  intro t r hr
  simp only[BN,List.mem_cons,List.not_mem_nil,or_false]at hr
  rcases hr with rfl|rfl
  ·simp only[Lm,List.cons_append,List.nil_append,Dj,Lo,Pw,zh,AOp.noZ,nil,Bool.and_self]
  ·rfl
 have hT:∀r∈Fg z c x,kX r=true:=by
  intro r hr
  simp only[Fg,List.mem_cons,List.not_mem_nil,or_false]at hr
  subst hr
  simp only[Lm,List.cons_append,List.nil_append,Dj,Lo,zh,AOp.noZ,nil,Bool.and_self]
 cases t<;>first|exact hT|exact hS _
theorem Lp (z mt:Nat):∀(ts:List PTy)(xs:List MC)(c:Nat),∀r∈MY z mt c ts xs,kX r=true
 |[],xs,c,r,hr=>by cases xs<;>cases hr
 |t::ts,[],c,r,hr=>by cases hr
 |t::ts,x::xs,c,r,hr=>by
  simp only[MY,List.mem_append]at hr
  rcases hr with hr|hr
  ·exact Ow z mt c t x r hr
  ·exact Lp z mt ts xs _ r hr
theorem Ix :∀(rs:List (List AOper)),(∀r∈rs,kX r=true)→(Ki rs).noZ=true
 |[],_=>rfl
 |[a],h=>h a (by simp)
 |a::b::r,h=>by
  have h1:=h a (by simp)
  have h2:=Ix (b::r) (fun x m=>h x (by simp only[List.mem_cons]at m⊢;exact .inr m))
  simp only[Ki,ACode.noZ,h2,Bool.and_true]
  exact h1
theorem Iw (mt:Nat)(ts:List PTy)(xs:List MC):(fG mt ts xs).body.noZ=true:=by
 have:=Ix _ (Lp ts.length mt ts xs 12)
 simp only[fG,zW,N8,Gw,ACode.noZ,this,Bool.and_true,Bool.true_and]
 rfl
section
variable {Φ:Nat→Option AFn}{ext:Nat→List V→Option V}{mT:Int→List UInt8}{mt:Nat}
theorem eO (hT:Ap Φ ext mT mt){f:Nat}{ts:List PTy}{xs:List MC}(hk:Φ f=some (fG mt ts xs))(hn:Φ (f+jJ)=none)(hm:Fa Φ ext mT 0 ts xs):n6 Φ ext mT f ts:=by
 have hN:=BB (mt:=mt) ts xs 12
 obtain⟨m,hm'⟩:∃m,j5 mt 12 ts xs+1-2=m+11:=⟨j5 mt 12 ts xs-12,by omega⟩
 constructor
 ·intro k
  refine rZ hn hk (Iw mt ts xs) ?_
  have e0:asList (lent []) (bm [])=some []:=rfl
  have hrun:∃t',fm Φ ext (fG mt ts xs).body (ij (fG mt ts xs) [bm [],aa .i64 k])=some (.ret,⟨t',[]⟩)∧t'.getD 4 (.tup [])=aa .i64 k:=by
   have hst:ij (fG mt ts xs) [bm [],aa .i64 k]=⟨bm []::aa .i64 k::List.replicate (m+11) (.tup []),[]⟩:=by
    simp only[ij,dq,thaw,thawL,fG,List.length_cons,List.length_nil,List.map_nil,List.cons_append,List.nil_append,hm']
   rw[hst]
   have hl:(bm []::aa .i64 k::List.replicate (m+11) (V.tup [])).length=j5 mt 12 ts xs+1:=by simp;omega
   generalize hlp:av (aj (ag Φ ext) av (zW mt ts xs))=lp
   have hloop:∀u2 u3 u4 u6 u7 u8 u9(r:List V),lp ⟨bm []::aa .i64 k::u2::u3::u4::aa .i64 0::u6::u7::u8::u9::r,[]⟩=some (.exit 0,⟨bm []::aa .i64 k::u2::u3::u4::aa .i64 0::aa .i64 0::bm []::aa .i64 0::au false::r,[]⟩):=by
    intro u2 u3 u4 u6 u7 u8 u9 r
    rw[←hlp]
    refine gA ?_ (by simp)
    simp[zW,N8,aj,ah,aw,aH,bg,Opd.ev,put,e0,bin,bN,isBool]
   have hrep:List.replicate (m+11) (V.tup [])= .tup []:: .tup []:: .tup []:: .tup []:: .tup []:: .tup []:: .tup []:: .tup []::List.replicate (m+3) (.tup []):=rfl
   rw[hrep]at hl⊢
   let w:List V:=bm []::aa .i64 k:: .tup []:: .tup []::aa .i64 0::aa .i64 0::aa .i64 0::bm []::aa .i64 0::au false::List.replicate (m+3) (.tup [])
   have hwl:w.length=j5 mt 12 ts xs+1:=by simp only[w,List.length_cons,List.length_replicate]at hl⊢;omega
   have q1:w.getD 1 (.tup [])=aa .i64 k:=rfl
   have q2:(w.set (j5 mt 12 ts xs) (aa .i64 k)).getD (j5 mt 12 ts xs) (.tup [])=aa .i64 k:=aA (by omega)
   refine⟨(w.set (j5 mt 12 ts xs) (aa .i64 k)).set 4 (aa .i64 k),?_,aA (by simp;omega)⟩
   have hend:aj (ag Φ ext) av (.seq (.region [⟨some (j5 mt 12 ts xs), .mv (.tmp 1),none⟩,⟨some 4, .mv (.tmp (j5 mt 12 ts xs)),none⟩]) .ret) ⟨w,[]⟩=some (.ret,⟨(w.set (j5 mt 12 ts xs) (aa .i64 k)).set 4 (aa .i64 k),[]⟩):=by
    simp only[aj,ah,aw,aH,bg,Opd.ev,q1,put,q2]
   generalize hec:ACode.seq (.region [⟨some (j5 mt 12 ts xs), .mv (.tmp 1),none⟩,⟨some 4, .mv (.tmp (j5 mt 12 ts xs)),none⟩]) .ret=ec at hend
   simp only[fm,fG,hec,aj,ah,aw,aH,bg,Opd.ev,put,List.set_cons_succ,List.set_cons_zero,hlp,hloop,if_true]
   exact hend
  obtain⟨t',r1,r2⟩:=hrun
  rw[r1]
  simp only[tX,EJ,fG,aU,ar,bz,r2,List.flatMap_cons,List.flatMap_nil,List.append_nil,V.cells,bP,comp,aK,bu,dq,thaw,thawL,List.length_nil,List.take_zero,gv,L.flat,if_true]
  rfl
 ·intro rows h k h0 hk2
  obtain⟨hl1,hr⟩:=aL h
  refine rZ hn hk (Iw mt ts xs) ?_
  have hst:ij (fG mt ts xs) [.one (.down ts.length rows),aa .i64 k]=⟨.one (.arr 0)::aa .i64 k::List.replicate (m+11) (.tup []),[.zarr ts.length rows]⟩:=by
   simp only[ij,dq,thaw,thawL,fG,List.length_cons,List.length_nil,List.map_cons,List.map_nil,List.cons_append,List.nil_append,AObj.zone,hm']
  let t0:List V:= .one (.arr 0)::aa .i64 k:: .tup []:: .tup []::aa .i64 0::aa .i64 0::List.replicate (m+7) (.tup [])
  have hl0:t0.length=j5 mt 12 ts xs+1:=by simp[t0];omega
  obtain⟨t',a1,a2,a3⟩:=MQ hT hm rows [] k t0 ⟨rfl,rfl,rfl⟩ hr h0 hk2 (by simpa using hl1) (by omega)
  simp only[List.nil_append]at a1
  have q1:t'.getD 1 (.tup [])=aa .i64 (bR mT rows k).2:=getD_some a3
  have q2:(t'.set (j5 mt 12 ts xs) (aa .i64 (bR mT rows k).2)).getD (j5 mt 12 ts xs) (.tup [])=aa .i64 (bR mT rows k).2:=aA (by omega)
  have hend:aj (ag Φ ext) av (.seq (.region [⟨some (j5 mt 12 ts xs), .mv (.tmp 1),none⟩,⟨some 4, .mv (.tmp (j5 mt 12 ts xs)),none⟩]) .ret) ⟨t',[.zarr ts.length (bR mT rows k).1]⟩=some (.ret,⟨(t'.set (j5 mt 12 ts xs) (aa .i64 (bR mT rows k).2)).set 4 (aa .i64 (bR mT rows k).2),[.zarr ts.length (bR mT rows k).1]⟩):=by
   simp only[aj,ah,aw,aH,bg,Opd.ev,q1,put,q2]
  have q3:((t'.set (j5 mt 12 ts xs) (aa .i64 (bR mT rows k).2)).set 4 (aa .i64 (bR mT rows k).2)).getD 4 (.tup [])=aa .i64 (bR mT rows k).2:=aA (by simp;omega)
  have hrun:fm Φ ext (fG mt ts xs).body (ij (fG mt ts xs) [.one (.down ts.length rows),aa .i64 k])=some (.ret,⟨(t'.set (j5 mt 12 ts xs) (aa .i64 (bR mT rows k).2)).set 4 (aa .i64 (bR mT rows k).2),[.zarr ts.length (bR mT rows k).1]⟩):=by
   rw[hst]
   generalize hec:ACode.seq (.region [⟨some (j5 mt 12 ts xs), .mv (.tmp 1),none⟩,⟨some 4, .mv (.tmp (j5 mt 12 ts xs)),none⟩]) .ret=ec at hend
   have hrep:List.replicate (m+11) (V.tup [])= .tup []:: .tup []:: .tup []:: .tup []::List.replicate (m+7) (.tup []):=rfl
   generalize hlp:av (aj (ag Φ ext) av (zW mt ts xs))=lp at a1
   simp only[t0]at a1
   simp only[fm,fG,hec,hrep,aj,ah,aw,aH,bg,Opd.ev,put,List.set_cons_succ,List.set_cons_zero,hlp,a1,if_true]
   exact hend
  rw[hrun]
  simp only[tX,EJ,fG,aU,ar,bz,q3,List.flatMap_cons,List.flatMap_nil,List.append_nil,V.cells,bP,comp,aK,bu,dq,thaw,thawL,List.nil_append,List.length_cons,List.length_nil,Nat.zero_add,List.take_succ_cons,List.take_zero,gv,L.flat,if_true]
  rfl
end
section
variable (mT:Int→List UInt8)
def eI :List PV→Int→List PV×Int
 |[],k=>([],k)
 | .lst rows::ps,k=>(.lst (bR mT rows k).1::(eI ps (bR mT rows k).2).1,(eI ps (bR mT rows k).2).2)
 |p::ps,k=>(p::(eI ps k).1,(eI ps k).2)
end
theorem kA (mT:Int→List UInt8):∀(a b:List PV)(k:Int),eI mT (a++b) k=((eI mT a k).1++(eI mT b (eI mT a k).2).1,(eI mT b (eI mT a k).2).2)
 |[],b,k=>by simp only[List.nil_append,eI]
 | .lst rows::a,b,k=>by simp only[List.cons_append,eI,kA mT a b]
 | .int _ _::a,b,k=>by simp only[List.cons_append,eI,kA mT a b]
 | .bool _::a,b,k=>by simp only[List.cons_append,eI,kA mT a b]
 | .str _::a,b,k=>by simp only[List.cons_append,eI,kA mT a b]
theorem lZ (mT:Int→List UInt8):∀(a:List PV)(k:Int),k≤(eI mT a k).2
 |[],k=>by simp only[eI];omega
 | .lst rows::a,k=>by
  simp only[eI]
  have:=mR mT rows k
  have:=lZ mT a (bR mT rows k).2
  omega
 | .int _ _::a,k=>by simp only[eI];exact lZ mT a k
 | .bool _::a,k=>by simp only[eI];exact lZ mT a k
 | .str _::a,k=>by simp only[eI];exact lZ mT a k
def Hr :List PTy→List PV→List L
 | .lst us::ts, .lst rows::ps=> .down us.length rows::Hr ts ps
 |_::ts,p::ps=> .pv p::Hr ts ps
 |_,_=>[]
def gD :List PTy→List PV→List AObj
 | .lst us::ts, .lst rows::ps=> .zarr us.length rows::gD ts ps
 |_::ts,_::ps=>gD ts ps
 |_,_=>[]
def iQ :Nat→List PTy→List PV→List L
 |j, .lst us::ts, .lst rows::ps=> .arr j::iQ (j+1) ts ps
 |j,_::ts,p::ps=> .pv p::iQ j ts ps
 |_,_,_=>[]
def MU :List PTy→List PV→List (Bool×List L)
 | .lst us::ts, .lst rows::ps=>(false,[.down us.length rows])::MU ts ps
 |_::ts,_::ps=>MU ts ps
 |_,_=>[]
theorem fH {P:List PTy→List PV→Prop}(nil:P [] [])(lst:∀us rows ts ps,nE (.lst us) (.lst rows)→bf ts ps→P ts ps→P (.lst us::ts) (.lst rows::ps))(flat:∀t p ts ps,nE t p→t.flatT=true→p.flat=true→bf ts ps→P ts ps→P (t::ts) (p::ps)):∀(ts:List PTy)(ps:List PV),bf ts ps→P ts ps
 |[],ps,h=>by rw[fu h];exact nil
 | .lst us::ts,ps,h=>by
  obtain⟨p,r,rfl,h1,h2⟩:=dM h
  obtain⟨rows,rfl⟩:=mV h1
  exact lst us rows ts r h1 h2 (fH nil lst flat ts r h2)
 | .int κ::ts,ps,h=>by
  obtain⟨p,r,rfl,h1,h2⟩:=dM h
  obtain⟨n,rfl⟩:=kd h1
  exact flat _ _ ts r h1 rfl rfl h2 (fH nil lst flat ts r h2)
 | .bool::ts,ps,h=>by
  obtain⟨p,r,rfl,h1,h2⟩:=dM h
  obtain⟨n,rfl⟩:=j3 h1
  exact flat _ _ ts r h1 rfl rfl h2 (fH nil lst flat ts r h2)
 | .str::ts,ps,h=>by
  obtain⟨p,r,rfl,h1,h2⟩:=dM h
  obtain⟨n,rfl⟩:=la h1
  exact flat _ _ ts r h1 rfl rfl h2 (fH nil lst flat ts r h2)
theorem HP {t:PTy}{p:PV}{ts:List PTy}{ps:List PV}(ht:t.flatT=true):Hr (t::ts) (p::ps)= .pv p::Hr ts ps:=by cases t<;>first|rfl|cases ht
theorem gK {t:PTy}{p:PV}{ts:List PTy}{ps:List PV}(ht:t.flatT=true):gD (t::ts) (p::ps)=gD ts ps:=by cases t<;>first|rfl|cases ht
theorem lf {t:PTy}{p:PV}{ts:List PTy}{ps:List PV}{j:Nat}(ht:t.flatT=true):iQ j (t::ts) (p::ps)= .pv p::iQ j ts ps:=by cases t<;>first|rfl|cases ht
theorem Iy {t:PTy}{p:PV}{ts:List PTy}{ps:List PV}(ht:t.flatT=true):MU (t::ts) (p::ps)=MU ts ps:=by cases t<;>first|rfl|cases ht
theorem oZ (mT:Int→List UInt8){p:PV}{ps:List PV}{k:Int}(hp:p.flat=true):eI mT (p::ps) k=(p::(eI mT ps k).1,(eI mT ps k).2):=by cases p<;>first|rfl|cases hp
theorem F5 {ts:List PTy}{ps:List PV}(h:bf ts ps):∀j,(iQ j ts ps).length=ts.length:=by
 refine fH (P:=fun ts ps=>∀j,(iQ j ts ps).length=ts.length) (fun j=>rfl) ?_ ?_ ts ps h
 ·intro us rows ts ps _ _ ih j
  simp only[iQ,List.length_cons,ih]
 ·intro t p ts ps _ ht hp _ ih j
  rw[lf ht]
  simp only[List.length_cons,ih]
theorem PC {ts:List PTy}{ps:List PV}(h:bf ts ps):∀hh:List AObj,∃ds,thawL hh (Hr ts ps)=(iQ hh.length ts ps,hh++ds)∧ds.map AObj.zone=gD ts ps:=by
 refine fH (P:=fun ts ps=>∀hh:List AObj,∃ds,thawL hh (Hr ts ps)=(iQ hh.length ts ps,hh++ds)∧ds.map AObj.zone=gD ts ps) ?_ ?_ ?_ ts ps h
 ·intro hh;exact⟨[],by simp[Hr,thawL,iQ],rfl⟩
 ·intro us rows ts ps _ _ ih hh
  obtain⟨ds,e1,e2⟩:=ih (hh++[.darr us.length rows])
  refine⟨.darr us.length rows::ds,?_,by simp only[List.map_cons,e2,AObj.zone,gD]⟩
  simp only[Hr,thawL,e1,iQ,List.length_append,List.length_singleton,List.append_assoc,List.cons_append,List.nil_append]
 ·intro t p ts ps _ ht hp _ ih hh
  obtain⟨ds,e1,e2⟩:=ih hh
  refine⟨ds,?_,by rw[e2,gK ht]⟩
  rw[HP ht,lf ht]
  simp only[thawL,e1]
theorem LU {p:PV}(h:p.flat=true):p.bare=true:=by cases p<;>first|rfl|cases h
theorem Ld {ts:List PTy}{ps:List PV}(h:bf ts ps):∀(pre post:List AObj),jY (pre++gD ts ps++post) (iQ pre.length ts ps)=some (Hr ts ps):=by
 refine fH (P:=fun ts ps=>∀(pre post:List AObj),jY (pre++gD ts ps++post) (iQ pre.length ts ps)=some (Hr ts ps)) (fun _ _=>rfl) ?_ ?_ ts ps h
 ·intro us rows ts ps _ _ ih pre post
  have:=ih (pre++[.zarr us.length rows]) post
  simp only[List.length_append,List.length_singleton,List.append_assoc,List.cons_append,List.nil_append]at this
  have hg:(pre++(AObj.zarr us.length rows::(gD ts ps++post)))[pre.length]? =some (.zarr us.length rows):=by
   rw[List.getElem?_append_right (Nat.le_refl _),Nat.sub_self];rfl
  simp only[gD,iQ,Hr,List.append_assoc,List.cons_append,jY,ub,hg,this]
 ·intro t p ts ps _ ht hp _ ih pre post
  rw[HP ht,lf ht,gK ht]
  have hb:PV.bare _=true:=LU hp
  simp only[jY,ub,hb,if_true,ih pre post]
theorem O7 {ts:List PTy}{ps:List PV}(h:bf ts ps):∀(j:Nat),(ai (iQ j ts ps)).Nodup∧∀o∈ai (iQ j ts ps),j≤o:=by
 refine fH (P:=fun ts ps=>∀(j:Nat),(ai (iQ j ts ps)).Nodup∧∀o∈ai (iQ j ts ps),j≤o) (fun j=>⟨List.nodup_nil,fun o ho=>by cases ho⟩) ?_ ?_ ts ps h
 ·intro us rows ts ps _ _ ih j
  obtain⟨h1,h2⟩:=ih (j+1)
  have e:ai (iQ j (.lst us::ts) (.lst rows::ps))=j::ai (iQ (j+1) ts ps):=by simp[iQ,ai]
  rw[e]
  refine⟨List.nodup_cons.2 ⟨fun hm=>by have:=h2 _ hm;omega,h1⟩,fun o ho=> ?_⟩
  rcases List.mem_cons.1 ho with rfl|ho
  ·exact Nat.le_refl _
  ·have:=h2 o ho;omega
 ·intro t p ts ps _ ht hp _ ih j
  have e:ai (iQ j (t::ts) (p::ps))=ai (iQ j ts ps):=by rw[lf ht];simp[ai]
  rw[e];exact ih j
theorem Qh (mT:Int→List UInt8){ts:List PTy}{ps:List PV}(h:bf ts ps):∀(pre post:List AObj)(k:Int),jg (pre++gD ts ps++post) (ai (iQ pre.length ts ps)) (MU ts (eI mT ps k).1)=some (pre++gD ts (eI mT ps k).1++post):=by
 refine fH (P:=fun ts ps=>∀(pre post:List AObj)(k:Int),jg (pre++gD ts ps++post) (ai (iQ pre.length ts ps)) (MU ts (eI mT ps k).1)=some (pre++gD ts (eI mT ps k).1++post)) (fun _ _ _=>rfl) ?_ ?_ ts ps h
 ·intro us rows ts ps _ _ ih pre post k
  have:=ih (pre++[.zarr us.length (bR mT rows k).1]) post (bR mT rows k).2
  simp only[List.length_append,List.length_singleton,List.append_assoc,List.cons_append,List.nil_append]at this
  have e:ai (iQ pre.length (.lst us::ts) (.lst rows::ps))=pre.length::ai (iQ (pre.length+1) ts ps):=by simp[iQ,ai]
  rw[e]
  simp only[eI,gD,MU,jg,List.append_assoc,List.cons_append]
  rw[List.set_append_right _ _ (Nat.le_refl _),Nat.sub_self,List.set_cons_zero,this]
 ·intro t p ts ps _ ht hp _ ih pre post k
  have e:ai (iQ pre.length (t::ts) (p::ps))=ai (iQ pre.length ts ps):=by rw[lf ht];simp[ai]
  rw[e,oZ mT hp,gK ht,gK ht,Iy ht]
  exact ih pre post k
theorem Pz (mT:Int→List UInt8){ts:List PTy}{ps:List PV}(h:bf ts ps):∀k,gv (gD ts (eI mT ps k).1)=some (MU ts (eI mT ps k).1):=by
 refine fH (P:=fun ts ps=>∀k,gv (gD ts (eI mT ps k).1)=some (MU ts (eI mT ps k).1)) (fun _=>rfl) ?_ ?_ ts ps h
 ·intro us rows ts ps _ _ ih k
  simp only[eI,gD,gv,ih,MU]
 ·intro t p ts ps _ ht hp _ ih k
  rw[oZ mT hp,gK ht,Iy ht,ih]
theorem D6 (mT:Int→List UInt8){ts:List PTy}{ps:List PV}(h:bf ts ps):∀k,(gD ts (eI mT ps k).1).length=(gD ts ps).length:=by
 refine fH (P:=fun ts ps=>∀k,(gD ts (eI mT ps k).1).length=(gD ts ps).length) (fun _=>rfl) ?_ ?_ ts ps h
 ·intro us rows ts ps _ _ ih k
  simp only[eI,gD,List.length_cons,ih]
 ·intro t p ts ps _ ht hp _ ih k
  rw[oZ mT hp,gK ht,gK ht,ih]
theorem Hq {ts us:List PTy}{a b:List PV}(h:bf ts a):gD (ts++us) (a++b)=gD ts a++gD us b:=by
 refine fH (P:=fun ts a=>gD (ts++us) (a++b)=gD ts a++gD us b) rfl ?_ ?_ ts a h
 ·intro us rows ts ps _ _ ih
  simp only[List.cons_append,gD,ih]
 ·intro t p ts ps _ ht hp _ ih
  simp only[List.cons_append]
  rw[gK ht,gK ht,ih]
theorem FL (mT:Int→List UInt8){ts us:List PTy}{a b:List PV}(h:bf ts a):∀k,gD (ts++us) ((eI mT a k).1++b)=gD ts (eI mT a k).1++gD us b:=by
 refine fH (P:=fun ts a=>∀k,gD (ts++us) ((eI mT a k).1++b)=gD ts (eI mT a k).1++gD us b) (fun _=>rfl) ?_ ?_ ts a h
 ·intro us rows ts ps _ _ ih k
  simp only[eI,List.cons_append,gD,ih]
 ·intro t p ts ps _ ht hp _ ih k
  rw[oZ mT hp]
  simp only[List.cons_append]
  rw[gK ht,gK ht,ih]
theorem JE {ts us:List PTy}{a b:List PV}(h:bf ts a):∀j,iQ j (ts++us) (a++b)=iQ j ts a++iQ (j+(gD ts a).length) us b:=by
 refine fH (P:=fun ts a=>∀j,iQ j (ts++us) (a++b)=iQ j ts a++iQ (j+(gD ts a).length) us b) (fun j=>rfl) ?_ ?_ ts a h
 ·intro us rows ts ps _ _ ih j
  simp only[List.cons_append,iQ,gD,List.length_cons,ih]
  rw[show j+1+(gD ts ps).length=j+((gD ts ps).length+1) by omega]
 ·intro t p ts ps _ ht hp _ ih j
  simp only[List.cons_append]
  rw[lf ht,lf ht,gK ht,ih]
  rfl
theorem NO {ts:List PTy}{ps:List PV}(h:bf ts ps):∀j,(iQ j ts ps).all plain=true:=by
 refine fH (P:=fun ts ps=>∀j,(iQ j ts ps).all plain=true) (fun j=>rfl) ?_ ?_ ts ps h
 ·intro us rows ts ps _ _ ih j
  simp only[iQ,List.all_cons,ih,Bool.and_true];rfl
 ·intro t p ts ps _ ht hp _ ih j
  rw[lf ht]
  simp only[List.all_cons,ih,Bool.and_true];rfl
inductive MS where
 |k (ts:List PTy)
 |s (ts:List PTy) (f:Nat)
 |l (us:List PTy) (f:Nat)
def MS.ts :MS→List PTy
 | .k ts=>ts
 | .s ts _=>ts
 | .l us _=>[.lst us]
def gu :List MS→List PTy
 |[]=>[]
 |s::ss=>s.ts++gu ss
def Q0 (c off:Nat)(g:Bool)(n f:Nat):List AOper:=[⟨some c, .fieldA (.tmp 2) off,none⟩,⟨some (c+1), .loadZ g n (.tmp c),none⟩,⟨some (c+2), .mv (.tmp 1),none⟩,⟨some (c+3), .callM f (.tmp (c+1)) (.tmp (c+2)),none⟩,⟨some 1, .mv (.tmp (c+3)),none⟩]
def Nv :Nat→Nat→List MS→ACode
 |c,_,[]=> .seq (.region [⟨some c, .mv (.tmp 1),none⟩,⟨some 4, .mv (.tmp c),none⟩]) .ret
 |c,off, .k ts::ss=>Nv c (off+ts.length) ss
 |c,off, .s ts f::ss=> .seq (.region (Q0 c off true ts.length f)) (Nv (c+4) (off+ts.length) ss)
 |c,off, .l _ f::ss=> .seq (.region (Q0 c off false 1 f)) (Nv (c+4) (off+1) ss)
def Nw :Nat→List MS→Nat
 |c,[]=>c
 |c, .k _::ss=>Nw c ss
 |c,_::ss=>Nw (c+4) ss
def pH (ss:List MS):AFn:=⟨Nw 5 ss+1,[.tmp 4], .seq (.region [⟨some 2, .box (.tmp 0),none⟩,⟨some 4, .mv (.pv (.int .i64 0)),none⟩]) (Nv 5 0 ss)⟩
theorem By :∀(ss:List MS)(c off:Nat),(Nv c off ss).noZ=true
 |[],c,off=>rfl
 | .k ts::ss,c,off=>By ss c _
 | .s ts f::ss,c,off=>by simp only[Nv,ACode.noZ,By ss,Bool.and_true];rfl
 | .l us f::ss,c,off=>by simp only[Nv,ACode.noZ,By ss,Bool.and_true];rfl
theorem zg :∀(ss:List MS)(c:Nat),c≤Nw c ss
 |[],c=>Nat.le_refl _
 | .k ts::ss,c=>zg ss c
 | .s ts f::ss,c=>Nat.le_trans (by omega) (zg ss (c+4))
 | .l us f::ss,c=>Nat.le_trans (by omega) (zg ss (c+4))
section
variable {Φ:Nat→Option AFn}{ext:Nat→List V→Option V}{mT:Int→List UInt8}{mt:Nat}
def LM (Φ:Nat→Option AFn)(ext:Nat→List V→Option V)(mT:Int→List UInt8)(f:Nat)(ts:List PTy):Prop:=
 ∀row:List PV,bf ts row→∀k:Int,0≤k→(eI mT row k).2≤tn→ag Φ ext (f+jJ) [.agg (Hr ts row),aa .i64 k]=some (.tup ((false,[.pv (.int .i64 (eI mT row k).2)])::MU ts (eI mT row k).1))
def Hu (Φ:Nat→Option AFn)(ext:Nat→List V→Option V)(mT:Int→List UInt8):List MS→Prop
 |[]=>True
 | .k ts::ss=>ts.all PTy.flatT=true∧Hu Φ ext mT ss
 | .s ts f::ss=>LM Φ ext mT f ts∧Hu Φ ext mT ss
 | .l us f::ss=>n6 Φ ext mT f us∧Hu Φ ext mT ss
theorem Ip {g:Bool}{n f c m:Nat}{C1 C2:List L}{Z1 Z2:List AObj}{ts:List PTy}{x:List PV}{v a:V}{k:Int}{t:List V}(hx:bf ts x)(h1:t[1]? =some (aa .i64 k))(h2:t[2]? =some (.one (.ptr m 0 0)))(hc:5≤c)(hl:c+3<t.length)
 (hb:(Z1++gD ts x++Z2)[m]? =some (.box (C1++C2))) (hcut:gr g n C1.length (C1++C2)=some v) (hv:v.cells=iQ Z1.length ts x) (hsub:∀o c,v≠ .one (.sub o c)) (hlend:ru (Z1++gD ts x++Z2) v=some a) (hcall:ag Φ ext (f+jJ) [a,aa .i64 k]=some (.tup ((false,[.pv (.int .i64 (eI mT x k).2)])::MU ts (eI mT x k).1))):
 ∃t',ah (ag Φ ext) (Q0 c C1.length g n f) ⟨t,Z1++gD ts x++Z2⟩=some ⟨t',Z1++gD ts (eI mT x k).1++Z2⟩∧t'.length=t.length∧t'[1]? =some (aa .i64 (eI mT x k).2)∧t'[2]? =some (.one (.ptr m 0 0)):=by
 have e1:=getD_some h1
 have e2:=getD_some h2
 have q1:(t.set c (V.one (.ptr m 0 C1.length))).getD c (.tup [])= .one (.ptr m 0 C1.length):=aA (by omega)
 have q2:((t.set c (V.one (.ptr m 0 C1.length))).set (c+1) v).getD 1 (.tup [])=aa .i64 k:=(dd (by omega)).trans ((dd (by omega)).trans e1)
 have q3:(((t.set c (V.one (.ptr m 0 C1.length))).set (c+1) v).set (c+2) (aa .i64 k)).getD (c+1) (.tup [])=v:=(dd (by omega)).trans (aA (by simp;omega))
 have q4:(((t.set c (V.one (.ptr m 0 C1.length))).set (c+1) v).set (c+2) (aa .i64 k)).getD (c+2) (.tup [])=aa .i64 k:=aA (by simp;omega)
 have q5:((((t.set c (V.one (.ptr m 0 C1.length))).set (c+1) v).set (c+2) (aa .i64 k)).set (c+3) (aa .i64 (eI mT x k).2)).getD (c+3) (.tup [])=aa .i64 (eI mT x k).2:=aA (by simp;omega)
 have hnd:(ai v.cells).Nodup:=by rw[hv];exact(O7 hx _).1
 have hput:=Qh mT hx Z1 Z2 k
 rw[←hv]at hput
 have hM:jn (ag Φ ext) (Z1++gD ts x++Z2) f v k=some (aa .i64 (eI mT x k).2,Z1++gD ts (eI mT x k).1++Z2):=by
  unfold jn
  split
  ·rename_i o cc;exact absurd rfl (hsub o cc)
  ·simp only[hnd,if_true,hlend,hcall,L.flat,hput]
 refine⟨((((t.set c (V.one (.ptr m 0 C1.length))).set (c+1) v).set (c+2) (aa .i64 k)).set (c+3) (aa .i64 (eI mT x k).2)).set 1 (aa .i64 (eI mT x k).2),?_,by simp,List.getElem?_set_self (by simp;omega),by rw[List.getElem?_set_ne (by omega),List.getElem?_set_ne (by omega),List.getElem?_set_ne (by omega),List.getElem?_set_ne (by omega),List.getElem?_set_ne (by omega)];exact h2⟩
 simp only[Q0,ah,aw,aH,bg,bY,Opd.ev,e2,put,Nat.zero_add,q1,oX,hb,bo,if_true,hcut,q2,q3,q4,hM,q5]
theorem Bx :∀(ss:List MS),Hu Φ ext mT ss→∀{c:Nat}{C1:List L}{Z1:List AObj}{b:List PV}{k:Int}{t:List V},bf (gu ss) b→0≤k→(eI mT b k).2≤tn→t[1]? =some (aa .i64 k)→t[2]? =some (.one (.ptr (Z1.length+(gD (gu ss) b).length) 0 0))→5≤c→Nw c ss<t.length→
 ∃t',aj (ag Φ ext) av (Nv c C1.length ss) ⟨t,Z1++gD (gu ss) b++[.box (C1++iQ Z1.length (gu ss) b)]⟩=some (.ret,⟨t',Z1++gD (gu ss) (eI mT b k).1++[.box (C1++iQ Z1.length (gu ss) b)]⟩)∧t'.getD 4 (.tup [])=aa .i64 (eI mT b k).2
 |[],_,c,C1,Z1,b,k,t,hb,h0,hk,h1,h2,hc,hl=>by
  obtain rfl:=fu hb
  simp only[Nw]at hl
  have q2:(t.set c (aa .i64 k)).getD c (.tup [])=aa .i64 k:=aA hl
  refine⟨(t.set c (aa .i64 k)).set 4 (aa .i64 k),?_,by simp only[eI];exact aA (by simp;omega)⟩
  simp only[Nv,aj,ah,aw,aH,bg,Opd.ev,getD_some h1,put,q2,eI]
 | .k ts::ss,hss,c,C1,Z1,b,k,t,hb,h0,hk,h1,h2,hc,hl=>by
  simp only[gu,MS.ts]at hb h2⊢
  obtain⟨x,y,rfl,hx,hy⟩:=j0 (ts:=ts) hb
  have flat:∀{ts:List PTy}{x:List PV},bf ts x→ts.all PTy.flatT=true→gD ts x=[]∧∀k,eI mT x k=(x,k):=by
   intro ts x h
   refine fH (P:=fun ts x=>ts.all PTy.flatT=true→gD ts x=[]∧∀k,eI mT x k=(x,k)) (fun _=>⟨rfl,fun _=>rfl⟩) ?_ ?_ ts x h
   ·intro us rows ts ps _ _ _ ha
    simp[PTy.flatT]at ha
   ·intro t p ts ps _ ht hp _ ih ha
    simp only[List.all_cons,Bool.and_eq_true]at ha
    obtain⟨i1,i2⟩:=ih ha.2
    exact⟨by rw[gK ht,i1],fun k=>by rw[oZ mT hp,i2]⟩
  obtain⟨z0,m0⟩:=flat hx hss.1
  have hm:eI mT (x++y) k=(x++(eI mT y k).1,(eI mT y k).2):=by rw[kA,m0]
  have hlen:(C1++iQ Z1.length ts x).length=C1.length+ts.length:=by rw[List.length_append,F5 hx]
  rw[Hq hx,z0,List.nil_append]at h2⊢
  rw[JE hx,z0,hm]
  simp only[hm]at hk
  have hz2:∀y',gD (ts++gu ss) (x++y')=gD (gu ss) y':=fun y'=>by rw[Hq hx,z0,List.nil_append]
  simp only[hz2,List.length_nil,Nat.add_zero]
  obtain⟨t',r1,r2⟩:=Bx ss hss.2 (c:=c) (C1:=C1++iQ Z1.length ts x) (Z1:=Z1) hy h0 hk h1 h2 hc hl
  rw[hlen]at r1
  simp only[List.append_assoc]at r1⊢
  exact⟨t',r1,r2⟩
 | .s ts f::ss,hss,c,C1,Z1,b,k,t,hb,h0,hk,h1,h2,hc,hl=>by
  simp only[gu,MS.ts]at hb h2⊢
  obtain⟨x,y,rfl,hx,hy⟩:=j0 (ts:=ts) hb
  have hN:=zg ss (c+4)
  simp only[Nw]at hl
  simp only[kA]at hk
  have hle:=lZ mT y (eI mT x k).2
  have hlx:=lZ mT x k
  have hcl:=F5 hx Z1.length
  rw[Hq hx]at h2⊢
  rw[JE hx]
  simp only[kA,FL mT hx]
  generalize hC2:iQ (Z1.length+(gD ts x).length) (gu ss) y=C2
  generalize hB:[AObj.box (C1++(iQ Z1.length ts x++C2))]=B
  have hcut:gr true ts.length C1.length (C1++(iQ Z1.length ts x++C2))=some (.agg (iQ Z1.length ts x)):=by
   unfold gr
   rw[if_pos (by simp[hcl]),if_pos rfl,List.drop_left,←hcl,List.take_left]
  obtain⟨t1,a1,a2,a3,a4⟩:=Ip (Φ:=Φ) (ext:=ext) (mT:=mT) (g:=true) (n:=ts.length) (f:=f) (c:=c) (m:=Z1.length+(gD ts x++gD (gu ss) y).length) (C1:=C1) (C2:=iQ Z1.length ts x++C2) (Z1:=Z1) (Z2:=gD (gu ss) y++B) (v:= .agg (iQ Z1.length ts x)) (a:= .agg (Hr ts x)) hx h1 h2 hc (by omega) (by
   rw[←hB]
   have:Z1++gD ts x++(gD (gu ss) y++[AObj.box (C1++(iQ Z1.length ts x++C2))])=(Z1++(gD ts x++gD (gu ss) y))++[AObj.box (C1++(iQ Z1.length ts x++C2))]:=by simp
   rw[this,List.getElem?_append_right (by simp)]
   simp) hcut rfl (fun _ _ h=>by cases h) (by
   have:=Ld hx Z1 (gD (gu ss) y++B)
   simp only[ru,this]) (hss.1 x hx k h0 (by omega))
  obtain⟨t2,b1,b2⟩:=Bx ss hss.2 (c:=c+4) (C1:=C1++iQ Z1.length ts x) (Z1:=Z1++gD ts (eI mT x k).1) (b:=y) (k:=(eI mT x k).2) (t:=t1) hy (by omega) hk a3 (by rw[a4];simp only[List.length_append,D6 mT hx];congr 3;omega) (by omega) (by omega)
  refine⟨t2,?_,b2⟩
  have hlen:(C1++iQ Z1.length ts x).length=C1.length+ts.length:=by rw[List.length_append,hcl]
  have hpos:(Z1++gD ts (eI mT x k).1).length=Z1.length+(gD ts x).length:=by rw[List.length_append,D6 mT hx]
  rw[hlen,hpos,hC2]at b1
  simp only[Nv,aj,List.append_assoc]at a1 b1⊢
  rw[hB]at b1
  rw[a1]
  exact b1
 | .l us f::ss,hss,c,C1,Z1,b,k,t,hb,h0,hk,h1,h2,hc,hl=>by
  simp only[gu,MS.ts]at hb h2⊢
  obtain⟨x,y,rfl,hx,hy⟩:=j0 (ts:=[.lst us]) hb
  have hN:=zg ss (c+4)
  simp only[Nw]at hl
  simp only[kA]at hk
  have hle:=lZ mT y (eI mT x k).2
  have hlx:=lZ mT x k
  have hcl:=F5 hx Z1.length
  have hx':=hx
  obtain⟨p,x',rfl,hp,hn⟩:=dM hx'
  obtain rfl:=fu hn
  obtain⟨rows,rfl⟩:=mV hp
  rw[Hq hx]at h2⊢
  rw[JE hx]
  simp only[kA,FL mT hx]
  generalize hC2:iQ (Z1.length+(gD [.lst us] [.lst rows]).length) (gu ss) y=C2
  generalize hB:[AObj.box (C1++(iQ Z1.length [.lst us] [.lst rows]++C2))]=B
  have hcut:gr false 1 C1.length (C1++(iQ Z1.length [.lst us] [.lst rows]++C2))=some (.one (.arr Z1.length)):=by
   simp[gr,iQ]
  obtain⟨t1,a1,a2,a3,a4⟩:=Ip (Φ:=Φ) (ext:=ext) (mT:=mT) (g:=false) (n:=1) (f:=f) (c:=c) (m:=Z1.length+(gD [.lst us] [.lst rows]++gD (gu ss) y).length) (C1:=C1) (C2:=iQ Z1.length [.lst us] [.lst rows]++C2) (Z1:=Z1) (Z2:=gD (gu ss) y++B) (v:= .one (.arr Z1.length)) (a:= .one (.down us.length rows)) hx h1 h2 hc (by omega) (by
   rw[←hB]
   have:Z1++gD [.lst us] [.lst rows]++(gD (gu ss) y++[AObj.box (C1++(iQ Z1.length [.lst us] [.lst rows]++C2))])=(Z1++(gD [.lst us] [.lst rows]++gD (gu ss) y))++[AObj.box (C1++(iQ Z1.length [.lst us] [.lst rows]++C2))]:=by simp
   rw[this,List.getElem?_append_right (by simp)]
   simp) hcut rfl (fun _ _ h=>by cases h) (by
   have:=Ld hx Z1 (gD (gu ss) y++B)
   simp only[iQ,Hr,jY]at this
   split at this
   ·rename_i a b h1 h2
    cases this
    cases h2
    simp only[ru,h1]
   ·cases this) (by
   simp only[eI]at hle hlx hk⊢
   exact hss.1.2 rows hp k h0 (by omega))
  obtain⟨t2,b1,b2⟩:=Bx ss hss.2 (c:=c+4) (C1:=C1++iQ Z1.length [.lst us] [.lst rows]) (Z1:=Z1++gD [.lst us] (eI mT [.lst rows] k).1) (b:=y) (k:=(eI mT [.lst rows] k).2) (t:=t1) hy (by omega) hk a3 (by rw[a4];simp only[List.length_append,D6 mT hx];congr 3;omega) (by omega) (by omega)
  refine⟨t2,?_,b2⟩
  have hlen:(C1++iQ Z1.length [.lst us] [.lst rows]).length=C1.length+1:=by rw[List.length_append,hcl];rfl
  have hpos:(Z1++gD [.lst us] (eI mT [.lst rows] k).1).length=Z1.length+(gD [.lst us] [.lst rows]).length:=by rw[List.length_append,D6 mT hx]
  rw[hlen,hpos,hC2]at b1
  simp only[Nv,aj,List.append_assoc]at a1 b1⊢
  rw[hB]at b1
  rw[a1]
  exact b1
theorem xc {f:Nat}{ss:List MS}(hk:Φ f=some (pH ss))(hn:Φ (f+jJ)=none)(hss:Hu Φ ext mT ss):LM Φ ext mT f (gu ss):=by
 intro row hr k h0 hk2
 have hN:=zg ss 5
 obtain⟨m,hm⟩:∃m,Nw 5 ss+1-2=m+4:=⟨Nw 5 ss-5,by omega⟩
 have hz:(pH ss).body.noZ=true:=by
  simp only[pH,ACode.noZ,By,Bool.and_true]
  rfl
 refine rZ hn hk hz ?_
 obtain⟨ds,d1,d2⟩:=PC hr []
 simp only[List.length_nil,List.nil_append]at d1
 have hA:dq [] [.agg (Hr (gu ss) row),aa .i64 k]=([.agg (iQ 0 (gu ss) row),aa .i64 k],ds):=by
  simp only[dq,thaw,d1,thawL]
 have hst:ij (pH ss) [.agg (Hr (gu ss) row),aa .i64 k]=⟨.agg (iQ 0 (gu ss) row)::aa .i64 k::List.replicate (m+4) (.tup []),gD (gu ss) row⟩:=by
  simp only[ij,hA,d2,pH,List.length_cons,List.length_nil,List.cons_append,List.nil_append,hm]
 have hlen:ds.length=(gD (gu ss) row).length:=by rw[←d2];simp
 let t0:List V:= .agg (iQ 0 (gu ss) row)::aa .i64 k:: .one (.ptr (gD (gu ss) row).length 0 0):: .tup []::aa .i64 0::List.replicate (m+1) (.tup [])
 have hl0:t0.length=Nw 5 ss+1:=by simp[t0];omega
 obtain⟨t',a1,a2⟩:=Bx (Φ:=Φ) (ext:=ext) ss hss (c:=5) (C1:=[]) (Z1:=[]) (b:=row) (k:=k) (t:=t0) hr h0 hk2 rfl (by simp[t0]) (Nat.le_refl _) (by omega)
 simp only[List.length_nil,List.nil_append]at a1
 have hrun:fm Φ ext (pH ss).body (ij (pH ss) [.agg (Hr (gu ss) row),aa .i64 k])=some (.ret,⟨t',gD (gu ss) (eI mT row k).1++[.box (iQ 0 (gu ss) row)]⟩):=by
  rw[hst]
  have hrep:List.replicate (m+4) (V.tup [])= .tup []:: .tup []:: .tup []::List.replicate (m+1) (.tup []):=rfl
  simp only[t0]at a1
  simp only[fm,pH,hrep,aj,ah,aw,aH,bg,bY,Opd.ev,put,List.getD_cons_zero,V.cells,NO hr,if_true,List.set_cons_succ,List.set_cons_zero]
  exact a1
 have htake:(gD (gu ss) (eI mT row k).1++[AObj.box (iQ 0 (gu ss) row)]).take ds.length=gD (gu ss) (eI mT row k).1:=by
  rw[hlen,←D6 mT hr k,List.take_left]
 rw[hrun]
 simp only[tX,EJ,pH,aU,ar,bz,a2,List.flatMap_cons,List.flatMap_nil,List.append_nil,V.cells,bP,comp,aK,bu,hA,htake,Pz mT hr,L.flat,if_true]
 rfl
end
end Gi
