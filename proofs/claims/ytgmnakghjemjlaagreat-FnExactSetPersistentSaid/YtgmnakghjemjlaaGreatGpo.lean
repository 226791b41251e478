/- Of this proof. -/
import Derived.Test.YtgmnakghjemjlaaGreatGpm
set_option linter.unusedSimpArgs false
set_option linter.unusedVariables false
namespace Gi
open Go Go.RowKit
def kG (ops:List AOper):Bool:=ops.all fun o=>o.op.noZ
theorem KH (a b:List AOper):kG (a++b)=(kG a&&kG b):=by simp[kG]
theorem CH (a:AOper)(b:List AOper):kG (a::b)=(a.op.noZ&&kG b):=by simp[kG]
theorem yA :∀(p:List Nat)(c:Nat),kG (pI c p)=true
 |[],c=>rfl
 |d::ds,c=>by simp only[pI,CH,yA ds,AOp.noZ,Bool.and_self]
theorem OM (mt c:Nat)(t:PTy):kG (tk mt c t)=true:=by
 cases t with
 |int κ=>cases κ<;>rfl
 |_=>rfl
theorem NH (z mt c:Nat)(t:PTy)(x:MC):∀r∈Kb z mt c t x,kG r=true:=by
 have nil:kG []=true:=rfl
 have hS:∀t,∀r∈Be z mt c t x,kG r=true:=by
  intro t r hr
  simp only[Be,List.mem_cons,List.not_mem_nil,or_false]at hr
  rcases hr with rfl|rfl
  ·simp only[KE,List.cons_append,List.nil_append,CH,KH,OM,yA,AOp.noZ,nil,Bool.and_self]
  ·rfl
 have hT:∀r∈EE z c x,kG r=true:=by
  intro r hr
  simp only[EE,List.mem_cons,List.not_mem_nil,or_false]at hr
  subst hr
  simp only[KE,List.cons_append,List.nil_append,CH,KH,yA,AOp.noZ,nil,Bool.and_self]
 cases t<;>first|exact hT|exact hS _
theorem KJ (z mt:Nat):∀(ts:List PTy)(xs:List MC)(c:Nat),∀r∈Me z mt c ts xs,kG r=true
 |[],xs,c,r,hr=>by cases xs<;>cases hr
 |t::ts,[],c,r,hr=>by cases hr
 |t::ts,x::xs,c,r,hr=>by
  simp only[Me,List.mem_append]at hr
  rcases hr with hr|hr
  ·exact NH z mt c t x r hr
  ·exact KJ z mt ts xs _ r hr
theorem HX :∀(rs:List (List AOper)),(∀r∈rs,kG r=true)→(JG rs).noZ=true
 |[],_=>rfl
 |[a],h=>h a (by simp)
 |a::b::r,h=>by
  have h1:=h a (by simp)
  have h2:=HX (b::r) (fun x m=>h x (by simp only[List.mem_cons]at m⊢;exact .inr m))
  simp only[JG,ACode.noZ,h2,Bool.and_true]
  exact h1
theorem HW (mt:Nat)(ts:List PTy)(xs:List MC):(fw mt ts xs).body.noZ=true:=by
 have:=HX _ (KJ ts.length mt ts xs 12)
 simp only[fw,zh,No,FN,ACode.noZ,this,Bool.and_true,Bool.true_and]
 rfl
section
variable {Φ:Nat→Option AFn}{ext:Nat→List V→Option V}{mT:Int→List UInt8}{mt:Nat}
theorem eH (hT:zF Φ ext mT mt){f:Nat}{ts:List PTy}{xs:List MC}(hk:Φ f=some (fw mt ts xs))(hn:Φ (f+jr)=none)(hm:Ez Φ ext mT 0 ts xs):nF Φ ext mT f ts:=by
 have hN:=A2 (mt:=mt) ts xs 12
 obtain⟨m,hm'⟩:∃m,jP mt 12 ts xs+1-2=m+11:=⟨jP mt 12 ts xs-12,by omega⟩
 constructor
 ·intro k
  refine qW hn hk (HW mt ts xs) ?_
  have e0:asList (lent []) (bv [])=some []:=rfl
  have hrun:∃t',fm Φ ext (fw mt ts xs).body (hC (fw mt ts xs) [bv [],aa .i64 k])=some (.ret,⟨t',[]⟩)∧t'.getD 4 (.tup [])=aa .i64 k:=by
   have hst:hC (fw mt ts xs) [bv [],aa .i64 k]=⟨bv []::aa .i64 k::List.replicate (m+11) (.tup []),[]⟩:=by
    simp only[hC,cV,thaw,thawL,fw,List.length_cons,List.length_nil,List.map_nil,List.cons_append,List.nil_append,hm']
   rw[hst]
   have hl:(bv []::aa .i64 k::List.replicate (m+11) (V.tup [])).length=jP mt 12 ts xs+1:=by simp;omega
   generalize hlp:ar (aj (ag Φ ext) ar (zh mt ts xs))=lp
   have hloop:∀u2 u3 u4 u6 u7 u8 u9(r:List V),lp ⟨bv []::aa .i64 k::u2::u3::u4::aa .i64 0::u6::u7::u8::u9::r,[]⟩=some (.exit 0,⟨bv []::aa .i64 k::u2::u3::u4::aa .i64 0::aa .i64 0::bv []::aa .i64 0::au false::r,[]⟩):=by
    intro u2 u3 u4 u6 u7 u8 u9 r
    rw[←hlp]
    refine gk ?_ (by simp)
    simp[zh,No,aj,ah,az,aI,bg,Opd.ev,put,e0,bin,bD,isBool]
   have hrep:List.replicate (m+11) (V.tup [])= .tup []:: .tup []:: .tup []:: .tup []:: .tup []:: .tup []:: .tup []:: .tup []::List.replicate (m+3) (.tup []):=rfl
   rw[hrep]at hl⊢
   let w:List V:=bv []::aa .i64 k:: .tup []:: .tup []::aa .i64 0::aa .i64 0::aa .i64 0::bv []::aa .i64 0::au false::List.replicate (m+3) (.tup [])
   have hwl:w.length=jP mt 12 ts xs+1:=by simp only[w,List.length_cons,List.length_replicate]at hl⊢;omega
   have q1:w.getD 1 (.tup [])=aa .i64 k:=rfl
   have q2:(w.set (jP mt 12 ts xs) (aa .i64 k)).getD (jP mt 12 ts xs) (.tup [])=aa .i64 k:=aA (by omega)
   refine⟨(w.set (jP mt 12 ts xs) (aa .i64 k)).set 4 (aa .i64 k),?_,aA (by simp;omega)⟩
   have hend:aj (ag Φ ext) ar (.seq (.region [⟨some (jP mt 12 ts xs), .mv (.tmp 1),none⟩,⟨some 4, .mv (.tmp (jP mt 12 ts xs)),none⟩]) .ret) ⟨w,[]⟩=some (.ret,⟨(w.set (jP mt 12 ts xs) (aa .i64 k)).set 4 (aa .i64 k),[]⟩):=by
    simp only[aj,ah,az,aI,bg,Opd.ev,q1,put,q2]
   generalize hec:ACode.seq (.region [⟨some (jP mt 12 ts xs), .mv (.tmp 1),none⟩,⟨some 4, .mv (.tmp (jP mt 12 ts xs)),none⟩]) .ret=ec at hend
   simp only[fm,fw,hec,aj,ah,az,aI,bg,Opd.ev,put,List.set_cons_succ,List.set_cons_zero,hlp,hloop,if_true]
   exact hend
  obtain⟨t',r1,r2⟩:=hrun
  rw[r1]
  simp only[tn,D7,fw,aS,av,bx,r2,List.flatMap_cons,List.flatMap_nil,List.append_nil,V.cells,bP,comp,aK,bt,cV,thaw,thawL,List.length_nil,List.take_zero,gg,L.flat,if_true]
  rfl
 ·intro rows h k h0 hk2
  obtain⟨hl1,hr⟩:=aL h
  refine qW hn hk (HW mt ts xs) ?_
  have hst:hC (fw mt ts xs) [.one (.down ts.length rows),aa .i64 k]=⟨.one (.arr 0)::aa .i64 k::List.replicate (m+11) (.tup []),[.zarr ts.length rows]⟩:=by
   simp only[hC,cV,thaw,thawL,fw,List.length_cons,List.length_nil,List.map_cons,List.map_nil,List.cons_append,List.nil_append,AObj.zone,hm']
  let t0:List V:= .one (.arr 0)::aa .i64 k:: .tup []:: .tup []::aa .i64 0::aa .i64 0::List.replicate (m+7) (.tup [])
  have hl0:t0.length=jP mt 12 ts xs+1:=by simp[t0];omega
  obtain⟨t',a1,a2,a3⟩:=L6 hT hm rows [] k t0 ⟨rfl,rfl,rfl⟩ hr h0 hk2 (by simpa using hl1) (by omega)
  simp only[List.nil_append]at a1
  have q1:t'.getD 1 (.tup [])=aa .i64 (bQ mT rows k).2:=getD_some a3
  have q2:(t'.set (jP mt 12 ts xs) (aa .i64 (bQ mT rows k).2)).getD (jP mt 12 ts xs) (.tup [])=aa .i64 (bQ mT rows k).2:=aA (by omega)
  have hend:aj (ag Φ ext) ar (.seq (.region [⟨some (jP mt 12 ts xs), .mv (.tmp 1),none⟩,⟨some 4, .mv (.tmp (jP mt 12 ts xs)),none⟩]) .ret) ⟨t',[.zarr ts.length (bQ mT rows k).1]⟩=some (.ret,⟨(t'.set (jP mt 12 ts xs) (aa .i64 (bQ mT rows k).2)).set 4 (aa .i64 (bQ mT rows k).2),[.zarr ts.length (bQ mT rows k).1]⟩):=by
   simp only[aj,ah,az,aI,bg,Opd.ev,q1,put,q2]
  have q3:((t'.set (jP mt 12 ts xs) (aa .i64 (bQ mT rows k).2)).set 4 (aa .i64 (bQ mT rows k).2)).getD 4 (.tup [])=aa .i64 (bQ mT rows k).2:=aA (by simp;omega)
  have hrun:fm Φ ext (fw mt ts xs).body (hC (fw mt ts xs) [.one (.down ts.length rows),aa .i64 k])=some (.ret,⟨(t'.set (jP mt 12 ts xs) (aa .i64 (bQ mT rows k).2)).set 4 (aa .i64 (bQ mT rows k).2),[.zarr ts.length (bQ mT rows k).1]⟩):=by
   rw[hst]
   generalize hec:ACode.seq (.region [⟨some (jP mt 12 ts xs), .mv (.tmp 1),none⟩,⟨some 4, .mv (.tmp (jP mt 12 ts xs)),none⟩]) .ret=ec at hend
   have hrep:List.replicate (m+11) (V.tup [])= .tup []:: .tup []:: .tup []:: .tup []::List.replicate (m+7) (.tup []):=rfl
   generalize hlp:ar (aj (ag Φ ext) ar (zh mt ts xs))=lp at a1
   simp only[t0]at a1
   simp only[fm,fw,hec,hrep,aj,ah,az,aI,bg,Opd.ev,put,List.set_cons_succ,List.set_cons_zero,hlp,a1,if_true]
   exact hend
  rw[hrun]
  simp only[tn,D7,fw,aS,av,bx,q3,List.flatMap_cons,List.flatMap_nil,List.append_nil,V.cells,bP,comp,aK,bt,cV,thaw,thawL,List.nil_append,List.length_cons,List.length_nil,Nat.zero_add,List.take_succ_cons,List.take_zero,gg,L.flat,if_true]
  rfl
end
section
variable (mT:Int→List UInt8)
def eY :List PV→Int→List PV×Int
 |[],k=>([],k)
 | .lst rows::ps,k=>(.lst (bQ mT rows k).1::(eY ps (bQ mT rows k).2).1,(eY ps (bQ mT rows k).2).2)
 |p::ps,k=>(p::(eY ps k).1,(eY ps k).2)
end
theorem j6 (mT:Int→List UInt8):∀(a b:List PV)(k:Int),eY mT (a++b) k=((eY mT a k).1++(eY mT b (eY mT a k).2).1,(eY mT b (eY mT a k).2).2)
 |[],b,k=>by simp only[List.nil_append,eY]
 | .lst rows::a,b,k=>by simp only[List.cons_append,eY,j6 mT a b]
 | .int _ _::a,b,k=>by simp only[List.cons_append,eY,j6 mT a b]
 | .bool _::a,b,k=>by simp only[List.cons_append,eY,j6 mT a b]
 | .str _::a,b,k=>by simp only[List.cons_append,eY,j6 mT a b]
theorem lD (mT:Int→List UInt8):∀(a:List PV)(k:Int),k≤(eY mT a k).2
 |[],k=>by simp only[eY];omega
 | .lst rows::a,k=>by
  simp only[eY]
  have:=m8 mT rows k
  have:=lD mT a (bQ mT rows k).2
  omega
 | .int _ _::a,k=>by simp only[eY];exact lD mT a k
 | .bool _::a,k=>by simp only[eY];exact lD mT a k
 | .str _::a,k=>by simp only[eY];exact lD mT a k
def GS :List PTy→List PV→List L
 | .lst us::ts, .lst rows::ps=> .down us.length rows::GS ts ps
 |_::ts,p::ps=> .pv p::GS ts ps
 |_,_=>[]
def gn :List PTy→List PV→List AObj
 | .lst us::ts, .lst rows::ps=> .zarr us.length rows::gn ts ps
 |_::ts,_::ps=>gn ts ps
 |_,_=>[]
def iE :Nat→List PTy→List PV→List L
 |j, .lst us::ts, .lst rows::ps=> .arr j::iE (j+1) ts ps
 |j,_::ts,p::ps=> .pv p::iE j ts ps
 |_,_,_=>[]
def L9 :List PTy→List PV→List (Bool×List L)
 | .lst us::ts, .lst rows::ps=>(false,[.down us.length rows])::L9 ts ps
 |_::ts,_::ps=>L9 ts ps
 |_,_=>[]
theorem fy {P:List PTy→List PV→Prop}(nil:P [] [])(lst:∀us rows ts ps,ni (.lst us) (.lst rows)→ba ts ps→P ts ps→P (.lst us::ts) (.lst rows::ps))(flat:∀t p ts ps,ni t p→t.flatT=true→p.flat=true→ba ts ps→P ts ps→P (t::ts) (p::ps)):∀(ts:List PTy)(ps:List PV),ba ts ps→P ts ps
 |[],ps,h=>by rw[eU h];exact nil
 | .lst us::ts,ps,h=>by
  obtain⟨p,r,rfl,h1,h2⟩:=dw h
  obtain⟨rows,rfl⟩:=mA h1
  exact lst us rows ts r h1 h2 (fy nil lst flat ts r h2)
 | .int κ::ts,ps,h=>by
  obtain⟨p,r,rfl,h1,h2⟩:=dw h
  obtain⟨n,rfl⟩:=kM h1
  exact flat _ _ ts r h1 rfl rfl h2 (fy nil lst flat ts r h2)
 | .bool::ts,ps,h=>by
  obtain⟨p,r,rfl,h1,h2⟩:=dw h
  obtain⟨n,rfl⟩:=jL h1
  exact flat _ _ ts r h1 rfl rfl h2 (fy nil lst flat ts r h2)
 | .str::ts,ps,h=>by
  obtain⟨p,r,rfl,h1,h2⟩:=dw h
  obtain⟨n,rfl⟩:=jl h1
  exact flat _ _ ts r h1 rfl rfl h2 (fy nil lst flat ts r h2)
theorem Hg {t:PTy}{p:PV}{ts:List PTy}{ps:List PV}(ht:t.flatT=true):GS (t::ts) (p::ps)= .pv p::GS ts ps:=by cases t<;>first|rfl|cases ht
theorem gy {t:PTy}{p:PV}{ts:List PTy}{ps:List PV}(ht:t.flatT=true):gn (t::ts) (p::ps)=gn ts ps:=by cases t<;>first|rfl|cases ht
theorem kO {t:PTy}{p:PV}{ts:List PTy}{ps:List PV}{j:Nat}(ht:t.flatT=true):iE j (t::ts) (p::ps)= .pv p::iE j ts ps:=by cases t<;>first|rfl|cases ht
theorem HY {t:PTy}{p:PV}{ts:List PTy}{ps:List PV}(ht:t.flatT=true):L9 (t::ts) (p::ps)=L9 ts ps:=by cases t<;>first|rfl|cases ht
theorem oB (mT:Int→List UInt8){p:PV}{ps:List PV}{k:Int}(hp:p.flat=true):eY mT (p::ps) k=(p::(eY mT ps k).1,(eY mT ps k).2):=by cases p<;>first|rfl|cases hp
theorem Fp {ts:List PTy}{ps:List PV}(h:ba ts ps):∀j,(iE j ts ps).length=ts.length:=by
 refine fy (P:=fun ts ps=>∀j,(iE j ts ps).length=ts.length) (fun j=>rfl) ?_ ?_ ts ps h
 ·intro us rows ts ps _ _ ih j
  simp only[iE,List.length_cons,ih]
 ·intro t p ts ps _ ht hp _ ih j
  rw[kO ht]
  simp only[List.length_cons,ih]
theorem OV {ts:List PTy}{ps:List PV}(h:ba ts ps):∀hh:List AObj,∃ds,thawL hh (GS ts ps)=(iE hh.length ts ps,hh++ds)∧ds.map AObj.zone=gn ts ps:=by
 refine fy (P:=fun ts ps=>∀hh:List AObj,∃ds,thawL hh (GS ts ps)=(iE hh.length ts ps,hh++ds)∧ds.map AObj.zone=gn ts ps) ?_ ?_ ?_ ts ps h
 ·intro hh;exact⟨[],by simp[GS,thawL,iE],rfl⟩
 ·intro us rows ts ps _ _ ih hh
  obtain⟨ds,e1,e2⟩:=ih (hh++[.darr us.length rows])
  refine⟨.darr us.length rows::ds,?_,by simp only[List.map_cons,e2,AObj.zone,gn]⟩
  simp only[GS,thawL,e1,iE,List.length_append,List.length_singleton,List.append_assoc,List.cons_append,List.nil_append]
 ·intro t p ts ps _ ht hp _ ih hh
  obtain⟨ds,e1,e2⟩:=ih hh
  refine⟨ds,?_,by rw[e2,gy ht]⟩
  rw[Hg ht,kO ht]
  simp only[thawL,e1]
theorem Lb {p:PV}(h:p.flat=true):p.bare=true:=by cases p<;>first|rfl|cases h
theorem Kv {ts:List PTy}{ps:List PV}(h:ba ts ps):∀(pre post:List AObj),kE (pre++gn ts ps++post) (iE pre.length ts ps)=some (GS ts ps):=by
 refine fy (P:=fun ts ps=>∀(pre post:List AObj),kE (pre++gn ts ps++post) (iE pre.length ts ps)=some (GS ts ps)) (fun _ _=>rfl) ?_ ?_ ts ps h
 ·intro us rows ts ps _ _ ih pre post
  have:=ih (pre++[.zarr us.length rows]) post
  simp only[List.length_append,List.length_singleton,List.append_assoc,List.cons_append,List.nil_append]at this
  have hg:(pre++(AObj.zarr us.length rows::(gn ts ps++post)))[pre.length]? =some (.zarr us.length rows):=by
   rw[List.getElem?_append_right (Nat.le_refl _),Nat.sub_self];rfl
  simp only[gn,iE,GS,List.append_assoc,List.cons_append,kE,wt,hg,this]
 ·intro t p ts ps _ ht hp _ ih pre post
  rw[Hg ht,kO ht,gy ht]
  have hb:PV.bare _=true:=Lb hp
  simp only[kE,wt,hb,if_true,ih pre post]
theorem Ol {ts:List PTy}{ps:List PV}(h:ba ts ps):∀(j:Nat),(ai (iE j ts ps)).Nodup∧∀o∈ai (iE j ts ps),j≤o:=by
 refine fy (P:=fun ts ps=>∀(j:Nat),(ai (iE j ts ps)).Nodup∧∀o∈ai (iE j ts ps),j≤o) (fun j=>⟨List.nodup_nil,fun o ho=>by cases ho⟩) ?_ ?_ ts ps h
 ·intro us rows ts ps _ _ ih j
  obtain⟨h1,h2⟩:=ih (j+1)
  have e:ai (iE j (.lst us::ts) (.lst rows::ps))=j::ai (iE (j+1) ts ps):=by simp[iE,ai]
  rw[e]
  refine⟨List.nodup_cons.2 ⟨fun hm=>by have:=h2 _ hm;omega,h1⟩,fun o ho=> ?_⟩
  rcases List.mem_cons.1 ho with rfl|ho
  ·exact Nat.le_refl _
  ·have:=h2 o ho;omega
 ·intro t p ts ps _ ht hp _ ih j
  have e:ai (iE j (t::ts) (p::ps))=ai (iE j ts ps):=by rw[kO ht];simp[ai]
  rw[e];exact ih j
theorem PC (mT:Int→List UInt8){ts:List PTy}{ps:List PV}(h:ba ts ps):∀(pre post:List AObj)(k:Int),jt (pre++gn ts ps++post) (ai (iE pre.length ts ps)) (L9 ts (eY mT ps k).1)=some (pre++gn ts (eY mT ps k).1++post):=by
 refine fy (P:=fun ts ps=>∀(pre post:List AObj)(k:Int),jt (pre++gn ts ps++post) (ai (iE pre.length ts ps)) (L9 ts (eY mT ps k).1)=some (pre++gn ts (eY mT ps k).1++post)) (fun _ _ _=>rfl) ?_ ?_ ts ps h
 ·intro us rows ts ps _ _ ih pre post k
  have:=ih (pre++[.zarr us.length (bQ mT rows k).1]) post (bQ mT rows k).2
  simp only[List.length_append,List.length_singleton,List.append_assoc,List.cons_append,List.nil_append]at this
  have e:ai (iE pre.length (.lst us::ts) (.lst rows::ps))=pre.length::ai (iE (pre.length+1) ts ps):=by simp[iE,ai]
  rw[e]
  simp only[eY,gn,L9,jt,List.append_assoc,List.cons_append]
  rw[List.set_append_right _ _ (Nat.le_refl _),Nat.sub_self,List.set_cons_zero,this]
 ·intro t p ts ps _ ht hp _ ih pre post k
  have e:ai (iE pre.length (t::ts) (p::ps))=ai (iE pre.length ts ps):=by rw[kO ht];simp[ai]
  rw[e,oB mT hp,gy ht,gy ht,HY ht]
  exact ih pre post k
theorem OP (mT:Int→List UInt8){ts:List PTy}{ps:List PV}(h:ba ts ps):∀k,gg (gn ts (eY mT ps k).1)=some (L9 ts (eY mT ps k).1):=by
 refine fy (P:=fun ts ps=>∀k,gg (gn ts (eY mT ps k).1)=some (L9 ts (eY mT ps k).1)) (fun _=>rfl) ?_ ?_ ts ps h
 ·intro us rows ts ps _ _ ih k
  simp only[eY,gn,gg,ih,L9]
 ·intro t p ts ps _ ht hp _ ih k
  rw[oB mT hp,gy ht,HY ht,ih]
theorem Dw (mT:Int→List UInt8){ts:List PTy}{ps:List PV}(h:ba ts ps):∀k,(gn ts (eY mT ps k).1).length=(gn ts ps).length:=by
 refine fy (P:=fun ts ps=>∀k,(gn ts (eY mT ps k).1).length=(gn ts ps).length) (fun _=>rfl) ?_ ?_ ts ps h
 ·intro us rows ts ps _ _ ih k
  simp only[eY,gn,List.length_cons,ih]
 ·intro t p ts ps _ ht hp _ ih k
  rw[oB mT hp,gy ht,gy ht,ih]
theorem GR {ts us:List PTy}{a b:List PV}(h:ba ts a):gn (ts++us) (a++b)=gn ts a++gn us b:=by
 refine fy (P:=fun ts a=>gn (ts++us) (a++b)=gn ts a++gn us b) rfl ?_ ?_ ts a h
 ·intro us rows ts ps _ _ ih
  simp only[List.cons_append,gn,ih]
 ·intro t p ts ps _ ht hp _ ih
  simp only[List.cons_append]
  rw[gy ht,gy ht,ih]
theorem E8 (mT:Int→List UInt8){ts us:List PTy}{a b:List PV}(h:ba ts a):∀k,gn (ts++us) ((eY mT a k).1++b)=gn ts (eY mT a k).1++gn us b:=by
 refine fy (P:=fun ts a=>∀k,gn (ts++us) ((eY mT a k).1++b)=gn ts (eY mT a k).1++gn us b) (fun _=>rfl) ?_ ?_ ts a h
 ·intro us rows ts ps _ _ ih k
  simp only[eY,List.cons_append,gn,ih]
 ·intro t p ts ps _ ht hp _ ih k
  rw[oB mT hp]
  simp only[List.cons_append]
  rw[gy ht,gy ht,ih]
theorem I3 {ts us:List PTy}{a b:List PV}(h:ba ts a):∀j,iE j (ts++us) (a++b)=iE j ts a++iE (j+(gn ts a).length) us b:=by
 refine fy (P:=fun ts a=>∀j,iE j (ts++us) (a++b)=iE j ts a++iE (j+(gn ts a).length) us b) (fun j=>rfl) ?_ ?_ ts a h
 ·intro us rows ts ps _ _ ih j
  simp only[List.cons_append,iE,gn,List.length_cons,ih]
  rw[show j+1+(gn ts ps).length=j+((gn ts ps).length+1) by omega]
 ·intro t p ts ps _ ht hp _ ih j
  simp only[List.cons_append]
  rw[kO ht,kO ht,gy ht,ih]
  rfl
theorem M8 {ts:List PTy}{ps:List PV}(h:ba ts ps):∀j,(iE j ts ps).all plain=true:=by
 refine fy (P:=fun ts ps=>∀j,(iE j ts ps).all plain=true) (fun j=>rfl) ?_ ?_ ts ps h
 ·intro us rows ts ps _ _ ih j
  simp only[iE,List.all_cons,ih,Bool.and_true];rfl
 ·intro t p ts ps _ ht hp _ ih j
  rw[kO ht]
  simp only[List.all_cons,ih,Bool.and_true];rfl
end Gi
