/- Of this proof. -/
import Derived.Test.YtpfadfkomcbecaaGreatGpm
set_option linter.unusedSimpArgs false
set_option linter.unusedVariables false
namespace Gi
open Go Go.RowKit
def la (ops:List AOper):Bool:=ops.all fun o=>o.op.noZ
theorem MI (a b:List AOper):la (a++b)=(la a&&la b):=by simp[la]
theorem D2 (a:AOper)(b:List AOper):la (a::b)=(a.op.noZ&&la b):=by simp[la]
theorem zR :∀(p:List Nat)(c:Nat),la (qr c p)=true
 |[],c=>rfl
 |d::ds,c=>by simp only[qr,D2,zR ds,AOp.noZ,Bool.and_self]
theorem Q5 (mt c:Nat)(t:PTy):la (uf mt c t)=true:=by
 cases t with
 |int κ=>cases κ<;>rfl
 |_=>rfl
theorem PZ (z mt c:Nat)(t:PTy)(x:MC):∀r∈Ma z mt c t x,la r=true:=by
 have nil:la []=true:=rfl
 have hS:∀t,∀r∈Cp z mt c t x,la r=true:=by
  intro t r hr
  simp only[Cp,List.mem_cons,List.not_mem_nil,or_false]at hr
  rcases hr with rfl|rfl
  ·simp only[MG,List.cons_append,List.nil_append,D2,MI,Q5,zR,AOp.noZ,nil,Bool.and_self]
  ·rfl
 have hT:∀r∈Gd z c x,la r=true:=by
  intro r hr
  simp only[Gd,List.mem_cons,List.not_mem_nil,or_false]at hr
  subst hr
  simp only[MG,List.cons_append,List.nil_append,D2,MI,zR,AOp.noZ,nil,Bool.and_self]
 cases t<;>first|exact hT|exact hS _
theorem MJ (z mt:Nat):∀(ts:List PTy)(xs:List MC)(c:Nat),∀r∈Om z mt c ts xs,la r=true
 |[],xs,c,r,hr=>by cases xs<;>cases hr
 |t::ts,[],c,r,hr=>by cases hr
 |t::ts,x::xs,c,r,hr=>by
  simp only[Om,List.mem_append]at hr
  rcases hr with hr|hr
  ·exact PZ z mt c t x r hr
  ·exact MJ z mt ts xs _ r hr
theorem JG :∀(rs:List (List AOper)),(∀r∈rs,la r=true)→(LC rs).noZ=true
 |[],_=>rfl
 |[a],h=>h a (by simp)
 |a::b::r,h=>by
  have h1:=h a (by simp)
  have h2:=JG (b::r) (fun x m=>h x (by simp only[List.mem_cons]at m⊢;exact .inr m))
  simp only[LC,ACode.noZ,h2,Bool.and_true]
  exact h1
theorem JF (mt:Nat)(ts:List PTy)(xs:List MC):(fB mt ts xs).body.noZ=true:=by
 have:=JG _ (MJ ts.length mt ts xs 12)
 simp only[fB,AB,PD,Hq,ACode.noZ,this,Bool.and_true,Bool.true_and]
 rfl
section
variable {Φ:Nat→Option AFn}{ext:Nat→List V→Option V}{mT:Int→List UInt8}{mt:Nat}
theorem eG (hT:AW Φ ext mT mt){f:Nat}{ts:List PTy}{xs:List MC}(hk:Φ f=some (fB mt ts xs))(hn:Φ (f+jN)=none)(hm:F6 Φ ext mT 0 ts xs):oB Φ ext mT f ts:=by
 have hN:=Cb (mt:=mt) ts xs 12
 obtain⟨m,hm'⟩:∃m,kg mt 12 ts xs+1-2=m+11:=⟨kg mt 12 ts xs-12,by omega⟩
 constructor
 ·intro k
  refine sp hn hk (JF mt ts xs) ?_
  have e0:asList (lent []) (bu [])=some []:=rfl
  have hrun:∃t',ft Φ ext (fB mt ts xs).body (io (fB mt ts xs) [bu [],aa .i64 k])=some (.ret,⟨t',[]⟩)∧t'.getD 4 (.tup [])=aa .i64 k:=by
   have hst:io (fB mt ts xs) [bu [],aa .i64 k]=⟨bu []::aa .i64 k::List.replicate (m+11) (.tup []),[]⟩:=by
    simp only[io,dh,thaw,thawL,fB,List.length_cons,List.length_nil,List.map_nil,List.cons_append,List.nil_append,hm']
   rw[hst]
   have hl:(bu []::aa .i64 k::List.replicate (m+11) (V.tup [])).length=kg mt 12 ts xs+1:=by simp;omega
   generalize hlp:av (aj (ag Φ ext) av (AB mt ts xs))=lp
   have hloop:∀u2 u3 u4 u6 u7 u8 u9(r:List V),lp ⟨bu []::aa .i64 k::u2::u3::u4::aa .i64 0::u6::u7::u8::u9::r,[]⟩=some (.exit 0,⟨bu []::aa .i64 k::u2::u3::u4::aa .i64 0::aa .i64 0::bu []::aa .i64 0::ar false::r,[]⟩):=by
    intro u2 u3 u4 u6 u7 u8 u9 r
    rw[←hlp]
    refine gC ?_ (by simp)
    simp[AB,PD,aj,ah,az,aH,bf,Opd.ev,put,e0,bin,bM,isBool]
   have hrep:List.replicate (m+11) (V.tup [])= .tup []:: .tup []:: .tup []:: .tup []:: .tup []:: .tup []:: .tup []:: .tup []::List.replicate (m+3) (.tup []):=rfl
   rw[hrep]at hl⊢
   let w:List V:=bu []::aa .i64 k:: .tup []:: .tup []::aa .i64 0::aa .i64 0::aa .i64 0::bu []::aa .i64 0::ar false::List.replicate (m+3) (.tup [])
   have hwl:w.length=kg mt 12 ts xs+1:=by simp only[w,List.length_cons,List.length_replicate]at hl⊢;omega
   have q1:w.getD 1 (.tup [])=aa .i64 k:=rfl
   have q2:(w.set (kg mt 12 ts xs) (aa .i64 k)).getD (kg mt 12 ts xs) (.tup [])=aa .i64 k:=aB (by omega)
   refine⟨(w.set (kg mt 12 ts xs) (aa .i64 k)).set 4 (aa .i64 k),?_,aB (by simp;omega)⟩
   have hend:aj (ag Φ ext) av (.seq (.region [⟨some (kg mt 12 ts xs), .mv (.tmp 1),none⟩,⟨some 4, .mv (.tmp (kg mt 12 ts xs)),none⟩]) .ret) ⟨w,[]⟩=some (.ret,⟨(w.set (kg mt 12 ts xs) (aa .i64 k)).set 4 (aa .i64 k),[]⟩):=by
    simp only[aj,ah,az,aH,bf,Opd.ev,q1,put,q2]
   generalize hec:ACode.seq (.region [⟨some (kg mt 12 ts xs), .mv (.tmp 1),none⟩,⟨some 4, .mv (.tmp (kg mt 12 ts xs)),none⟩]) .ret=ec at hend
   simp only[ft,fB,hec,aj,ah,az,aH,bf,Opd.ev,put,List.set_cons_succ,List.set_cons_zero,hlp,hloop,if_true]
   exact hend
  obtain⟨t',r1,r2⟩:=hrun
  rw[r1]
  simp only[uk,FB,fB,aV,au,bE,r2,List.flatMap_cons,List.flatMap_nil,List.append_nil,V.cells,bN,comp,aK,bq,dh,thaw,thawL,List.length_nil,List.take_zero,gy,L.flat,if_true]
  rfl
 ·intro rows h k h0 hk2
  obtain⟨hl1,hr⟩:=aL h
  refine sp hn hk (JF mt ts xs) ?_
  have hst:io (fB mt ts xs) [.one (.down ts.length rows),aa .i64 k]=⟨.one (.arr 0)::aa .i64 k::List.replicate (m+11) (.tup []),[.zarr ts.length rows]⟩:=by
   simp only[io,dh,thaw,thawL,fB,List.length_cons,List.length_nil,List.map_cons,List.map_nil,List.cons_append,List.nil_append,AObj.zone,hm']
  let t0:List V:= .one (.arr 0)::aa .i64 k:: .tup []:: .tup []::aa .i64 0::aa .i64 0::List.replicate (m+7) (.tup [])
  have hl0:t0.length=kg mt 12 ts xs+1:=by simp[t0];omega
  obtain⟨t',a1,a2,a3⟩:=Od hT hm rows [] k t0 ⟨rfl,rfl,rfl⟩ hr h0 hk2 (by simpa using hl1) (by omega)
  simp only[List.nil_append]at a1
  have q1:t'.getD 1 (.tup [])=aa .i64 (bR mT rows k).2:=getD_some a3
  have q2:(t'.set (kg mt 12 ts xs) (aa .i64 (bR mT rows k).2)).getD (kg mt 12 ts xs) (.tup [])=aa .i64 (bR mT rows k).2:=aB (by omega)
  have hend:aj (ag Φ ext) av (.seq (.region [⟨some (kg mt 12 ts xs), .mv (.tmp 1),none⟩,⟨some 4, .mv (.tmp (kg mt 12 ts xs)),none⟩]) .ret) ⟨t',[.zarr ts.length (bR mT rows k).1]⟩=some (.ret,⟨(t'.set (kg mt 12 ts xs) (aa .i64 (bR mT rows k).2)).set 4 (aa .i64 (bR mT rows k).2),[.zarr ts.length (bR mT rows k).1]⟩):=by
   simp only[aj,ah,az,aH,bf,Opd.ev,q1,put,q2]
  have q3:((t'.set (kg mt 12 ts xs) (aa .i64 (bR mT rows k).2)).set 4 (aa .i64 (bR mT rows k).2)).getD 4 (.tup [])=aa .i64 (bR mT rows k).2:=aB (by simp;omega)
  have hrun:ft Φ ext (fB mt ts xs).body (io (fB mt ts xs) [.one (.down ts.length rows),aa .i64 k])=some (.ret,⟨(t'.set (kg mt 12 ts xs) (aa .i64 (bR mT rows k).2)).set 4 (aa .i64 (bR mT rows k).2),[.zarr ts.length (bR mT rows k).1]⟩):=by
   rw[hst]
   generalize hec:ACode.seq (.region [⟨some (kg mt 12 ts xs), .mv (.tmp 1),none⟩,⟨some 4, .mv (.tmp (kg mt 12 ts xs)),none⟩]) .ret=ec at hend
   have hrep:List.replicate (m+11) (V.tup [])= .tup []:: .tup []:: .tup []:: .tup []::List.replicate (m+7) (.tup []):=rfl
   generalize hlp:av (aj (ag Φ ext) av (AB mt ts xs))=lp at a1
   simp only[t0]at a1
   simp only[ft,fB,hec,hrep,aj,ah,az,aH,bf,Opd.ev,put,List.set_cons_succ,List.set_cons_zero,hlp,a1,if_true]
   exact hend
  rw[hrun]
  simp only[uk,FB,fB,aV,au,bE,q3,List.flatMap_cons,List.flatMap_nil,List.append_nil,V.cells,bN,comp,aK,bq,dh,thaw,thawL,List.nil_append,List.length_cons,List.length_nil,Nat.zero_add,List.take_succ_cons,List.take_zero,gy,L.flat,if_true]
  rfl
end
section
variable (mT:Int→List UInt8)
def eX :List PV→Int→List PV×Int
 |[],k=>([],k)
 | .lst rows::ps,k=>(.lst (bR mT rows k).1::(eX ps (bR mT rows k).2).1,(eX ps (bR mT rows k).2).2)
 |p::ps,k=>(p::(eX ps k).1,(eX ps k).2)
end
theorem kG (mT:Int→List UInt8):∀(a b:List PV)(k:Int),eX mT (a++b) k=((eX mT a k).1++(eX mT b (eX mT a k).2).1,(eX mT b (eX mT a k).2).2)
 |[],b,k=>by simp only[List.nil_append,eX]
 | .lst rows::a,b,k=>by simp only[List.cons_append,eX,kG mT a b]
 | .int _ _::a,b,k=>by simp only[List.cons_append,eX,kG mT a b]
 | .bool _::a,b,k=>by simp only[List.cons_append,eX,kG mT a b]
 | .str _::a,b,k=>by simp only[List.cons_append,eX,kG mT a b]
theorem mn (mT:Int→List UInt8):∀(a:List PV)(k:Int),k≤(eX mT a k).2
 |[],k=>by simp only[eX];omega
 | .lst rows::a,k=>by
  simp only[eX]
  have:=nR mT rows k
  have:=mn mT a (bR mT rows k).2
  omega
 | .int _ _::a,k=>by simp only[eX];exact mn mT a k
 | .bool _::a,k=>by simp only[eX];exact mn mT a k
 | .str _::a,k=>by simp only[eX];exact mn mT a k
def Ix :List PTy→List PV→List L
 | .lst us::ts, .lst rows::ps=> .down us.length rows::Ix ts ps
 |_::ts,p::ps=> .pv p::Ix ts ps
 |_,_=>[]
def gF :List PTy→List PV→List AObj
 | .lst us::ts, .lst rows::ps=> .zarr us.length rows::gF ts ps
 |_::ts,_::ps=>gF ts ps
 |_,_=>[]
def iU :Nat→List PTy→List PV→List L
 |j, .lst us::ts, .lst rows::ps=> .arr j::iU (j+1) ts ps
 |j,_::ts,p::ps=> .pv p::iU j ts ps
 |_,_,_=>[]
def Og :List PTy→List PV→List (Bool×List L)
 | .lst us::ts, .lst rows::ps=>(false,[.down us.length rows])::Og ts ps
 |_::ts,_::ps=>Og ts ps
 |_,_=>[]
theorem fC {P:List PTy→List PV→Prop}(nil:P [] [])(lst:∀us rows ts ps,nv (.lst us) (.lst rows)→aZ ts ps→P ts ps→P (.lst us::ts) (.lst rows::ps))(flat:∀t p ts ps,nv t p→t.flatT=true→p.flat=true→aZ ts ps→P ts ps→P (t::ts) (p::ps)):∀(ts:List PTy)(ps:List PV),aZ ts ps→P ts ps
 |[],ps,h=>by rw[fm h];exact nil
 | .lst us::ts,ps,h=>by
  obtain⟨p,r,rfl,h1,h2⟩:=dI h
  obtain⟨rows,rfl⟩:=ng h1
  exact lst us rows ts r h1 h2 (fC nil lst flat ts r h2)
 | .int κ::ts,ps,h=>by
  obtain⟨p,r,rfl,h1,h2⟩:=dI h
  obtain⟨n,rfl⟩:=km h1
  exact flat _ _ ts r h1 rfl rfl h2 (fC nil lst flat ts r h2)
 | .bool::ts,ps,h=>by
  obtain⟨p,r,rfl,h1,h2⟩:=dI h
  obtain⟨n,rfl⟩:=j9 h1
  exact flat _ _ ts r h1 rfl rfl h2 (fC nil lst flat ts r h2)
 | .str::ts,ps,h=>by
  obtain⟨p,r,rfl,h1,h2⟩:=dI h
  obtain⟨n,rfl⟩:=lu h1
  exact flat _ _ ts r h1 rfl rfl h2 (fC nil lst flat ts r h2)
theorem IX {t:PTy}{p:PV}{ts:List PTy}{ps:List PV}(ht:t.flatT=true):Ix (t::ts) (p::ps)= .pv p::Ix ts ps:=by cases t<;>first|rfl|cases ht
theorem gO {t:PTy}{p:PV}{ts:List PTy}{ps:List PV}(ht:t.flatT=true):gF (t::ts) (p::ps)=gF ts ps:=by cases t<;>first|rfl|cases ht
theorem ly {t:PTy}{p:PV}{ts:List PTy}{ps:List PV}{j:Nat}(ht:t.flatT=true):iU j (t::ts) (p::ps)= .pv p::iU j ts ps:=by cases t<;>first|rfl|cases ht
theorem JH {t:PTy}{p:PV}{ts:List PTy}{ps:List PV}(ht:t.flatT=true):Og (t::ts) (p::ps)=Og ts ps:=by cases t<;>first|rfl|cases ht
theorem pk (mT:Int→List UInt8){p:PV}{ps:List PV}{k:Int}(hp:p.flat=true):eX mT (p::ps) k=(p::(eX mT ps k).1,(eX mT ps k).2):=by cases p<;>first|rfl|cases hp
theorem G2 {ts:List PTy}{ps:List PV}(h:aZ ts ps):∀j,(iU j ts ps).length=ts.length:=by
 refine fC (P:=fun ts ps=>∀j,(iU j ts ps).length=ts.length) (fun j=>rfl) ?_ ?_ ts ps h
 ·intro us rows ts ps _ _ ih j
  simp only[iU,List.length_cons,ih]
 ·intro t p ts ps _ ht hp _ ih j
  rw[ly ht]
  simp only[List.length_cons,ih]
theorem Rb {ts:List PTy}{ps:List PV}(h:aZ ts ps):∀hh:List AObj,∃ds,thawL hh (Ix ts ps)=(iU hh.length ts ps,hh++ds)∧ds.map AObj.zone=gF ts ps:=by
 refine fC (P:=fun ts ps=>∀hh:List AObj,∃ds,thawL hh (Ix ts ps)=(iU hh.length ts ps,hh++ds)∧ds.map AObj.zone=gF ts ps) ?_ ?_ ?_ ts ps h
 ·intro hh;exact⟨[],by simp[Ix,thawL,iU],rfl⟩
 ·intro us rows ts ps _ _ ih hh
  obtain⟨ds,e1,e2⟩:=ih (hh++[.darr us.length rows])
  refine⟨.darr us.length rows::ds,?_,by simp only[List.map_cons,e2,AObj.zone,gF]⟩
  simp only[Ix,thawL,e1,iU,List.length_append,List.length_singleton,List.append_assoc,List.cons_append,List.nil_append]
 ·intro t p ts ps _ ht hp _ ih hh
  obtain⟨ds,e1,e2⟩:=ih hh
  refine⟨ds,?_,by rw[e2,gO ht]⟩
  rw[IX ht,ly ht]
  simp only[thawL,e1]
theorem Nf {p:PV}(h:p.flat=true):p.bare=true:=by cases p<;>first|rfl|cases h
theorem Mw {ts:List PTy}{ps:List PV}(h:aZ ts ps):∀(pre post:List AObj),k8 (pre++gF ts ps++post) (iU pre.length ts ps)=some (Ix ts ps):=by
 refine fC (P:=fun ts ps=>∀(pre post:List AObj),k8 (pre++gF ts ps++post) (iU pre.length ts ps)=some (Ix ts ps)) (fun _ _=>rfl) ?_ ?_ ts ps h
 ·intro us rows ts ps _ _ ih pre post
  have:=ih (pre++[.zarr us.length rows]) post
  simp only[List.length_append,List.length_singleton,List.append_assoc,List.cons_append,List.nil_append]at this
  have hg:(pre++(AObj.zarr us.length rows::(gF ts ps++post)))[pre.length]? =some (.zarr us.length rows):=by
   rw[List.getElem?_append_right (Nat.le_refl _),Nat.sub_self];rfl
  simp only[gF,iU,Ix,List.append_assoc,List.cons_append,k8,xB,hg,this]
 ·intro t p ts ps _ ht hp _ ih pre post
  rw[IX ht,ly ht,gO ht]
  have hb:PV.bare _=true:=Nf hp
  simp only[k8,xB,hb,if_true,ih pre post]
theorem QA {ts:List PTy}{ps:List PV}(h:aZ ts ps):∀(j:Nat),(ai (iU j ts ps)).Nodup∧∀o∈ai (iU j ts ps),j≤o:=by
 refine fC (P:=fun ts ps=>∀(j:Nat),(ai (iU j ts ps)).Nodup∧∀o∈ai (iU j ts ps),j≤o) (fun j=>⟨List.nodup_nil,fun o ho=>by cases ho⟩) ?_ ?_ ts ps h
 ·intro us rows ts ps _ _ ih j
  obtain⟨h1,h2⟩:=ih (j+1)
  have e:ai (iU j (.lst us::ts) (.lst rows::ps))=j::ai (iU (j+1) ts ps):=by simp[iU,ai]
  rw[e]
  refine⟨List.nodup_cons.2 ⟨fun hm=>by have:=h2 _ hm;omega,h1⟩,fun o ho=> ?_⟩
  rcases List.mem_cons.1 ho with rfl|ho
  ·exact Nat.le_refl _
  ·have:=h2 o ho;omega
 ·intro t p ts ps _ ht hp _ ih j
  have e:ai (iU j (t::ts) (p::ps))=ai (iU j ts ps):=by rw[ly ht];simp[ai]
  rw[e];exact ih j
theorem RX (mT:Int→List UInt8){ts:List PTy}{ps:List PV}(h:aZ ts ps):∀(pre post:List AObj)(k:Int),jP (pre++gF ts ps++post) (ai (iU pre.length ts ps)) (Og ts (eX mT ps k).1)=some (pre++gF ts (eX mT ps k).1++post):=by
 refine fC (P:=fun ts ps=>∀(pre post:List AObj)(k:Int),jP (pre++gF ts ps++post) (ai (iU pre.length ts ps)) (Og ts (eX mT ps k).1)=some (pre++gF ts (eX mT ps k).1++post)) (fun _ _ _=>rfl) ?_ ?_ ts ps h
 ·intro us rows ts ps _ _ ih pre post k
  have:=ih (pre++[.zarr us.length (bR mT rows k).1]) post (bR mT rows k).2
  simp only[List.length_append,List.length_singleton,List.append_assoc,List.cons_append,List.nil_append]at this
  have e:ai (iU pre.length (.lst us::ts) (.lst rows::ps))=pre.length::ai (iU (pre.length+1) ts ps):=by simp[iU,ai]
  rw[e]
  simp only[eX,gF,Og,jP,List.append_assoc,List.cons_append]
  rw[List.set_append_right _ _ (Nat.le_refl _),Nat.sub_self,List.set_cons_zero,this]
 ·intro t p ts ps _ ht hp _ ih pre post k
  have e:ai (iU pre.length (t::ts) (p::ps))=ai (iU pre.length ts ps):=by rw[ly ht];simp[ai]
  rw[e,pk mT hp,gO ht,gO ht,JH ht]
  exact ih pre post k
theorem Q8 (mT:Int→List UInt8){ts:List PTy}{ps:List PV}(h:aZ ts ps):∀k,gy (gF ts (eX mT ps k).1)=some (Og ts (eX mT ps k).1):=by
 refine fC (P:=fun ts ps=>∀k,gy (gF ts (eX mT ps k).1)=some (Og ts (eX mT ps k).1)) (fun _=>rfl) ?_ ?_ ts ps h
 ·intro us rows ts ps _ _ ih k
  simp only[eX,gF,gy,ih,Og]
 ·intro t p ts ps _ ht hp _ ih k
  rw[pk mT hp,gO ht,JH ht,ih]
theorem EQ (mT:Int→List UInt8){ts:List PTy}{ps:List PV}(h:aZ ts ps):∀k,(gF ts (eX mT ps k).1).length=(gF ts ps).length:=by
 refine fC (P:=fun ts ps=>∀k,(gF ts (eX mT ps k).1).length=(gF ts ps).length) (fun _=>rfl) ?_ ?_ ts ps h
 ·intro us rows ts ps _ _ ih k
  simp only[eX,gF,List.length_cons,ih]
 ·intro t p ts ps _ ht hp _ ih k
  rw[pk mT hp,gO ht,gO ht,ih]
theorem Iw {ts us:List PTy}{a b:List PV}(h:aZ ts a):gF (ts++us) (a++b)=gF ts a++gF us b:=by
 refine fC (P:=fun ts a=>gF (ts++us) (a++b)=gF ts a++gF us b) rfl ?_ ?_ ts a h
 ·intro us rows ts ps _ _ ih
  simp only[List.cons_append,gF,ih]
 ·intro t p ts ps _ ht hp _ ih
  simp only[List.cons_append]
  rw[gO ht,gO ht,ih]
theorem GK (mT:Int→List UInt8){ts us:List PTy}{a b:List PV}(h:aZ ts a):∀k,gF (ts++us) ((eX mT a k).1++b)=gF ts (eX mT a k).1++gF us b:=by
 refine fC (P:=fun ts a=>∀k,gF (ts++us) ((eX mT a k).1++b)=gF ts (eX mT a k).1++gF us b) (fun _=>rfl) ?_ ?_ ts a h
 ·intro us rows ts ps _ _ ih k
  simp only[eX,List.cons_append,gF,ih]
 ·intro t p ts ps _ ht hp _ ih k
  rw[pk mT hp]
  simp only[List.cons_append]
  rw[gO ht,gO ht,ih]
theorem KR {ts us:List PTy}{a b:List PV}(h:aZ ts a):∀j,iU j (ts++us) (a++b)=iU j ts a++iU (j+(gF ts a).length) us b:=by
 refine fC (P:=fun ts a=>∀j,iU j (ts++us) (a++b)=iU j ts a++iU (j+(gF ts a).length) us b) (fun j=>rfl) ?_ ?_ ts a h
 ·intro us rows ts ps _ _ ih j
  simp only[List.cons_append,iU,gF,List.length_cons,ih]
  rw[show j+1+(gF ts ps).length=j+((gF ts ps).length+1) by omega]
 ·intro t p ts ps _ ht hp _ ih j
  simp only[List.cons_append]
  rw[ly ht,ly ht,gO ht,ih]
  rfl
theorem Pi {ts:List PTy}{ps:List PV}(h:aZ ts ps):∀j,(iU j ts ps).all plain=true:=by
 refine fC (P:=fun ts ps=>∀j,(iU j ts ps).all plain=true) (fun j=>rfl) ?_ ?_ ts ps h
 ·intro us rows ts ps _ _ ih j
  simp only[iU,List.all_cons,ih,Bool.and_true];rfl
 ·intro t p ts ps _ ht hp _ ih j
  rw[ly ht]
  simp only[List.all_cons,ih,Bool.and_true];rfl
inductive MS where
 |k (ts:List PTy)
 |s (ts:List PTy) (f:Nat)
 |l (us:List PTy) (f:Nat)
def MS.ts :MS→List PTy
 | .k ts=>ts
 | .s ts _=>ts
 | .l us _=>[.lst us]
def gx :List MS→List PTy
 |[]=>[]
 |s::ss=>s.ts++gx ss
def SK (c off:Nat)(g:Bool)(n f:Nat):List AOper:=[⟨some c, .fieldA (.tmp 2) off,none⟩,⟨some (c+1), .loadZ g n (.tmp c),none⟩,⟨some (c+2), .mv (.tmp 1),none⟩,⟨some (c+3), .callM f (.tmp (c+1)) (.tmp (c+2)),none⟩,⟨some 1, .mv (.tmp (c+3)),none⟩]
def OU :Nat→Nat→List MS→ACode
 |c,_,[]=> .seq (.region [⟨some c, .mv (.tmp 1),none⟩,⟨some 4, .mv (.tmp c),none⟩]) .ret
 |c,off, .k ts::ss=>OU c (off+ts.length) ss
 |c,off, .s ts f::ss=> .seq (.region (SK c off true ts.length f)) (OU (c+4) (off+ts.length) ss)
 |c,off, .l _ f::ss=> .seq (.region (SK c off false 1 f)) (OU (c+4) (off+1) ss)
def OV :Nat→List MS→Nat
 |c,[]=>c
 |c, .k _::ss=>OV c ss
 |c,_::ss=>OV (c+4) ss
def pT (ss:List MS):AFn:=⟨OV 5 ss+1,[.tmp 4], .seq (.region [⟨some 2, .box (.tmp 0),none⟩,⟨some 4, .mv (.pv (.int .i64 0)),none⟩]) (OU 5 0 ss)⟩
theorem B9 :∀(ss:List MS)(c off:Nat),(OU c off ss).noZ=true
 |[],c,off=>rfl
 | .k ts::ss,c,off=>B9 ss c _
 | .s ts f::ss,c,off=>by simp only[OU,ACode.noZ,B9 ss,Bool.and_true];rfl
 | .l us f::ss,c,off=>by simp only[OU,ACode.noZ,B9 ss,Bool.and_true];rfl
theorem zQ :∀(ss:List MS)(c:Nat),c≤OV c ss
 |[],c=>Nat.le_refl _
 | .k ts::ss,c=>zQ ss c
 | .s ts f::ss,c=>Nat.le_trans (by omega) (zQ ss (c+4))
 | .l us f::ss,c=>Nat.le_trans (by omega) (zQ ss (c+4))
section
variable {Φ:Nat→Option AFn}{ext:Nat→List V→Option V}{mT:Int→List UInt8}{mt:Nat}
def M7 (Φ:Nat→Option AFn)(ext:Nat→List V→Option V)(mT:Int→List UInt8)(f:Nat)(ts:List PTy):Prop:=
 ∀row:List PV,aZ ts row→∀k:Int,0≤k→(eX mT row k).2≤uB→ag Φ ext (f+jN) [.agg (Ix ts row),aa .i64 k]=some (.tup ((false,[.pv (.int .i64 (eX mT row k).2)])::Og ts (eX mT row k).1))
def IB (Φ:Nat→Option AFn)(ext:Nat→List V→Option V)(mT:Int→List UInt8):List MS→Prop
 |[]=>True
 | .k ts::ss=>ts.all PTy.flatT=true∧IB Φ ext mT ss
 | .s ts f::ss=>M7 Φ ext mT f ts∧IB Φ ext mT ss
 | .l us f::ss=>oB Φ ext mT f us∧IB Φ ext mT ss
theorem Jw {g:Bool}{n f c m:Nat}{C1 C2:List L}{Z1 Z2:List AObj}{ts:List PTy}{x:List PV}{v a:V}{k:Int}{t:List V}(hx:aZ ts x)(h1:t[1]? =some (aa .i64 k))(h2:t[2]? =some (.one (.ptr m 0 0)))(hc:5≤c)(hl:c+3<t.length)
 (hb:(Z1++gF ts x++Z2)[m]? =some (.box (C1++C2))) (hcut:gu g n C1.length (C1++C2)=some v) (hv:v.cells=iU Z1.length ts x) (hsub:∀o c,v≠ .one (.sub o c)) (hlend:sL (Z1++gF ts x++Z2) v=some a) (hcall:ag Φ ext (f+jN) [a,aa .i64 k]=some (.tup ((false,[.pv (.int .i64 (eX mT x k).2)])::Og ts (eX mT x k).1))):
 ∃t',ah (ag Φ ext) (SK c C1.length g n f) ⟨t,Z1++gF ts x++Z2⟩=some ⟨t',Z1++gF ts (eX mT x k).1++Z2⟩∧t'.length=t.length∧t'[1]? =some (aa .i64 (eX mT x k).2)∧t'[2]? =some (.one (.ptr m 0 0)):=by
 have e1:=getD_some h1
 have e2:=getD_some h2
 have q1:(t.set c (V.one (.ptr m 0 C1.length))).getD c (.tup [])= .one (.ptr m 0 C1.length):=aB (by omega)
 have q2:((t.set c (V.one (.ptr m 0 C1.length))).set (c+1) v).getD 1 (.tup [])=aa .i64 k:=(da (by omega)).trans ((da (by omega)).trans e1)
 have q3:(((t.set c (V.one (.ptr m 0 C1.length))).set (c+1) v).set (c+2) (aa .i64 k)).getD (c+1) (.tup [])=v:=(da (by omega)).trans (aB (by simp;omega))
 have q4:(((t.set c (V.one (.ptr m 0 C1.length))).set (c+1) v).set (c+2) (aa .i64 k)).getD (c+2) (.tup [])=aa .i64 k:=aB (by simp;omega)
 have q5:((((t.set c (V.one (.ptr m 0 C1.length))).set (c+1) v).set (c+2) (aa .i64 k)).set (c+3) (aa .i64 (eX mT x k).2)).getD (c+3) (.tup [])=aa .i64 (eX mT x k).2:=aB (by simp;omega)
 have hnd:(ai v.cells).Nodup:=by rw[hv];exact(QA hx _).1
 have hput:=RX mT hx Z1 Z2 k
 rw[←hv]at hput
 have hM:jW (ag Φ ext) (Z1++gF ts x++Z2) f v k=some (aa .i64 (eX mT x k).2,Z1++gF ts (eX mT x k).1++Z2):=by
  unfold jW
  split
  ·rename_i o cc;exact absurd rfl (hsub o cc)
  ·simp only[hnd,if_true,hlend,hcall,L.flat,hput]
 refine⟨((((t.set c (V.one (.ptr m 0 C1.length))).set (c+1) v).set (c+2) (aa .i64 k)).set (c+3) (aa .i64 (eX mT x k).2)).set 1 (aa .i64 (eX mT x k).2),?_,by simp,List.getElem?_set_self (by simp;omega),by rw[List.getElem?_set_ne (by omega),List.getElem?_set_ne (by omega),List.getElem?_set_ne (by omega),List.getElem?_set_ne (by omega),List.getElem?_set_ne (by omega)];exact h2⟩
 simp only[SK,ah,az,aH,bf,bU,Opd.ev,e2,put,Nat.zero_add,q1,ql,hb,bm,if_true,hcut,q2,q3,q4,hM,q5]
theorem B8 :∀(ss:List MS),IB Φ ext mT ss→∀{c:Nat}{C1:List L}{Z1:List AObj}{b:List PV}{k:Int}{t:List V},aZ (gx ss) b→0≤k→(eX mT b k).2≤uB→t[1]? =some (aa .i64 k)→t[2]? =some (.one (.ptr (Z1.length+(gF (gx ss) b).length) 0 0))→5≤c→OV c ss<t.length→
 ∃t',aj (ag Φ ext) av (OU c C1.length ss) ⟨t,Z1++gF (gx ss) b++[.box (C1++iU Z1.length (gx ss) b)]⟩=some (.ret,⟨t',Z1++gF (gx ss) (eX mT b k).1++[.box (C1++iU Z1.length (gx ss) b)]⟩)∧t'.getD 4 (.tup [])=aa .i64 (eX mT b k).2
 |[],_,c,C1,Z1,b,k,t,hb,h0,hk,h1,h2,hc,hl=>by
  obtain rfl:=fm hb
  simp only[OV]at hl
  have q2:(t.set c (aa .i64 k)).getD c (.tup [])=aa .i64 k:=aB hl
  refine⟨(t.set c (aa .i64 k)).set 4 (aa .i64 k),?_,by simp only[eX];exact aB (by simp;omega)⟩
  simp only[OU,aj,ah,az,aH,bf,Opd.ev,getD_some h1,put,q2,eX]
 | .k ts::ss,hss,c,C1,Z1,b,k,t,hb,h0,hk,h1,h2,hc,hl=>by
  simp only[gx,MS.ts]at hb h2⊢
  obtain⟨x,y,rfl,hx,hy⟩:=j8 (ts:=ts) hb
  have flat:∀{ts:List PTy}{x:List PV},aZ ts x→ts.all PTy.flatT=true→gF ts x=[]∧∀k,eX mT x k=(x,k):=by
   intro ts x h
   refine fC (P:=fun ts x=>ts.all PTy.flatT=true→gF ts x=[]∧∀k,eX mT x k=(x,k)) (fun _=>⟨rfl,fun _=>rfl⟩) ?_ ?_ ts x h
   ·intro us rows ts ps _ _ _ ha
    simp[PTy.flatT]at ha
   ·intro t p ts ps _ ht hp _ ih ha
    simp only[List.all_cons,Bool.and_eq_true]at ha
    obtain⟨i1,i2⟩:=ih ha.2
    exact⟨by rw[gO ht,i1],fun k=>by rw[pk mT hp,i2]⟩
  obtain⟨z0,m0⟩:=flat hx hss.1
  have hm:eX mT (x++y) k=(x++(eX mT y k).1,(eX mT y k).2):=by rw[kG,m0]
  have hlen:(C1++iU Z1.length ts x).length=C1.length+ts.length:=by rw[List.length_append,G2 hx]
  rw[Iw hx,z0,List.nil_append]at h2⊢
  rw[KR hx,z0,hm]
  simp only[hm]at hk
  have hz2:∀y',gF (ts++gx ss) (x++y')=gF (gx ss) y':=fun y'=>by rw[Iw hx,z0,List.nil_append]
  simp only[hz2,List.length_nil,Nat.add_zero]
  obtain⟨t',r1,r2⟩:=B8 ss hss.2 (c:=c) (C1:=C1++iU Z1.length ts x) (Z1:=Z1) hy h0 hk h1 h2 hc hl
  rw[hlen]at r1
  simp only[List.append_assoc]at r1⊢
  exact⟨t',r1,r2⟩
 | .s ts f::ss,hss,c,C1,Z1,b,k,t,hb,h0,hk,h1,h2,hc,hl=>by
  simp only[gx,MS.ts]at hb h2⊢
  obtain⟨x,y,rfl,hx,hy⟩:=j8 (ts:=ts) hb
  have hN:=zQ ss (c+4)
  simp only[OV]at hl
  simp only[kG]at hk
  have hle:=mn mT y (eX mT x k).2
  have hlx:=mn mT x k
  have hcl:=G2 hx Z1.length
  rw[Iw hx]at h2⊢
  rw[KR hx]
  simp only[kG,GK mT hx]
  generalize hC2:iU (Z1.length+(gF ts x).length) (gx ss) y=C2
  generalize hB:[AObj.box (C1++(iU Z1.length ts x++C2))]=B
  have hcut:gu true ts.length C1.length (C1++(iU Z1.length ts x++C2))=some (.agg (iU Z1.length ts x)):=by
   unfold gu
   rw[if_pos (by simp[hcl]),if_pos rfl,List.drop_left,←hcl,List.take_left]
  obtain⟨t1,a1,a2,a3,a4⟩:=Jw (Φ:=Φ) (ext:=ext) (mT:=mT) (g:=true) (n:=ts.length) (f:=f) (c:=c) (m:=Z1.length+(gF ts x++gF (gx ss) y).length) (C1:=C1) (C2:=iU Z1.length ts x++C2) (Z1:=Z1) (Z2:=gF (gx ss) y++B) (v:= .agg (iU Z1.length ts x)) (a:= .agg (Ix ts x)) hx h1 h2 hc (by omega) (by
   rw[←hB]
   have:Z1++gF ts x++(gF (gx ss) y++[AObj.box (C1++(iU Z1.length ts x++C2))])=(Z1++(gF ts x++gF (gx ss) y))++[AObj.box (C1++(iU Z1.length ts x++C2))]:=by simp
   rw[this,List.getElem?_append_right (by simp)]
   simp) hcut rfl (fun _ _ h=>by cases h) (by
   have:=Mw hx Z1 (gF (gx ss) y++B)
   simp only[sL,this]) (hss.1 x hx k h0 (by omega))
  obtain⟨t2,b1,b2⟩:=B8 ss hss.2 (c:=c+4) (C1:=C1++iU Z1.length ts x) (Z1:=Z1++gF ts (eX mT x k).1) (b:=y) (k:=(eX mT x k).2) (t:=t1) hy (by omega) hk a3 (by rw[a4];simp only[List.length_append,EQ mT hx];congr 3;omega) (by omega) (by omega)
  refine⟨t2,?_,b2⟩
  have hlen:(C1++iU Z1.length ts x).length=C1.length+ts.length:=by rw[List.length_append,hcl]
  have hpos:(Z1++gF ts (eX mT x k).1).length=Z1.length+(gF ts x).length:=by rw[List.length_append,EQ mT hx]
  rw[hlen,hpos,hC2]at b1
  simp only[OU,aj,List.append_assoc]at a1 b1⊢
  rw[hB]at b1
  rw[a1]
  exact b1
 | .l us f::ss,hss,c,C1,Z1,b,k,t,hb,h0,hk,h1,h2,hc,hl=>by
  simp only[gx,MS.ts]at hb h2⊢
  obtain⟨x,y,rfl,hx,hy⟩:=j8 (ts:=[.lst us]) hb
  have hN:=zQ ss (c+4)
  simp only[OV]at hl
  simp only[kG]at hk
  have hle:=mn mT y (eX mT x k).2
  have hlx:=mn mT x k
  have hcl:=G2 hx Z1.length
  have hx':=hx
  obtain⟨p,x',rfl,hp,hn⟩:=dI hx'
  obtain rfl:=fm hn
  obtain⟨rows,rfl⟩:=ng hp
  rw[Iw hx]at h2⊢
  rw[KR hx]
  simp only[kG,GK mT hx]
  generalize hC2:iU (Z1.length+(gF [.lst us] [.lst rows]).length) (gx ss) y=C2
  generalize hB:[AObj.box (C1++(iU Z1.length [.lst us] [.lst rows]++C2))]=B
  have hcut:gu false 1 C1.length (C1++(iU Z1.length [.lst us] [.lst rows]++C2))=some (.one (.arr Z1.length)):=by
   simp[gu,iU]
  obtain⟨t1,a1,a2,a3,a4⟩:=Jw (Φ:=Φ) (ext:=ext) (mT:=mT) (g:=false) (n:=1) (f:=f) (c:=c) (m:=Z1.length+(gF [.lst us] [.lst rows]++gF (gx ss) y).length) (C1:=C1) (C2:=iU Z1.length [.lst us] [.lst rows]++C2) (Z1:=Z1) (Z2:=gF (gx ss) y++B) (v:= .one (.arr Z1.length)) (a:= .one (.down us.length rows)) hx h1 h2 hc (by omega) (by
   rw[←hB]
   have:Z1++gF [.lst us] [.lst rows]++(gF (gx ss) y++[AObj.box (C1++(iU Z1.length [.lst us] [.lst rows]++C2))])=(Z1++(gF [.lst us] [.lst rows]++gF (gx ss) y))++[AObj.box (C1++(iU Z1.length [.lst us] [.lst rows]++C2))]:=by simp
   rw[this,List.getElem?_append_right (by simp)]
   simp) hcut rfl (fun _ _ h=>by cases h) (by
   have:=Mw hx Z1 (gF (gx ss) y++B)
   simp only[iU,Ix,k8]at this
   split at this
   ·rename_i a b h1 h2
    cases this
    cases h2
    simp only[sL,h1]
   ·cases this) (by
   simp only[eX]at hle hlx hk⊢
   exact hss.1.2 rows hp k h0 (by omega))
  obtain⟨t2,b1,b2⟩:=B8 ss hss.2 (c:=c+4) (C1:=C1++iU Z1.length [.lst us] [.lst rows]) (Z1:=Z1++gF [.lst us] (eX mT [.lst rows] k).1) (b:=y) (k:=(eX mT [.lst rows] k).2) (t:=t1) hy (by omega) hk a3 (by rw[a4];simp only[List.length_append,EQ mT hx];congr 3;omega) (by omega) (by omega)
  refine⟨t2,?_,b2⟩
  have hlen:(C1++iU Z1.length [.lst us] [.lst rows]).length=C1.length+1:=by rw[List.length_append,hcl];rfl
  have hpos:(Z1++gF [.lst us] (eX mT [.lst rows] k).1).length=Z1.length+(gF [.lst us] [.lst rows]).length:=by rw[List.length_append,EQ mT hx]
  rw[hlen,hpos,hC2]at b1
  simp only[OU,aj,List.append_assoc]at a1 b1⊢
  rw[hB]at b1
  rw[a1]
  exact b1
theorem xF {f:Nat}{ss:List MS}(hk:Φ f=some (pT ss))(hn:Φ (f+jN)=none)(hss:IB Φ ext mT ss):M7 Φ ext mT f (gx ss):=by
 intro row hr k h0 hk2
 have hN:=zQ ss 5
 obtain⟨m,hm⟩:∃m,OV 5 ss+1-2=m+4:=⟨OV 5 ss-5,by omega⟩
 have hz:(pT ss).body.noZ=true:=by
  simp only[pT,ACode.noZ,B9,Bool.and_true]
  rfl
 refine sp hn hk hz ?_
 obtain⟨ds,d1,d2⟩:=Rb hr []
 simp only[List.length_nil,List.nil_append]at d1
 have hA:dh [] [.agg (Ix (gx ss) row),aa .i64 k]=([.agg (iU 0 (gx ss) row),aa .i64 k],ds):=by
  simp only[dh,thaw,d1,thawL]
 have hst:io (pT ss) [.agg (Ix (gx ss) row),aa .i64 k]=⟨.agg (iU 0 (gx ss) row)::aa .i64 k::List.replicate (m+4) (.tup []),gF (gx ss) row⟩:=by
  simp only[io,hA,d2,pT,List.length_cons,List.length_nil,List.cons_append,List.nil_append,hm]
 have hlen:ds.length=(gF (gx ss) row).length:=by rw[←d2];simp
 let t0:List V:= .agg (iU 0 (gx ss) row)::aa .i64 k:: .one (.ptr (gF (gx ss) row).length 0 0):: .tup []::aa .i64 0::List.replicate (m+1) (.tup [])
 have hl0:t0.length=OV 5 ss+1:=by simp[t0];omega
 obtain⟨t',a1,a2⟩:=B8 (Φ:=Φ) (ext:=ext) ss hss (c:=5) (C1:=[]) (Z1:=[]) (b:=row) (k:=k) (t:=t0) hr h0 hk2 rfl (by simp[t0]) (Nat.le_refl _) (by omega)
 simp only[List.length_nil,List.nil_append]at a1
 have hrun:ft Φ ext (pT ss).body (io (pT ss) [.agg (Ix (gx ss) row),aa .i64 k])=some (.ret,⟨t',gF (gx ss) (eX mT row k).1++[.box (iU 0 (gx ss) row)]⟩):=by
  rw[hst]
  have hrep:List.replicate (m+4) (V.tup [])= .tup []:: .tup []:: .tup []::List.replicate (m+1) (.tup []):=rfl
  simp only[t0]at a1
  simp only[ft,pT,hrep,aj,ah,az,aH,bf,bU,Opd.ev,put,List.getD_cons_zero,V.cells,Pi hr,if_true,List.set_cons_succ,List.set_cons_zero]
  exact a1
 have htake:(gF (gx ss) (eX mT row k).1++[AObj.box (iU 0 (gx ss) row)]).take ds.length=gF (gx ss) (eX mT row k).1:=by
  rw[hlen,←EQ mT hr k,List.take_left]
 rw[hrun]
 simp only[uk,FB,pT,aV,au,bE,a2,List.flatMap_cons,List.flatMap_nil,List.append_nil,V.cells,bN,comp,aK,bq,hA,htake,Q8 mT hr,L.flat,if_true]
 rfl
end
end Gi
