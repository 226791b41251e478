/- A part. -/
import Derived.Test.YtndiampmpmbfoaaGreatGpa
set_option linter.all false
namespace Gi
open Go Go.RowKit
def OV (z:Nat)(rows:List (List PV)):L:=match rows with
 |[]=> .own z []
 |rows=> .down z rows
def tj (k z:Nat)(es:List (List PV)):Y0:=match k with
 |0=> .arr z es
 |_+1=> .bA z es
def LM {z:Nat}{es:List (List PV)}:tj 0 z es= .arr z es:=rfl
def SZ {k z:Nat}{es:List (List PV)}:tj (k+1) z es= .bA z es:=rfl
def EW {h:List Y0}{k z:Nat}{es:List (List PV)}(h0:h[0]? =some (tj k z es))(hb:k=0->fV es=true):bf h 0=some (z,es):=by
 cases k with
 |zero=>simp only[tj]at h0;simp only[bf,h0,hb rfl,if_true]
 |succ k=>simp only[tj]at h0;simp only[bf,h0]
def EX {h:List Y0}{k z i:Nat}{es:List (List PV)}(h0:h[0]? =some (tj k z es))(hi:i<es.length):aJ h z (.one (.arr 0)) i=some (.one (.ptr 0 i 0)):=by
 cases k with
 |zero=>simp only[tj]at h0;simp[aJ,h0,hi]
 |succ k=>simp only[tj]at h0;simp[aJ,h0,hi]
def LU {m:Nat}{zero:List PV}(hz:zero.all PV.bare=true):fV (List.replicate m zero)=true:=by
 unfold fV
 rw[Zt]
 intro e he
 obtain⟨_,rfl⟩:=List.mem_replicate.1 he
 exact hz
def wu :∀(ls:List L)(h:List Y0),ls.all L.clean=true->ls.all L.closed=true->(thawL h ls).1.all (L.bG (thawL h ls).2)=true
 |[],h,_,_=>by simp[thawL]
 |l::ls,h,hc,hk=>by
  simp only[Zq,Zh]at hc hk
  cases l with
  |own z es=>
   obtain⟨t,ht⟩:=px ls (h++[.arr z es]) hc.2
   have hg:(thawL (h++[Y0.arr z es]) ls).2[h.length]? =some (.arr z es):=by rw[ht];simp
   simp only[thawL,Zq,Zh]
   refine⟨?_,wu ls _ hc.2 hk.2⟩
   simp only[L.bG,hg]
   exact hk.1
  |down z es=>
   obtain⟨t,ht⟩:=px ls (h++[.bA z es]) hc.2
   have hg:(thawL (h++[Y0.bA z es]) ls).2[h.length]? =some (.bA z es):=by rw[ht];simp
   simp only[thawL,Zq,Zh]
   refine⟨?_,wu ls _ hc.2 hk.2⟩
   simp only[L.bG,hg]
  |pv p=>
   simp only[thawL,Zq,Zh]
   exact⟨hk.1,wu ls _ hc.2 hk.2⟩
  |nil=>
   simp only[thawL,Zq,Zh]
   exact⟨rfl,wu ls _ hc.2 hk.2⟩
  |_=>simp[L.closed]at hk
def Dh {t:PTy}{p:PV}(h:oq t p):(yO t p).closed=true:=by
 cases t with
 |int k=>obtain⟨n,rfl⟩:=mp h;rfl
 |bool=>obtain⟨n,rfl⟩:=ma h;rfl
 |str=>obtain⟨n,rfl⟩:=lu h;rfl
 |lst us=>
  obtain⟨rows,rfl⟩:=pg h
  cases rows<;>rfl
def vT :∀{ts:List PTy}{ps:List PV},bF ts ps->(iT ts ps).all L.closed=true
 |[],ps,_=>by simp[iT]
 |t::ts,ps,h=>by
  obtain⟨p,r,rfl,h1,h2⟩:=ee h
  simp only[iT,Zq,Dh h1,vT h2,ZU]
def Hj {h':List Y0}{z k:Nat}{es:List (List PV)}{e r:List PV}{ls':List L}(hd:bf h' 0=some (z,es))(aV:0<h'.length)(he:es[k]? =some e)(b2:e.length=z)(hv:viewL h' ls'=some r)(hl:ls'.length=z)(aC:ls'.all (L.bC 0)=true)(hm:ls'.all (L.bG h')=true)(aD:(aj ls').Nodup):
 ∃ab,storeD h' z (.one (.ptr 0 k 0)) (.agg ls')=some (.bA z (es.set k r)::ab):=by
 have b3:r.length=z:=by rw[(oh hv).1];exact hl
 have hlen:(freezeLs h' ls').length=h'.length:=nZ ls'
 cases hf:freezeLs h' ls' with
 |nil=>rw[hf]at hlen;simp at hlen;omega
 |cons x ab=>
  refine⟨ab,?_⟩
  have aW:viewL h' (V.agg ls').cells=some r:=hv
  have key:(V.agg ls').cells.length=z/\ 0+z<=e.length/\ (V.agg ls').cells.all (L.bC 0)=true/\ (V.agg ls').cells.all (L.bG h')=true/\ (aj (V.agg ls').cells).Nodup:=⟨hl,by omega,aC,hm,aD⟩
  simp only[storeD,hd,he,aW]
  rw[if_pos key,GZ e r (by omega)]
  simp only[V.cells,hf]
  rfl
section
variable {Φ:Nat->Option AFn}{ext:Nat->List V->Option V}
def xc (z:Nat)(K:Ks):Y5:= .seq (Je 4 0 8) (.seq (.block 1 (.region [⟨some 14, .mv (.tmp 3),none⟩,⟨some 15, .mv (.tmp 4),none⟩,⟨some 16, .mv (.tmp 0),none⟩,⟨some 17, .mv (.tmp 4),none⟩,⟨some 18, .bF z (.tmp 16) (.tmp 17),none⟩,⟨some 19, .load true z (.tmp 18),none⟩,⟨some 20,L3 K (.tmp 19),none⟩,⟨some 21, .bF z (.tmp 14) (.tmp 15),none⟩,⟨none, .storeD z (.tmp 21) (.tmp 20),none⟩])) (Kj 4 12))
def Lm (bytes z:Nat)(K:Ks)(zero:List PV):AFn:=⟨23,[.tmp 2], .seq (.region [⟨some 2, .mv .nil,none⟩]) (.seq (.region [⟨some 5, .mv (.tmp 0),none⟩,⟨some 6, .len (.tmp 5),none⟩,⟨some 7, .make bytes zero (.tmp 6),none⟩,⟨some 3, .mv (.tmp 7),none⟩]) (.seq (.seq (.region [⟨some 4, .mv (.pv (.int .i64 0)),none⟩]) (.block 0 (.loop (xc z K)))) (.seq (.region [⟨some 22, .mv (.tmp 3),none⟩,⟨some 2, .mv (.tmp 22),none⟩]) .ret)))⟩
def PL (Φ:Nat->Option AFn)(ext:Nat->List V->Option V)(K:Ks)(r:List PV):Prop:=
 ∃ls,ag Φ ext K.kt [.agg (r.map .pv)]=some (.agg ls)/\ ls.all L.clean=true/\ ls.all L.closed=true/\ ls.map Gl=r/\ (K.fl=true->ls=r.map .pv/\ ls.all L.flat=true)
def Ui {z:Nat}{K:Ks}{zero:List PV}{rows:List (List PV)}(hz:∀r∈rows,r.length=z)(hzero:zero.length=z)(a5:zero.all PV.bare=true)(hlen:rows.length<=maxLen)(aL:∀r∈rows,PL Φ ext K r):∀(m k:Nat),k+m=rows.length->
 ∀(u1 u2 u5 u6 u7 x8 x9 ad ae af ai ak an ao aq ar au av aM ay:V)(extra:List Y0),
  ∃t' h',aF (ap (ag Φ ext) aF (xc z K)) ⟨[bY rows,u1,u2, .one (.arr 0),aa .i64 k,u5,u6,u7,x8,x9,ad,ae,af,ai,ak,an,ao,aq,ar,au,av,aM,ay],tj k z (rows.take k++List.replicate m zero)::extra⟩=some (.exit 0,⟨t',tj rows.length z rows::h'⟩)/\ t'.length=23/\ t'[3]? =some (.one (.arr 0)):=by
 intro m
 induction m with
 |zero=>
  intro k hk u1 u2 u5 u6 u7 x8 x9 ad ae af ai ak an ao aq ar au av aM ay extra
  have aN:k=rows.length:=by omega
  subst aN
  rw[vO]
  simp[xc,Je,ap,ah,aG,bc,bG,Opd.ev,put,asList,L.view,bin,cG,isBool]
 |succ m ih=>
  intro k hk u1 u2 u5 u6 u7 x8 x9 ad ae af ai ak an ao aq ar au av aM ay extra
  have a6:k<rows.length:=by omega
  have hr:rows[k]? =some rows[k]:=by simp[a6]
  have a8:(rows[k]).length=z:=hz _ (Zf a6)
  obtain⟨ls,c1,c2,c5,c3,c4⟩:=aL _ (Zf a6)
  have hw:=lm (k:=k) (by unfold maxLen at hlen;omega)
  have a7:gv true z 0 ((rows[k]).map L.pv)=some (.agg ((rows[k]).map .pv)):=by
   simp[gv,a8,Zs (show((rows[k]).map L.pv).length<=z by simp[a8])]
  have a2:((k+1:Nat):Int)=(k:Int)+1:=by omega
  have aE:k=0->fV (rows.take k++List.replicate (m+1) zero)=true:=by
   intro e;subst e;simpa using LU a5
  generalize hE:rows.take k++List.replicate (m+1) zero=E at*
  have aH:k<E.length:=by rw[<-hE];simp;omega
  have aI:E[k]? =some zero:=by rw[<-hE];exact VE (by omega)
  have a1:E.set k rows[k]=rows.take (k+1)++List.replicate m zero:=by rw[<-hE];exact Tn (by omega)
  cases hK:K.fl with
  |true=>
   obtain⟨rfl,aP⟩:=c4 hK
   obtain⟨g,ea⟩:=YT.cf (tj k z E::extra) rows[k]
   obtain⟨ab,aw⟩:=Hj (h':=tj k z E::extra) (k:=k) (r:=rows[k]) (ls':=(rows[k]).map .pv) (EW rfl aE) (by simp) aI hzero (rE _ _) (by simp[a8]) (RX _ _) (by
    rw[Zt]at c5⊢
    intro l hl
    obtain⟨p,hp,rfl⟩:=V'.1 hl
    exact c5 _ hl) (by rw[ea];exact List.nodup_nil)
   rw[a1]at aw
   have aQ:((rows[k]).map L.pv).map df=(rows[k]).map L.pv:=by simp[df]
   have aA:=EX (h:=tj k z E::extra) (k:=k) (z:=z) (i:=k) (es:=E) rfl aH
   have key:=ih (k+1) (by omega) u1 u2 u5 u6 u7 (aa .i64 k) (bY rows) (aa .i64 rows.length) (az true) (aa .i64 k) (aa .i64 ((k:Int)+1)) (.one (.arr 0)) (aa .i64 k) (bY rows) (aa .i64 k) (.one (.ip rows[k] 0)) (.agg ((rows[k]).map .pv)) (.agg ((rows[k]).map .pv)) (.one (.ptr 0 k 0)) ay ab
   obtain⟨t',h',e1,e2,e3⟩:=key
   refine⟨t',h',(gF ?_).trans e1,e2,e3⟩
   rw[a2]
   have aB:aJ (tj k z E::extra) z (bY rows) k=some (.one (.ip rows[k] 0)):=by simp[aJ,a6,a8]
   generalize hO:tj k z E=O at*
   simp[xc,Je,Kj,ap,ah,aG,bc,bG,cz,Opd.ev,put,asList,L.view,bin,cG,isBool,isInt,a6,aB,aA,a8,bA,a7,L3,hK,al,t7,c1,V.flat,aP,da,aQ,aw,hw,tj]
  |false=>
   obtain⟨t,ht⟩:=px ls (tj k z E::extra) c2
   have hv:=t6 ls (tj k z E::extra) c2
   have aC:=py ls (tj k z E::extra) 0 c2 (by simp)
   have aS:=(mo ls (tj k z E::extra) c2).1
   have aT:=wu ls (tj k z E::extra) c2 c5
   have aD:=(rB ls (tj k z E::extra) c2).1.nodup
   have aX:ls.length=z:=by rw[<-a8,<-c3];simp
   rw[c3]at hv
   generalize aY:thawL (tj k z E::extra) ls=th at*
   obtain⟨ls',h1⟩:=th
   simp only at ht hv aC aS aT aD
   have aU:h1[0]? =some (tj k z E):=by rw[ht];rfl
   obtain⟨ab,aw⟩:=Hj (h':=h1) (k:=k) (r:=rows[k]) (ls':=ls') (EW aU aE) (by rw[ht];simp) aI hzero hv (by rw[aS,aX]) aC aT aD
   rw[a1]at aw
   have aA:=EX (h:=h1) (k:=k) (z:=z) (i:=k) (es:=E) aU aH
   have key:=ih (k+1) (by omega) u1 u2 u5 u6 u7 (aa .i64 k) (bY rows) (aa .i64 rows.length) (az true) (aa .i64 k) (aa .i64 ((k:Int)+1)) (.one (.arr 0)) (aa .i64 k) (bY rows) (aa .i64 k) (.one (.ip rows[k] 0)) (.agg ((rows[k]).map .pv)) (.agg ls') (.one (.ptr 0 k 0)) ay ab
   obtain⟨t',h',e1,e2,e3⟩:=key
   refine⟨t',h',(gF ?_).trans e1,e2,e3⟩
   rw[a2]
   have aB:aJ (tj k z E::extra) z (bY rows) k=some (.one (.ip rows[k] 0)):=by simp[aJ,a6,a8]
   generalize hO:tj k z E=O at*
   simp[xc,Je,Kj,ap,ah,aG,bc,bG,cz,Opd.ev,put,asList,L.view,bin,cG,isBool,isInt,a6,aB,aA,a8,bA,a7,L3,hK,al,t7,c1,thaw,aY,C7,aw,hw,tj]
def WE {k bytes z:Nat}{K:Ks}{zero:List PV}{rows:List (List PV)}(hk:Φ k=some (Lm bytes z K zero))(hz:∀r∈rows,r.length=z)(aR:0<z)(hzero:zero.length=z)(a5:zero.all PV.bare=true)(hlen:rows.length<=maxLen)(hb:(rows.length:Int)*bytes<=140737488355328)(aL:∀r∈rows,PL Φ ext K r):
 ag Φ ext k [bY rows]=some (.one (OV z rows)):=by
 refine fW hk ?_
 obtain⟨t',h',e1,e2,e3⟩:=Ui (Φ:=Φ) (ext:=ext) hz hzero a5 hlen aL rows.length 0 (by omega) (.b9 []) (.one .nil) (bY rows) (aa .i64 rows.length) (.one (.arr 0)) (.b9 []) (.b9 []) (.b9 []) (.b9 []) (.b9 []) (.b9 []) (.b9 []) (.b9 []) (.b9 []) (.b9 []) (.b9 []) (.b9 []) (.b9 []) (.b9 []) (.b9 []) []
 simp only[ZQ,Zi,show((0:Nat):Int)=0 from rfl,LM]at e1
 have ax:(rows.length:Int)<=9223372036854775807:=by unfold maxLen at hlen;omega
 obtain⟨_,e4⟩:=Zb.1 e3
 generalize hF:ap (ag Φ ext) aF (xc z K)=F at e1
 have e5:bJ (tj rows.length z rows::h') (.arr 0)=some (OV z rows):=by cases rows<;>simp[bJ,tj,OV]
 generalize hO:tj rows.length z rows=O at*
 simp[Lm,start,fB,ap,hF,ah,aG,bc,bG,cz,Opd.ev,put,asList,L.view,isInt,hb,ax,hzero,aR,e1,done,aZ,am,cj,bS,comp,aO,e5,aj,e2,e4,V.cells]
def A3 :Y5:= .seq (Je 4 0 8) (.seq (.block 1 (.region [⟨some 14, .mv (.tmp 3),none⟩,⟨some 15, .mv (.tmp 4),none⟩,⟨some 16, .mv (.tmp 0),none⟩,⟨some 17, .mv (.tmp 4),none⟩,⟨some 18, .bF 1 (.tmp 16) (.tmp 17),none⟩,⟨some 19, .load false 1 (.tmp 18),none⟩,⟨some 20, .bF 1 (.tmp 14) (.tmp 15),none⟩,⟨none, .storeD 1 (.tmp 20) (.tmp 19),none⟩])) (Kj 4 12))
def WS (bytes:Nat)(zero:PV):AFn:=⟨22,[.tmp 2], .seq (.region [⟨some 2, .mv .nil,none⟩]) (.seq (.region [⟨some 5, .mv (.tmp 0),none⟩,⟨some 6, .len (.tmp 5),none⟩,⟨some 7, .make bytes [zero] (.tmp 6),none⟩,⟨some 3, .mv (.tmp 7),none⟩]) (.seq (.seq (.region [⟨some 4, .mv (.pv (.int .i64 0)),none⟩]) (.block 0 (.loop A3))) (.seq (.region [⟨some 21, .mv (.tmp 3),none⟩,⟨some 2, .mv (.tmp 21),none⟩]) .ret)))⟩
def Uj {zero:PV}{rows:List (List PV)}(hz:∀r∈rows,∃q:PV,r=[q]/\ q.bare=true)(a5:zero.bare=true)(hlen:rows.length<=maxLen):∀(m k:Nat),k+m=rows.length->
 ∀(u1 u2 u5 u6 u7 x8 x9 ad ae af ai ak an ao aq ar au av aK:V)(extra:List Y0),
  ∃t' h',aF (ap (ag Φ ext) aF A3) ⟨[bY rows,u1,u2, .one (.arr 0),aa .i64 k,u5,u6,u7,x8,x9,ad,ae,af,ai,ak,an,ao,aq,ar,au,av,aK],tj k 1 (rows.take k++List.replicate m [zero])::extra⟩=some (.exit 0,⟨t',tj rows.length 1 rows::h'⟩)/\ t'.length=22/\ t'[3]? =some (.one (.arr 0)):=by
 intro m
 induction m with
 |zero=>
  intro k hk u1 u2 u5 u6 u7 x8 x9 ad ae af ai ak an ao aq ar au av aK extra
  have aN:k=rows.length:=by omega
  subst aN
  rw[vO]
  simp[A3,Je,ap,ah,aG,bc,bG,Opd.ev,put,asList,L.view,bin,cG,isBool]
 |succ m ih=>
  intro k hk u1 u2 u5 u6 u7 x8 x9 ad ae af ai ak an ao aq ar au av aK extra
  have a6:k<rows.length:=by omega
  obtain⟨q,hq,b0⟩:=hz _ (Zf a6)
  have hw:=lm (k:=k) (by unfold maxLen at hlen;omega)
  have a7:gv false 1 0 [L.pv q]=some (.one (.pv q)):=by simp[gv]
  have a2:((k+1:Nat):Int)=(k:Int)+1:=by omega
  have aE:k=0->fV (rows.take k++List.replicate (m+1) [zero])=true:=by
   intro e;subst e;simpa using LU (m:=m+1) (zero:=[zero]) (by simp[a5])
  generalize hE:rows.take k++List.replicate (m+1) [zero]=E at*
  have aH:k<E.length:=by rw[<-hE];simp;omega
  have aI:E[k]? =some [zero]:=by rw[<-hE];exact VE (by omega)
  have a1:E.set k rows[k]=rows.take (k+1)++List.replicate m [zero]:=by rw[<-hE];exact Tn (by omega)
  rw[hq]at a1
  have b1:=EW (h:=tj k 1 E::extra) rfl aE
  have aw:storeD (tj k 1 E::extra) 1 (.one (.ptr 0 k 0)) (.one (.pv q))=some (tj (k+1) 1 (rows.take (k+1)++List.replicate m [zero])::extra):=by
   simp[storeD,b1,aI,V.cells,viewL,L.view,L.bC,L.bG,b0,aj,freezeLs,freezeL,putAt,a1,SZ]
  have aA:=EX (h:=tj k 1 E::extra) (k:=k) (z:=1) (i:=k) (es:=E) rfl aH
  obtain⟨t',h',g1,g2⟩:=ih (k+1) (by omega) u1 u2 u5 u6 u7 (aa .i64 k) (bY rows) (aa .i64 rows.length) (az true) (aa .i64 k) (aa .i64 ((k:Int)+1)) (.one (.arr 0)) (aa .i64 k) (bY rows) (aa .i64 k) (.one (.ip [q] 0)) (.one (.pv q)) (.one (.ptr 0 k 0)) aK extra
  refine⟨t',h',(gF ?_).trans g1,g2⟩
  rw[a2]
  have aB:aJ (tj k 1 E::extra) 1 (bY rows) k=some (.one (.ip [q] 0)):=by simp[aJ,a6,hq]
  generalize hO:tj k 1 E=O at*
  generalize b4:tj (k+1) 1 (rows.take (k+1)++List.replicate m [zero])=O' at*
  simp[A3,Je,Kj,ap,ah,aG,bc,bG,cz,Opd.ev,put,asList,L.view,bin,cG,isBool,isInt,a6,aB,aA,bA,a7,aw,hw]
def WG {k bytes:Nat}{zero:PV}{rows:List (List PV)}(hk:Φ k=some (WS bytes zero))(hz:∀r∈rows,∃q:PV,r=[q]/\ q.bare=true)(a5:zero.bare=true)(hlen:rows.length<=maxLen)(hb:(rows.length:Int)*bytes<=140737488355328):
 ag Φ ext k [bY rows]=some (.one (OV 1 rows)):=by
 refine fW hk ?_
 obtain⟨t',h',e1,e2,e3⟩:=Uj (Φ:=Φ) (ext:=ext) (zero:=zero) hz a5 hlen rows.length 0 (by omega) (.b9 []) (.one .nil) (bY rows) (aa .i64 rows.length) (.one (.arr 0)) (.b9 []) (.b9 []) (.b9 []) (.b9 []) (.b9 []) (.b9 []) (.b9 []) (.b9 []) (.b9 []) (.b9 []) (.b9 []) (.b9 []) (.b9 []) (.b9 []) []
 simp only[ZQ,Zi,show((0:Nat):Int)=0 from rfl,LM]at e1
 have ax:(rows.length:Int)<=9223372036854775807:=by unfold maxLen at hlen;omega
 obtain⟨_,e4⟩:=Zb.1 e3
 generalize hF:ap (ag Φ ext) aF A3=F at e1
 have e5:bJ (tj rows.length 1 rows::h') (.arr 0)=some (OV 1 rows):=by cases rows<;>simp[bJ,tj,OV]
 generalize hO:tj rows.length 1 rows=O at*
 simp[WS,start,fB,ap,hF,ah,aG,bc,bG,cz,Opd.ev,put,asList,L.view,isInt,hb,ax,e1,done,aZ,am,cj,bS,comp,aO,e5,aj,e2,e4,V.cells]
def M3 (ts:List PTy)(rows:List (List PV)):yO (.lst ts) (.lst rows)=(OV ts.length rows):=by cases rows<;>rfl
def jc {k bytes z:Nat}{K:Ks}{ts:List PTy}{zero:List PV}(hk:Φ k=some (Lm bytes z K zero))(hz:ts.length=z)(hzero:zero.length=z)(a5:zero.all PV.bare=true)(aR:0<z)(hb:bytes<=134217728)(hx:lw Φ ext K.kt ts)(aP:K.fl=true->ts.all PTy.flatT=true):lM Φ ext k ts:=by
 intro rows h hs
 obtain⟨hl,hr⟩:=bi h
 have hn:rows.length<=1048576:=Zc (B' _ (bI rows)) (by rw[<-lY];exact hs)
 rw[M3,hz]
 refine WE hk (fun r m=>by rw[kN (hr r m),hz]) aR hzero a5 hl ?_ (fun r m=> ?_)
 ·have:=Nat.mul_le_mul hn hb
  omega
 ·refine⟨_,hx r (hr r m) (Wr m hs),yP _ _,vT (hr r m),Di (hr r m),fun hf=> ?_⟩
  obtain⟨e1,e2⟩:=tN (aP hf) (hr r m)
  exact⟨e1,by rw[e1];exact e2⟩
def Ln {k bytes:Nat}{t:PTy}{zero:PV}(hk:Φ k=some (WS bytes zero))(a5:zero.bare=true)(ht:t.flatT=true)(hb:bytes<=134217728):lM Φ ext k [t]:=by
 intro rows h hs
 obtain⟨hl,hr⟩:=bi h
 have hn:rows.length<=1048576:=Zc (B' _ (bI rows)) (by rw[<-lY];exact hs)
 rw[M3]
 refine WG hk (fun r m=> ?_) a5 hl ?_
 ·obtain⟨q,r',rfl,h1,h2⟩:=ee (hr r m)
  obtain rfl:=fv h2
  refine⟨q,rfl,?_⟩
  have:=Dh h1
  rw[Ac ht h1]at this
  exact this
 ·have:=Nat.mul_le_mul hn hb
  omega
end
end Gi
