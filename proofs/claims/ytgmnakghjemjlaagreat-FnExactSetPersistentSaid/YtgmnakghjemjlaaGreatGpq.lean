/- Of this proof. -/
import Derived.Test.YtgmnakghjemjlaaGreatGpo
set_option linter.unusedSimpArgs false
set_option linter.unusedVariables false
namespace Gi
open Go Go.RowKit
inductive MS where
 |k (ts:List PTy)
 |s (ts:List PTy) (f:Nat)
 |l (us:List PTy) (f:Nat)
def MS.ts :MS→List PTy
 | .k ts=>ts
 | .s ts _=>ts
 | .l us _=>[.lst us]
def gf :List MS→List PTy
 |[]=>[]
 |s::ss=>s.ts++gf ss
def Qj (c off:Nat)(g:Bool)(n f:Nat):List AOper:=[⟨some c, .fieldA (.tmp 2) off,none⟩,⟨some (c+1), .loadZ g n (.tmp c),none⟩,⟨some (c+2), .mv (.tmp 1),none⟩,⟨some (c+3), .callM f (.tmp (c+1)) (.tmp (c+2)),none⟩,⟨some 1, .mv (.tmp (c+3)),none⟩]
def MK :Nat→Nat→List MS→ACode
 |c,_,[]=> .seq (.region [⟨some c, .mv (.tmp 1),none⟩,⟨some 4, .mv (.tmp c),none⟩]) .ret
 |c,off, .k ts::ss=>MK c (off+ts.length) ss
 |c,off, .s ts f::ss=> .seq (.region (Qj c off true ts.length f)) (MK (c+4) (off+ts.length) ss)
 |c,off, .l _ f::ss=> .seq (.region (Qj c off false 1 f)) (MK (c+4) (off+1) ss)
def ML :Nat→List MS→Nat
 |c,[]=>c
 |c, .k _::ss=>ML c ss
 |c,_::ss=>ML (c+4) ss
def o7 (ss:List MS):AFn:=⟨ML 5 ss+1,[.tmp 4], .seq (.region [⟨some 2, .box (.tmp 0),none⟩,⟨some 4, .mv (.pv (.int .i64 0)),none⟩]) (MK 5 0 ss)⟩
theorem AZ :∀(ss:List MS)(c off:Nat),(MK c off ss).noZ=true
 |[],c,off=>rfl
 | .k ts::ss,c,off=>AZ ss c _
 | .s ts f::ss,c,off=>by simp only[MK,ACode.noZ,AZ ss,Bool.and_true];rfl
 | .l us f::ss,c,off=>by simp only[MK,ACode.noZ,AZ ss,Bool.and_true];rfl
theorem yz :∀(ss:List MS)(c:Nat),c≤ML c ss
 |[],c=>Nat.le_refl _
 | .k ts::ss,c=>yz ss c
 | .s ts f::ss,c=>Nat.le_trans (by omega) (yz ss (c+4))
 | .l us f::ss,c=>Nat.le_trans (by omega) (yz ss (c+4))
section
variable {Φ:Nat→Option AFn}{ext:Nat→List V→Option V}{mT:Int→List UInt8}{mt:Nat}
def K5 (Φ:Nat→Option AFn)(ext:Nat→List V→Option V)(mT:Int→List UInt8)(f:Nat)(ts:List PTy):Prop:=
 ∀row:List PV,ba ts row→∀k:Int,0≤k→(eY mT row k).2≤tC→ag Φ ext (f+jr) [.agg (GS ts row),aa .i64 k]=some (.tup ((false,[.pv (.int .i64 (eY mT row k).2)])::L9 ts (eY mT row k).1))
def GV (Φ:Nat→Option AFn)(ext:Nat→List V→Option V)(mT:Int→List UInt8):List MS→Prop
 |[]=>True
 | .k ts::ss=>ts.all PTy.flatT=true∧GV Φ ext mT ss
 | .s ts f::ss=>K5 Φ ext mT f ts∧GV Φ ext mT ss
 | .l us f::ss=>nF Φ ext mT f us∧GV Φ ext mT ss
theorem HO {g:Bool}{n f c m:Nat}{C1 C2:List L}{Z1 Z2:List AObj}{ts:List PTy}{x:List PV}{v a:V}{k:Int}{t:List V}(hx:ba ts x)(h1:t[1]? =some (aa .i64 k))(h2:t[2]? =some (.one (.ptr m 0 0)))(hc:5≤c)(hl:c+3<t.length)
 (hb:(Z1++gn ts x++Z2)[m]? =some (.box (C1++C2))) (hcut:f9 g n C1.length (C1++C2)=some v) (hv:v.cells=iE Z1.length ts x) (hsub:∀o c,v≠ .one (.sub o c)) (hlend:rE (Z1++gn ts x++Z2) v=some a) (hcall:ag Φ ext (f+jr) [a,aa .i64 k]=some (.tup ((false,[.pv (.int .i64 (eY mT x k).2)])::L9 ts (eY mT x k).1))):
 ∃t',ah (ag Φ ext) (Qj c C1.length g n f) ⟨t,Z1++gn ts x++Z2⟩=some ⟨t',Z1++gn ts (eY mT x k).1++Z2⟩∧t'.length=t.length∧t'[1]? =some (aa .i64 (eY mT x k).2)∧t'[2]? =some (.one (.ptr m 0 0)):=by
 have e1:=getD_some h1
 have e2:=getD_some h2
 have q1:(t.set c (V.one (.ptr m 0 C1.length))).getD c (.tup [])= .one (.ptr m 0 C1.length):=aA (by omega)
 have q2:((t.set c (V.one (.ptr m 0 C1.length))).set (c+1) v).getD 1 (.tup [])=aa .i64 k:=(cR (by omega)).trans ((cR (by omega)).trans e1)
 have q3:(((t.set c (V.one (.ptr m 0 C1.length))).set (c+1) v).set (c+2) (aa .i64 k)).getD (c+1) (.tup [])=v:=(cR (by omega)).trans (aA (by simp;omega))
 have q4:(((t.set c (V.one (.ptr m 0 C1.length))).set (c+1) v).set (c+2) (aa .i64 k)).getD (c+2) (.tup [])=aa .i64 k:=aA (by simp;omega)
 have q5:((((t.set c (V.one (.ptr m 0 C1.length))).set (c+1) v).set (c+2) (aa .i64 k)).set (c+3) (aa .i64 (eY mT x k).2)).getD (c+3) (.tup [])=aa .i64 (eY mT x k).2:=aA (by simp;omega)
 have hnd:(ai v.cells).Nodup:=by rw[hv];exact(Ol hx _).1
 have hput:=PC mT hx Z1 Z2 k
 rw[←hv]at hput
 have hM:jB (ag Φ ext) (Z1++gn ts x++Z2) f v k=some (aa .i64 (eY mT x k).2,Z1++gn ts (eY mT x k).1++Z2):=by
  unfold jB
  split
  ·rename_i o cc;exact absurd rfl (hsub o cc)
  ·simp only[hnd,if_true,hlend,hcall,L.flat,hput]
 refine⟨((((t.set c (V.one (.ptr m 0 C1.length))).set (c+1) v).set (c+2) (aa .i64 k)).set (c+3) (aa .i64 (eY mT x k).2)).set 1 (aa .i64 (eY mT x k).2),?_,by simp,List.getElem?_set_self (by simp;omega),by rw[List.getElem?_set_ne (by omega),List.getElem?_set_ne (by omega),List.getElem?_set_ne (by omega),List.getElem?_set_ne (by omega),List.getElem?_set_ne (by omega)];exact h2⟩
 simp only[Qj,ah,az,aI,bg,bX,Opd.ev,e2,put,Nat.zero_add,q1,pE,hb,bn,if_true,hcut,q2,q3,q4,hM,q5]
theorem AY :∀(ss:List MS),GV Φ ext mT ss→∀{c:Nat}{C1:List L}{Z1:List AObj}{b:List PV}{k:Int}{t:List V},ba (gf ss) b→0≤k→(eY mT b k).2≤tC→t[1]? =some (aa .i64 k)→t[2]? =some (.one (.ptr (Z1.length+(gn (gf ss) b).length) 0 0))→5≤c→ML c ss<t.length→
 ∃t',aj (ag Φ ext) ar (MK c C1.length ss) ⟨t,Z1++gn (gf ss) b++[.box (C1++iE Z1.length (gf ss) b)]⟩=some (.ret,⟨t',Z1++gn (gf ss) (eY mT b k).1++[.box (C1++iE Z1.length (gf ss) b)]⟩)∧t'.getD 4 (.tup [])=aa .i64 (eY mT b k).2
 |[],_,c,C1,Z1,b,k,t,hb,h0,hk,h1,h2,hc,hl=>by
  obtain rfl:=eU hb
  simp only[ML]at hl
  have q2:(t.set c (aa .i64 k)).getD c (.tup [])=aa .i64 k:=aA hl
  refine⟨(t.set c (aa .i64 k)).set 4 (aa .i64 k),?_,by simp only[eY];exact aA (by simp;omega)⟩
  simp only[MK,aj,ah,az,aI,bg,Opd.ev,getD_some h1,put,q2,eY]
 | .k ts::ss,hss,c,C1,Z1,b,k,t,hb,h0,hk,h1,h2,hc,hl=>by
  simp only[gf,MS.ts]at hb h2⊢
  obtain⟨x,y,rfl,hx,hy⟩:=jK (ts:=ts) hb
  have flat:∀{ts:List PTy}{x:List PV},ba ts x→ts.all PTy.flatT=true→gn ts x=[]∧∀k,eY mT x k=(x,k):=by
   intro ts x h
   refine fy (P:=fun ts x=>ts.all PTy.flatT=true→gn ts x=[]∧∀k,eY mT x k=(x,k)) (fun _=>⟨rfl,fun _=>rfl⟩) ?_ ?_ ts x h
   ·intro us rows ts ps _ _ _ ha
    simp[PTy.flatT]at ha
   ·intro t p ts ps _ ht hp _ ih ha
    simp only[List.all_cons,Bool.and_eq_true]at ha
    obtain⟨i1,i2⟩:=ih ha.2
    exact⟨by rw[gy ht,i1],fun k=>by rw[oB mT hp,i2]⟩
  obtain⟨z0,m0⟩:=flat hx hss.1
  have hm:eY mT (x++y) k=(x++(eY mT y k).1,(eY mT y k).2):=by rw[j6,m0]
  have hlen:(C1++iE Z1.length ts x).length=C1.length+ts.length:=by rw[List.length_append,Fp hx]
  rw[GR hx,z0,List.nil_append]at h2⊢
  rw[I3 hx,z0,hm]
  simp only[hm]at hk
  have hz2:∀y',gn (ts++gf ss) (x++y')=gn (gf ss) y':=fun y'=>by rw[GR hx,z0,List.nil_append]
  simp only[hz2,List.length_nil,Nat.add_zero]
  obtain⟨t',r1,r2⟩:=AY ss hss.2 (c:=c) (C1:=C1++iE Z1.length ts x) (Z1:=Z1) hy h0 hk h1 h2 hc hl
  rw[hlen]at r1
  simp only[List.append_assoc]at r1⊢
  exact⟨t',r1,r2⟩
 | .s ts f::ss,hss,c,C1,Z1,b,k,t,hb,h0,hk,h1,h2,hc,hl=>by
  simp only[gf,MS.ts]at hb h2⊢
  obtain⟨x,y,rfl,hx,hy⟩:=jK (ts:=ts) hb
  have hN:=yz ss (c+4)
  simp only[ML]at hl
  simp only[j6]at hk
  have hle:=lD mT y (eY mT x k).2
  have hlx:=lD mT x k
  have hcl:=Fp hx Z1.length
  rw[GR hx]at h2⊢
  rw[I3 hx]
  simp only[j6,E8 mT hx]
  generalize hC2:iE (Z1.length+(gn ts x).length) (gf ss) y=C2
  generalize hB:[AObj.box (C1++(iE Z1.length ts x++C2))]=B
  have hcut:f9 true ts.length C1.length (C1++(iE Z1.length ts x++C2))=some (.agg (iE Z1.length ts x)):=by
   unfold f9
   rw[if_pos (by simp[hcl]),if_pos rfl,List.drop_left,←hcl,List.take_left]
  obtain⟨t1,a1,a2,a3,a4⟩:=HO (Φ:=Φ) (ext:=ext) (mT:=mT) (g:=true) (n:=ts.length) (f:=f) (c:=c) (m:=Z1.length+(gn ts x++gn (gf ss) y).length) (C1:=C1) (C2:=iE Z1.length ts x++C2) (Z1:=Z1) (Z2:=gn (gf ss) y++B) (v:= .agg (iE Z1.length ts x)) (a:= .agg (GS ts x)) hx h1 h2 hc (by omega) (by
   rw[←hB]
   have:Z1++gn ts x++(gn (gf ss) y++[AObj.box (C1++(iE Z1.length ts x++C2))])=(Z1++(gn ts x++gn (gf ss) y))++[AObj.box (C1++(iE Z1.length ts x++C2))]:=by simp
   rw[this,List.getElem?_append_right (by simp)]
   simp) hcut rfl (fun _ _ h=>by cases h) (by
   have:=Kv hx Z1 (gn (gf ss) y++B)
   simp only[rE,this]) (hss.1 x hx k h0 (by omega))
  obtain⟨t2,b1,b2⟩:=AY ss hss.2 (c:=c+4) (C1:=C1++iE Z1.length ts x) (Z1:=Z1++gn ts (eY mT x k).1) (b:=y) (k:=(eY mT x k).2) (t:=t1) hy (by omega) hk a3 (by rw[a4];simp only[List.length_append,Dw mT hx];congr 3;omega) (by omega) (by omega)
  refine⟨t2,?_,b2⟩
  have hlen:(C1++iE Z1.length ts x).length=C1.length+ts.length:=by rw[List.length_append,hcl]
  have hpos:(Z1++gn ts (eY mT x k).1).length=Z1.length+(gn ts x).length:=by rw[List.length_append,Dw mT hx]
  rw[hlen,hpos,hC2]at b1
  simp only[MK,aj,List.append_assoc]at a1 b1⊢
  rw[hB]at b1
  rw[a1]
  exact b1
 | .l us f::ss,hss,c,C1,Z1,b,k,t,hb,h0,hk,h1,h2,hc,hl=>by
  simp only[gf,MS.ts]at hb h2⊢
  obtain⟨x,y,rfl,hx,hy⟩:=jK (ts:=[.lst us]) hb
  have hN:=yz ss (c+4)
  simp only[ML]at hl
  simp only[j6]at hk
  have hle:=lD mT y (eY mT x k).2
  have hlx:=lD mT x k
  have hcl:=Fp hx Z1.length
  have hx':=hx
  obtain⟨p,x',rfl,hp,hn⟩:=dw hx'
  obtain rfl:=eU hn
  obtain⟨rows,rfl⟩:=mA hp
  rw[GR hx]at h2⊢
  rw[I3 hx]
  simp only[j6,E8 mT hx]
  generalize hC2:iE (Z1.length+(gn [.lst us] [.lst rows]).length) (gf ss) y=C2
  generalize hB:[AObj.box (C1++(iE Z1.length [.lst us] [.lst rows]++C2))]=B
  have hcut:f9 false 1 C1.length (C1++(iE Z1.length [.lst us] [.lst rows]++C2))=some (.one (.arr Z1.length)):=by
   simp[f9,iE]
  obtain⟨t1,a1,a2,a3,a4⟩:=HO (Φ:=Φ) (ext:=ext) (mT:=mT) (g:=false) (n:=1) (f:=f) (c:=c) (m:=Z1.length+(gn [.lst us] [.lst rows]++gn (gf ss) y).length) (C1:=C1) (C2:=iE Z1.length [.lst us] [.lst rows]++C2) (Z1:=Z1) (Z2:=gn (gf ss) y++B) (v:= .one (.arr Z1.length)) (a:= .one (.down us.length rows)) hx h1 h2 hc (by omega) (by
   rw[←hB]
   have:Z1++gn [.lst us] [.lst rows]++(gn (gf ss) y++[AObj.box (C1++(iE Z1.length [.lst us] [.lst rows]++C2))])=(Z1++(gn [.lst us] [.lst rows]++gn (gf ss) y))++[AObj.box (C1++(iE Z1.length [.lst us] [.lst rows]++C2))]:=by simp
   rw[this,List.getElem?_append_right (by simp)]
   simp) hcut rfl (fun _ _ h=>by cases h) (by
   have:=Kv hx Z1 (gn (gf ss) y++B)
   simp only[iE,GS,kE]at this
   split at this
   ·rename_i a b h1 h2
    cases this
    cases h2
    simp only[rE,h1]
   ·cases this) (by
   simp only[eY]at hle hlx hk⊢
   exact hss.1.2 rows hp k h0 (by omega))
  obtain⟨t2,b1,b2⟩:=AY ss hss.2 (c:=c+4) (C1:=C1++iE Z1.length [.lst us] [.lst rows]) (Z1:=Z1++gn [.lst us] (eY mT [.lst rows] k).1) (b:=y) (k:=(eY mT [.lst rows] k).2) (t:=t1) hy (by omega) hk a3 (by rw[a4];simp only[List.length_append,Dw mT hx];congr 3;omega) (by omega) (by omega)
  refine⟨t2,?_,b2⟩
  have hlen:(C1++iE Z1.length [.lst us] [.lst rows]).length=C1.length+1:=by rw[List.length_append,hcl];rfl
  have hpos:(Z1++gn [.lst us] (eY mT [.lst rows] k).1).length=Z1.length+(gn [.lst us] [.lst rows]).length:=by rw[List.length_append,Dw mT hx]
  rw[hlen,hpos,hC2]at b1
  simp only[MK,aj,List.append_assoc]at a1 b1⊢
  rw[hB]at b1
  rw[a1]
  exact b1
theorem wx {f:Nat}{ss:List MS}(hk:Φ f=some (o7 ss))(hn:Φ (f+jr)=none)(hss:GV Φ ext mT ss):K5 Φ ext mT f (gf ss):=by
 intro row hr k h0 hk2
 have hN:=yz ss 5
 obtain⟨m,hm⟩:∃m,ML 5 ss+1-2=m+4:=⟨ML 5 ss-5,by omega⟩
 have hz:(o7 ss).body.noZ=true:=by
  simp only[o7,ACode.noZ,AZ,Bool.and_true]
  rfl
 refine qW hn hk hz ?_
 obtain⟨ds,d1,d2⟩:=OV hr []
 simp only[List.length_nil,List.nil_append]at d1
 have hA:cV [] [.agg (GS (gf ss) row),aa .i64 k]=([.agg (iE 0 (gf ss) row),aa .i64 k],ds):=by
  simp only[cV,thaw,d1,thawL]
 have hst:hC (o7 ss) [.agg (GS (gf ss) row),aa .i64 k]=⟨.agg (iE 0 (gf ss) row)::aa .i64 k::List.replicate (m+4) (.tup []),gn (gf ss) row⟩:=by
  simp only[hC,hA,d2,o7,List.length_cons,List.length_nil,List.cons_append,List.nil_append,hm]
 have hlen:ds.length=(gn (gf ss) row).length:=by rw[←d2];simp
 let t0:List V:= .agg (iE 0 (gf ss) row)::aa .i64 k:: .one (.ptr (gn (gf ss) row).length 0 0):: .tup []::aa .i64 0::List.replicate (m+1) (.tup [])
 have hl0:t0.length=ML 5 ss+1:=by simp[t0];omega
 obtain⟨t',a1,a2⟩:=AY (Φ:=Φ) (ext:=ext) ss hss (c:=5) (C1:=[]) (Z1:=[]) (b:=row) (k:=k) (t:=t0) hr h0 hk2 rfl (by simp[t0]) (Nat.le_refl _) (by omega)
 simp only[List.length_nil,List.nil_append]at a1
 have hrun:fm Φ ext (o7 ss).body (hC (o7 ss) [.agg (GS (gf ss) row),aa .i64 k])=some (.ret,⟨t',gn (gf ss) (eY mT row k).1++[.box (iE 0 (gf ss) row)]⟩):=by
  rw[hst]
  have hrep:List.replicate (m+4) (V.tup [])= .tup []:: .tup []:: .tup []::List.replicate (m+1) (.tup []):=rfl
  simp only[t0]at a1
  simp only[fm,o7,hrep,aj,ah,az,aI,bg,bX,Opd.ev,put,List.getD_cons_zero,V.cells,M8 hr,if_true,List.set_cons_succ,List.set_cons_zero]
  exact a1
 have htake:(gn (gf ss) (eY mT row k).1++[AObj.box (iE 0 (gf ss) row)]).take ds.length=gn (gf ss) (eY mT row k).1:=by
  rw[hlen,←Dw mT hr k,List.take_left]
 rw[hrun]
 simp only[tn,D7,o7,aS,av,bx,a2,List.flatMap_cons,List.flatMap_nil,List.append_nil,V.cells,bP,comp,aK,bt,hA,htake,OP mT hr,L.flat,if_true]
 rfl
end
def xj :Nat→Nat→List UInt8→List UInt8
 |0,_,o=>o
 |n+1,k,o=>if k=0 then o else xj n (k/10) (UInt8.ofNat (48+k%10)::o)
def am (k:Int):List UInt8:=if k≤0 then [109,48]else 109::xj 13 k.toNat []
theorem Hf :∀(n k:Nat)(o:List UInt8),(xj n k o).length≤n+o.length
 |0,k,o=>by simp[xj]
 |n+1,k,o=>by
  simp only[xj]
  split
  ·omega
  ·have:=Hf n (k/10) (UInt8.ofNat (48+k%10)::o)
   simp only[List.length_cons]at this
   omega
def PT :ACode:= .seq (.seq (.region [⟨some 6, .mv (.tmp 0),none⟩,⟨some 7, .bin .gtr (.tmp 6) (.pv (.int .i64 0)),none⟩]) (.cond (.tmp 7) .skip (.exit 0))) (.block 1 (.seq (.region [⟨some 8, .mv (.tmp 0),none⟩,⟨some 9, .bin .rem (.tmp 8) (.pv (.int .i64 10)),none⟩,⟨some 10, .bin .add (.pv (.int .i64 48)) (.tmp 9),none⟩,⟨some 11, .conv .u8 (.tmp 10),none⟩,⟨some 12, .buildS 1 [.tmp 11],none⟩,⟨some 13, .b2s (.tmp 12),none⟩,⟨some 14, .mv (.tmp 3),none⟩,⟨some 15, .bin .add (.tmp 13) (.tmp 14),none⟩,⟨some 3, .mv (.tmp 15),none⟩]) (.region [⟨some 16, .mv (.tmp 0),none⟩,⟨some 17, .bin .quo (.tmp 16) (.pv (.int .i64 10)),none⟩,⟨some 0, .mv (.tmp 17),none⟩])))
def QA :AFn:=⟨20,[.tmp 2], .seq (.region [⟨some 2, .mv (.pv (.str [])),none⟩]) (.seq (.seq (.region [⟨some 4, .mv (.tmp 0),none⟩,⟨some 5, .bin .leq (.tmp 4) (.pv (.int .i64 0)),none⟩]) (.cond (.tmp 5) (.seq (.region [⟨some 2, .mv (.pv (.str [109,48])),none⟩]) .ret) .skip)) (.seq (.region [⟨some 3, .mv (.pv (.str [])),none⟩]) (.seq (.block 0 (.loop PT)) (.seq (.region [⟨some 18, .mv (.tmp 3),none⟩,⟨some 19, .bin .add (.pv (.str [109])) (.tmp 18),none⟩,⟨some 2, .mv (.tmp 19),none⟩]) .ret))))⟩
section
variable {Φ:Nat→Option AFn}{ext:Nat→List V→Option V}
theorem OZ :∀(n k:Nat),k<10^n→k<9223372036854775807→∀(o:List UInt8),o.length+n≤1000→∀(u1 u2 u4 u5 u6 u7 u8 u9 u10 u11 u12 u13 u14 u15 u16 u17 u18 u19:V)(h:List AObj),
 ∃w1 w2 w4 w5 w6 w7 w8 w9 w10 w11 w12 w13 w14 w15 w16 w17 w18 w19 h',ar (aj (ag Φ ext) ar PT) ⟨[aa .i64 k,u1,u2,dS o,u4,u5,u6,u7,u8,u9,u10,u11,u12,u13,u14,u15,u16,u17,u18,u19],h⟩=some (.exit 0,⟨[aa .i64 0,w1,w2,dS (xj n k o),w4,w5,w6,w7,w8,w9,w10,w11,w12,w13,w14,w15,w16,w17,w18,w19],h'⟩):=by
 intro n
 induction n with
 |zero=>
  intro k hk hk2 o ho u1 u2 u4 u5 u6 u7 u8 u9 u10 u11 u12 u13 u14 u15 u16 u17 u18 u19 h
  obtain rfl:k=0:=by simpa using hk
  refine⟨u1,u2,u4,u5,aa .i64 0,au false,u8,u9,u10,u11,u12,u13,u14,u15,u16,u17,u18,u19,h,gk ?_ (by simp)⟩
  simp[PT,aj,ah,az,aI,bg,Opd.ev,put,bin,bD,isBool,xj]
 |succ n ih=>
  intro k hk hk2 o ho u1 u2 u4 u5 u6 u7 u8 u9 u10 u11 u12 u13 u14 u15 u16 u17 u18 u19 h
  by_cases h0:k=0
  ·subst h0
   refine⟨u1,u2,u4,u5,aa .i64 0,au false,u8,u9,u10,u11,u12,u13,u14,u15,u16,u17,u18,u19,h,gk ?_ (by simp)⟩
   simp[PT,aj,ah,az,aI,bg,Opd.ev,put,bin,bD,isBool,xj]
  ·have hpos:(0:Int)<(k:Int):=by omega
   have hm:(k:Int).tmod 10=((k%10:Nat):Int):=by
    rw[Int.tmod_eq_emod_of_nonneg (by omega)];omega
   have hq:(k:Int).tdiv 10=((k/10:Nat):Int):=by
    rw[Int.tdiv_eq_ediv_of_nonneg (by omega)];omega
   have hw1:IntKind.i64.wrap (48+((k%10:Nat):Int))=((48+k%10:Nat):Int):=by rw[IntKind.wrap_i64];omega
   have hw2:IntKind.u8.wrap ((48+k%10:Nat):Int)=((48+k%10:Nat):Int):=by rw[IntKind.wrap_u8];omega
   have hw3:IntKind.i64.wrap ((k/10:Nat):Int)=((k/10:Nat):Int):=by rw[IntKind.wrap_i64];omega
   have hlt:k/10<10^n:=by
    rw[Nat.pow_succ]at hk
    omega
   have hlen:([UInt8.ofNat (48+k%10)]:List UInt8).length+o.length≤9223372036854775807:=by simp;omega
   obtain⟨w1,w2,w4,w5,w6,w7,w8,w9,w10,w11,w12,w13,w14,w15,w16,w17,w18,w19,h',e⟩:=ih (k/10) hlt (by omega) (UInt8.ofNat (48+k%10)::o) (by simp;omega) u1 u2 u4 u5 (aa .i64 k) (au true) (aa .i64 k) (aa .i64 ((k%10:Nat):Int)) (aa .i64 ((48+k%10:Nat):Int)) (aa .u8 ((48+k%10:Nat):Int)) (.one (.arr h.length)) (dS [UInt8.ofNat (48+k%10)]) (dS o) (dS (UInt8.ofNat (48+k%10)::o)) (aa .i64 k) (aa .i64 ((k/10:Nat):Int)) u18 u19 (h++[.arr 1 [[.int .u8 ((48+k%10:Nat):Int)]]])
   refine⟨w1,w2,w4,w5,w6,w7,w8,w9,w10,w11,w12,w13,w14,w15,w16,w17,w18,w19,h',(fC ?_).trans (e.trans ?_)⟩
   ·have hbs:oY [[PV.int .u8 ((48+k%10:Nat):Int)]]=some [UInt8.ofNat (48+k%10)]:=by
     simp only[oY,Int.toNat_natCast]
    have hvr:aU h [aa .u8 ((48+k%10:Nat):Int)]=some [[.int .u8 ((48+k%10:Nat):Int)]]:=rfl
    have hfz:freezeVs h [aa .u8 ((48+k%10:Nat):Int)]=h:=rfl
    have hal:asList (h++[AObj.arr 1 [[.int .u8 ((48+k%10:Nat):Int)]]]) (.one (.arr h.length))=some [[.int .u8 ((48+k%10:Nat):Int)]]:=by
     simp[asList,L.view]
    have hbp:decide ((0:Int)<(k:Int))=true:=decide_eq_true hpos
    have h10:¬((10:Int)=0):=by decide
    have hc1:(([aa .u8 ((48+k%10:Nat):Int)]:List V).all (fun v=>v.cells.length==1)&&decide (0<1)&&decide (([aa .u8 ((48+k%10:Nat):Int)]:List V).length*1≤16777216))=true:=rfl
    simp only[PT,aj,ah,az,aI,bg,bX,Opd.ev,put,List.getD_cons_zero,List.getD_cons_succ,List.set_cons_succ,List.set_cons_zero,bin,bD,io,if_true,if_neg h10,hbp,isBool,isInt,List.map_cons,List.map_nil,hm,hw1,hw2,hc1,hvr,hfz,hal,hbs,hlen,hq,hw3,List.cons_append,List.nil_append]
   ·simp only[xj,if_neg h0]
theorem PK {f:Nat}(hk:Φ f=some QA):zF Φ ext am f:=by
 intro k h0 hM
 refine eW hk ?_
 by_cases hz:k≤0
 ·have hb:decide (k≤0)=true:=decide_eq_true hz
  simp[QA,bu,fm,aj,ah,az,aI,bg,Opd.ev,put,bin,bD,hb,isBool,done,aS,av,bx,bP,comp,aK,bt,ai,V.cells,am,hz]
 ·have hb:decide (k≤0)=false:=decide_eq_false hz
  obtain⟨n,rfl⟩:∃n:Nat,k=n:=⟨k.toNat,by omega⟩
  unfold tC at hM
  have hdl:=Hf 13 n []
  have hlen:([109]:List UInt8).length+(xj 13 n []).length≤9223372036854775807:=by simp at hdl⊢;omega
  have hlen':1+(xj 13 n []).length≤9223372036854775807:=by simpa using hlen
  generalize hlp:ar (aj (ag Φ ext) ar PT)=lp
  have hloop:∀u1 u2 u4 u5 u6 u7 u8 u9 u10 u11 u12 u13 u14 u15 u16 u17 u18 u19 h,∃w1 w2 w4 w5 w6 w7 w8 w9 w10 w11 w12 w13 w14 w15 w16 w17 w18 w19 h',lp ⟨[aa .i64 n,u1,u2,dS [],u4,u5,u6,u7,u8,u9,u10,u11,u12,u13,u14,u15,u16,u17,u18,u19],h⟩=some (.exit 0,⟨[aa .i64 0,w1,w2,dS (xj 13 n []),w4,w5,w6,w7,w8,w9,w10,w11,w12,w13,w14,w15,w16,w17,w18,w19],h'⟩):=by
   rw[←hlp]
   exact OZ (Φ:=Φ) (ext:=ext) 13 n (by omega) (by omega) [] (by simp)
  obtain⟨w1,w2,w4,w5,w6,w7,w8,w9,w10,w11,w12,w13,w14,w15,w16,w17,w18,w19,h',e⟩:=hloop (.tup []) (dS []) (aa .i64 n) (au false) (.tup []) (.tup []) (.tup []) (.tup []) (.tup []) (.tup []) (.tup []) (.tup []) (.tup []) (.tup []) (.tup []) (.tup []) (.tup []) (.tup []) []
  have hm:am (n:Int)=109::xj 13 n []:=by simp only[am,if_neg hz,Int.toNat_natCast]
  rw[hm]
  simp only[QA,bu,fm,aj,hlp,List.length_singleton,Nat.reduceSub,List.replicate,List.cons_append,List.nil_append,ah,az,aI,bg,Opd.ev,put,List.getD_cons_zero,List.getD_cons_succ,List.set_cons_succ,List.set_cons_zero,bin,bD,hb,if_true,isBool,Bool.false_eq_true,if_false,e,io,hlen]
  simp[hlen',done,aS,av,bx,bP,comp,aK,bt,ai,V.cells]
end
end Gi
