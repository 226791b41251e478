/- Of this proof. -/
import Derived.Test.YtbeaonmepfkmmaaGreatGprd
import Derived.Test.YtbeaonmepfkmmaaGreatGivd
set_option linter.unusedSimpArgs false
set_option linter.unusedVariables false
namespace Gi
open Go Go.RowKit
def TX (c off:Nat)(g:Bool)(n f:Nat):List AOper:=[⟨some c, .fieldA (.tmp 2) off,none⟩,⟨some (c+1), .load g n (.tmp c),none⟩,⟨some (c+2), .mv (.tmp 1),none⟩,⟨some (c+3), .call f [.tmp (c+1), .tmp (c+2)] true false,none⟩,⟨some 1, .mv (.tmp (c+3)),none⟩]
def Ss :Nat→Nat→List MS→ACode
 |c,_,[]=> .seq (.region [⟨some c, .mv (.tmp 1),none⟩,⟨some 4, .mv (.tmp c),none⟩]) .ret
 |c,off, .k ts::ss=>Ss c (off+ts.length) ss
 |c,off, .s ts f::ss=> .seq (.region (TX c off true ts.length f)) (.seq (nX (c+4)) (Ss (c+6) (off+ts.length) ss))
 |c,off, .l _ f::ss=> .seq (.region (TX c off false 1 f)) (.seq (nX (c+4)) (Ss (c+6) (off+1) ss))
def P1 :Nat→List MS→Nat
 |c,[]=>c
 |c, .k _::ss=>P1 c ss
 |c,_::ss=>P1 (c+6) ss
def ET (ss:List MS):AFn:=⟨P1 5 ss+1,[.tmp 4], .seq (.region [⟨some 2, .box (.tmp 0),none⟩,⟨some 4, .mv (.pv (.int .i64 0)),none⟩]) (Ss 5 0 ss)⟩
theorem yu :∀(ss:List MS)(c:Nat),c≤P1 c ss
 |[],c=>Nat.le_refl _
 | .k ts::ss,c=>yu ss c
 | .s ts f::ss,c=>Nat.le_trans (by omega) (yu ss (c+6))
 | .l us f::ss,c=>Nat.le_trans (by omega) (yu ss (c+6))
theorem Mx (mT:Int→List UInt8){ts:List PTy}{ps:List PV}(h:bp ts ps):∀k,(fb mT ps k).1.length=ts.length:=by
 refine fF (P:=fun ts ps=>∀k,(fb mT ps k).1.length=ts.length) (fun _=>rfl) ?_ ?_ ts ps h
 ·intro us rows ts ps _ _ ih k
  simp only[fb,List.length_cons,ih]
 ·intro t p ts ps _ ht hp _ ih k
  rw[oP mT hp]
  simp only[List.length_cons,ih]
section
variable {Φ:Nat→Option AFn}{ext:Nat→List V→Option V}{mT:Int→List UInt8}
def SO (Φ:Nat→Option AFn)(ext:Nat→List V→Option V)(mT:Int→List UInt8)(f:Nat)(ts:List PTy):Prop:=
 ∀row:List PV,bp ts row→∀k:Int,0≤k→(fb mT row k).2≤yH→ah Φ ext f [.agg ((fb mT row k).1.map .pv),aa .i64 k]=some (aa .i64 (fb mT row k).2)
def HD (Φ:Nat→Option AFn)(ext:Nat→List V→Option V)(mT:Int→List UInt8):List MS→Prop
 |[]=>True
 | .k ts::ss=>ts.all PTy.flatT=true∧HD Φ ext mT ss
 | .s ts f::ss=>SO Φ ext mT f ts∧HD Φ ext mT ss
 | .l us f::ss=>xj Φ ext mT f us∧HD Φ ext mT ss
theorem Mi {g:Bool}{n f c:Nat}{A:List L}{off:Nat}{v:V}{k k2:Int}{t:List V}(h1:t[1]? =some (aa .i64 k))(h2:t[2]? =some (.one (.ptr 0 0 0)))(hc:5≤c)(hl:c+5<t.length)(hk2:0≤k2)
 (hcut:fO g n off A=some v) (hv:av [.box A] [v,aa .i64 k]=some [v,aa .i64 k]) (hcall:ah Φ ext f [v,aa .i64 k]=some (aa .i64 k2)) {lp}:
 ∃t',au (ah Φ ext) lp (.seq (.region (TX c off g n f)) (nX (c+4))) ⟨t,[.box A]⟩=some (.normal,⟨t',[.box A]⟩)∧t'.length=t.length∧t'[1]? =some (aa .i64 k2)∧t'[2]? =some (.one (.ptr 0 0 0)):=by
 have e1:=getD_some h1
 have e2:=getD_some h2
 have q1:(t.set c (V.one (.ptr 0 0 off))).getD c (.tup [])= .one (.ptr 0 0 off):=aF (by omega)
 have q2:((t.set c (V.one (.ptr 0 0 off))).set (c+1) v).getD 1 (.tup [])=aa .i64 k:=(dj (by omega)).trans ((dj (by omega)).trans e1)
 have q3:(((t.set c (V.one (.ptr 0 0 off))).set (c+1) v).set (c+2) (aa .i64 k)).getD (c+1) (.tup [])=v:=(dj (by omega)).trans (aF (by simp;omega))
 have q4:(((t.set c (V.one (.ptr 0 0 off))).set (c+1) v).set (c+2) (aa .i64 k)).getD (c+2) (.tup [])=aa .i64 k:=aF (by simp;omega)
 have q5:((((t.set c (V.one (.ptr 0 0 off))).set (c+1) v).set (c+2) (aa .i64 k)).set (c+3) (aa .i64 k2)).getD (c+3) (.tup [])=aa .i64 k2:=aF (by simp;omega)
 let t1:=((((t.set c (V.one (.ptr 0 0 off))).set (c+1) v).set (c+2) (aa .i64 k)).set (c+3) (aa .i64 k2)).set 1 (aa .i64 k2)
 have r1:ai (ah Φ ext) (TX c off g n f) ⟨t,[.box A]⟩=some ⟨t1,[.box A]⟩:=by
  simp only[TX,ai,aE,aO,a9,Opd.ev,e2,put,Nat.zero_add,q1,bf,List.getElem?_cons_zero,if_true,hcut,q2,Bool.or_false,List.map_cons,List.map_nil,q3,q4,hv,hcall,Bool.true_or,V.flat,L.flat,Bool.not_true,Bool.and_false,Bool.false_eq_true,if_false,cX,cN,q5,t1]
 have l1:t1.length=t.length:=by simp[t1]
 have g1:t1[1]? =some (aa .i64 k2):=List.getElem?_set_self (by simp;omega)
 have g2:t1[2]? =some (.one (.ptr 0 0 0)):=by simp only[t1];rw[List.getElem?_set_ne (by omega),List.getElem?_set_ne (by omega),List.getElem?_set_ne (by omega),List.getElem?_set_ne (by omega),List.getElem?_set_ne (by omega)];exact h2
 have r2:=MA (call:=ah Φ ext) (lp:=lp) (h:=[.box A]) (c:=c+4) g1 (by omega) (by omega)
 refine⟨_,by simp only[au,r1,r2];rfl,by simp;omega,?_,?_⟩
 ·rw[List.getElem?_set_ne (by omega),List.getElem?_set_ne (by omega)];exact g1
 ·rw[List.getElem?_set_ne (by omega),List.getElem?_set_ne (by omega)];exact g2
theorem AT :∀(ss:List MS),HD Φ ext mT ss→∀{c:Nat}{dn b:List PV}{k:Int}{t:List V},bp (gy ss) b→0≤k→(fb mT b k).2≤yH→t[1]? =some (aa .i64 k)→t[2]? =some (.one (.ptr 0 0 0))→5≤c→P1 c ss<t.length→
 ∃t' h',au (ah Φ ext) aC (Ss c dn.length ss) ⟨t,[.box ((dn++(fb mT b k).1).map .pv)]⟩=some (.ret,⟨t',h'⟩)∧t'.getD 4 (.tup [])=aa .i64 (fb mT b k).2
 |[],_,c,dn,b,k,t,hb,h0,hk,h1,h2,hc,hl=>by
  obtain rfl:=eV hb
  simp only[P1]at hl
  have q2:(t.set c (aa .i64 k)).getD c (.tup [])=aa .i64 k:=aF hl
  refine⟨(t.set c (aa .i64 k)).set 4 (aa .i64 k),[.box ((dn++(fb mT [] k).1).map .pv)],?_,by simp only[fb];exact aF (by simp;omega)⟩
  simp only[Ss,au,ai,aE,aO,a9,Opd.ev,getD_some h1,put,q2]
 | .k ts::ss,hss,c,dn,b,k,t,hb,h0,hk,h1,h2,hc,hl=>by
  simp only[gy,MS.ts]at hb
  obtain⟨x,y,rfl,hx,hy⟩:=j6 (ts:=ts) hb
  have flat:∀{ts:List PTy}{x:List PV},bp ts x→ts.all PTy.flatT=true→∀k,fb mT x k=(x,k):=by
   intro ts x h
   refine fF (P:=fun ts x=>ts.all PTy.flatT=true→∀k,fb mT x k=(x,k)) (fun _ _=>rfl) ?_ ?_ ts x h
   ·intro us rows ts ps _ _ _ ha
    simp[PTy.flatT]at ha
   ·intro t p ts ps _ ht hp _ ih ha
    simp only[List.all_cons,Bool.and_eq_true]at ha
    exact fun k=>by rw[oP mT hp,ih ha.2]
  have m0:=flat hx hss.1
  rw[kA,m0]at hk⊢
  have hlen:(dn++x).length=dn.length+ts.length:=by rw[List.length_append,jp hx]
  obtain⟨t',h',r1,r2⟩:=AT ss hss.2 (c:=c) (dn:=dn++x) hy h0 hk h1 h2 hc hl
  rw[hlen,List.append_assoc]at r1
  exact⟨t',h',r1,r2⟩
 | .s ts f::ss,hss,c,dn,b,k,t,hb,h0,hk,h1,h2,hc,hl=>by
  simp only[gy,MS.ts]at hb
  obtain⟨x,y,rfl,hx,hy⟩:=j6 (ts:=ts) hb
  have hN:=yu ss (c+6)
  simp only[P1]at hl
  rw[kA]at hk⊢
  have hle:=lP mT y (fb mT x k).2
  have hlx:=lP mT x k
  have hml:=Mx mT hx k
  simp only at hk hle
  have hcut:fO true ts.length dn.length ((dn++((fb mT x k).1++(fb mT y (fb mT x k).2).1)).map .pv)=some (.agg ((fb mT x k).1.map .pv)):=by rw[←hml];exact lq (agg:=true) (.inl rfl)
  obtain⟨t1,a1,a2,a3,a4⟩:=Mi (Φ:=Φ) (ext:=ext) (lp:=aC) h1 h2 hc (by omega) (by omega) hcut (by simp only[av,qP];rfl) (hss.1 x hx k h0 (by omega))
  have hlen:(dn++(fb mT x k).1).length=dn.length+ts.length:=by rw[List.length_append,hml]
  obtain⟨t2,h',b1,b2⟩:=AT ss hss.2 (c:=c+6) (dn:=dn++(fb mT x k).1) (b:=y) (k:=(fb mT x k).2) (t:=t1) hy (by omega) hk a3 a4 (by omega) (by omega)
  refine⟨t2,h',?_,b2⟩
  rw[hlen,List.append_assoc]at b1
  simp only[au]at a1
  simp only[Ss,au]
  split at a1
  ·rename_i σ1 e1
   simp only[e1,a1]
   exact b1
  ·exact absurd a1 (by intro h;simp_all)
 | .l us f::ss,hss,c,dn,b,k,t,hb,h0,hk,h1,h2,hc,hl=>by
  simp only[gy,MS.ts]at hb
  obtain⟨x,y,rfl,hx,hy⟩:=j6 (ts:=[.lst us]) hb
  have hN:=yu ss (c+6)
  simp only[P1]at hl
  rw[kA]at hk⊢
  have hle:=lP mT y (fb mT x k).2
  have hlx:=lP mT x k
  have hml:=Mx mT hx k
  have hx':=hx
  obtain⟨p,x',rfl,hp,hn⟩:=dB hx'
  obtain rfl:=eV hn
  obtain⟨rows,rfl⟩:=mV hp
  simp only[fb]at hk hle hlx hml⊢
  have hcut:fO false 1 dn.length ((dn++([PV.lst (gi mT rows k).1]++(fb mT y (gi mT rows k).2).1)).map .pv)=some (.one (.pv (.lst (gi mT rows k).1))):=lq (agg:=false) (a:=[.lst (gi mT rows k).1]) (.inr rfl)
  obtain⟨t1,a1,a2,a3,a4⟩:=Mi (Φ:=Φ) (ext:=ext) (lp:=aC) h1 h2 hc (by omega) (by omega) hcut rfl (hss.1 rows hp k h0 (by omega))
  have hlen:(dn++[PV.lst (gi mT rows k).1]).length=dn.length+1:=by simp
  obtain⟨t2,h',b1,b2⟩:=AT ss hss.2 (c:=c+6) (dn:=dn++[PV.lst (gi mT rows k).1]) (b:=y) (k:=(gi mT rows k).2) (t:=t1) hy (by omega) hk a3 a4 (by omega) (by omega)
  refine⟨t2,h',?_,b2⟩
  rw[hlen,List.append_assoc]at b1
  simp only[au]at a1
  simp only[Ss,au]
  split at a1
  ·rename_i σ1 e1
   simp only[e1,a1]
   exact b1
  ·exact absurd a1 (by intro h;simp_all)
theorem P0 {f:Nat}{ss:List MS}(hk:Φ f=some (ET ss))(hss:HD Φ ext mT ss):SO Φ ext mT f (gy ss):=by
 intro row hr k h0 hk2
 have hN:=yu ss 5
 obtain⟨m,hm⟩:∃m,P1 5 ss+1-2=m+4:=⟨P1 5 ss-5,by omega⟩
 refine eB hk ?_
 have hpl:((fb mT row k).1.map L.pv).all plain=true:=by simp[plain]
 let t0:List V:= .agg ((fb mT row k).1.map .pv)::aa .i64 k:: .one (.ptr 0 0 0):: .tup []::aa .i64 0::List.replicate (m+1) (.tup [])
 have hl0:t0.length=P1 5 ss+1:=by simp[t0];omega
 obtain⟨t',h',a1,a2⟩:=AT (Φ:=Φ) (ext:=ext) ss hss (c:=5) (dn:=[]) (b:=row) (k:=k) (t:=t0) hr h0 hk2 rfl rfl (Nat.le_refl _) (by omega)
 have hrep:List.replicate (m+4) (V.tup [])= .tup []:: .tup []:: .tup []::List.replicate (m+1) (.tup []):=rfl
 have hrun:fB Φ ext (ET ss).body (start (ET ss) [.agg ((fb mT row k).1.map .pv),aa .i64 k])=some (.ret,⟨t',h'⟩):=by
  simp only[t0,List.length_nil,List.nil_append]at a1
  simp only[fB,ET,start,List.length_cons,List.length_nil,Nat.zero_add,Nat.reduceAdd,hm,List.cons_append,List.nil_append,hrep,au,ai,aE,aO,a9,b6,Opd.ev,put,List.getD_cons_zero,V.cells,hpl,if_true,List.set_cons_succ,List.set_cons_zero]
  exact a1
 rw[hrun]
 simp only[done,ET,aR,aw,cq,a2,List.flatMap_cons,List.flatMap_nil,List.append_nil,V.cells,bE,comp,aK,bv]
 rfl
end
end Gi
namespace Gi
open Go
def rM (m x:Nat):Nat×Nat:=(x%m,x/m)
def UP (r:Nat):Nat→Nat→Nat→Nat→Nat×Nat
 |0,a,_,x=>(a,x)
 |k+1,a,m,x=>UP r k (a+m*(x%r)) (m*r) (x/r)
def rG (r t x:Nat):Nat×Nat:=bif Nat.blt (x%r) t then(x%r,x/r)else UP r (bif Nat.blt (x%r-t) 7 then x%r-t+1 else 13) t 1 (x/r)
def rN (x:Nat):Nat×Nat:=rG 32 24 x
def rQ (x:Nat):Nat×Nat:=rG 64 56 x
def rT (x:Nat):Bool×Nat:=(Nat.beq (x%2) 1,x/2)
def rL {α:Type}(f:Nat→α×Nat):Nat→Nat→List α×Nat
 |0,x=>([],x)
 |n+1,x=>match f x with|(a,y)=>match rL f n y with|(xz,z)=>(a::xz,z)
def EY {α:Type}(f:Nat→α×Nat)(x:Nat):List α×Nat:=match rN x with|(n,y)=>rL f n y
def rK :Nat→IntKind
 |0=> .i64
 |1=> .u8
 |2=> .i32
 |3=> .u32
 |4=> .u64
 |5=> .i8
 |6=> .i16
 |_=> .u16
@[irreducible] def zi (n:Nat):Int:=n
@[irreducible] def zm (n:Nat):Int:= -n
@[irreducible] def zu (n:Nat):UInt8:=UInt8.ofNat n
def rP (x:Nat):PV×Nat:=match x%64 with
 |5=>match rN (x/512)with|(n,y)=>(.int (rK (x/64%8)) (zi n),y)
 |6=>match rN (x/512)with|(n,y)=>(.int (rK (x/64%8)) (zm n),y)
 |7=>(.bool true,x/64)
 |8=>(.bool false,x/64)
 |9=>match EY (fun x=>(zu (x%256),x/256)) (x/64)with|(s,y)=>(.str s,y)
 |_=>(.lst [],x/64)
def rO (x:Nat):Opd×Nat:=match rQ x with
 |(k,y)=>bif Nat.blt k 12 then(match k with
  |0=>(.nil,y)
  |10=>match rN y with|(n,z)=>(.fn n,z)
  |_=>match rP x with|(p,z)=>(.pv p,z))else(.tmp (k-12),y)
def Ui (x:Nat):L×Nat:=match x%64 with
 |0=>(.nil,x/64)
 |_=>match rP x with|(p,z)=>(.pv p,z)
def Tx (x:Nat):Option Opd×Nat:=match x%2 with
 |0=>(none,x/2)
 |_=>match rO (x/2)with|(o,y)=>(some o,y)
def U7 (x:Nat):EK×Nat:=(match x%3 with
 |0=> .b
 |1=> .i
 |_=> .s,x/3)
def U6 (x:Nat):BinOp:=match x with
 |0=> .add
 |1=> .sub
 |2=> .mul
 |3=> .quo
 |4=> .rem
 |5=> .and
 |6=> .or
 |7=> .eql
 |8=> .neq
 |9=> .lss
 |10=> .leq
 |11=> .gtr
 |12=> .geq
 |13=> .shl
 |_=> .shr
def r2 {α β:Type}(f:Nat→α×Nat)(g:Nat→β×Nat)(x:Nat):(α×β)×Nat:=match f x with|(a,y)=>match g y with|(b,z)=>((a,b),z)
def rA (x:Nat):AOp×Nat:=match x%59,x/59 with
 |0,x=>match rO x with|(a,x)=>(.mv a,x)
 |1,x=>match rT x with|(g,x)=>match rN x with|(n,x)=>match rO x with|(a,x)=>(.load g n a,x)
 |2,x=>match rO x with|(a,x)=>match rN x with|(n,x)=>(.fieldA a n,x)
 |3,x=>match rM 15 x with|(o,x)=>match rO x with|(a,x)=>match rO x with|(b,x)=>(.bin (U6 o) a b,x)
 |4,x=>match rN x with|(f,x)=>match EY rO x with|(xz,x)=>match rT x with|(p,x)=>match rT x with|(q,x)=>(.call f xz p q,x)
 |5,x=>match rO x with|(a,x)=>(.box a,x)
 |6,x=>match rO x with|(a,x)=>(.len a,x)
 |7,x=>match rN x with|(n,x)=>match rO x with|(a,x)=>match rO x with|(b,x)=>(.store n a b,x)
 |8,x=>match rN x with|(n,x)=>match rO x with|(a,x)=>match rO x with|(b,x)=>(.indexA n a b,x)
 |9,x=>match rO x with|(a,x)=>match rO x with|(b,x)=>match rO x with|(c,x)=>(.pick a b c,x)
 |10,x=>match rT x with|(g,x)=>match rO x with|(a,x)=>(.un (bif g then .neg else .not) a,x)
 |11,x=>match EY Ui x with|(cs,x)=>(.alloc cs,x)
 |12,x=>match rO x with|(a,x)=>match rN x with|(n,x)=>(.extract a n,x)
 |13,x=>match rN x with|(n,x)=>match EY rO x with|(xz,x)=>(.buildS n xz,x)
 |14,x=>match rO x with|(a,x)=>(.lenS a,x)
 |15,x=>match rN x with|(n,x)=>match rN x with|(m,x)=>match rO x with|(a,x)=>match rO x with|(b,x)=>(.append n m a b,x)
 |16,x=>match EY Ui x with|(cs,x)=>match EY (fun x=>match rN x with|(i,x)=>match rN x with|(n,x)=>match rO x with|(a,x)=>((i,n,a),x)) x with|(ps,x)=>(.build cs ps,x)
 |17,x=>match rN x with|(n,x)=>match EY rP x with|(ps,x)=>match rO x with|(a,x)=>(.make n ps a,x)
 |18,x=>match rT x with|(g,x)=>match rO x with|(a,x)=>match rO x with|(b,x)=>(.eqB g a b,x)
 |19,x=>match rN x with|(n,x)=>match EY rO x with|(xz,x)=>(.callD n xz,x)
 |20,x=>match rO x with|(a,x)=>match rO x with|(b,x)=>(.indexS a b,x)
 |21,x=>match rM 8 x with|(k,x)=>match rO x with|(a,x)=>(.conv (rK k) a,x)
 |22,x=>match rT x with|(g,x)=>match rN x with|(n,x)=>match rO x with|(a,x)=>(.loadB g n a,x)
 |23,x=>match rO x with|(a,x)=>match EY rO x with|(xz,x)=>(.callV a xz,x)
 |24,x=>match rN x with|(n,x)=>match EY rO x with|(xz,x)=>(.mkfn n xz,x)
 |25,x=>match rT x with|(g,x)=>match EY U7 x with|(ks,x)=>match rO x with|(a,x)=>match rO x with|(b,x)=>(.eqS g ks a b,x)
 |26,x=>match rN x with|(n,x)=>match rO x with|(a,x)=>match Tx x with|(l,x)=>match Tx x with|(h,x)=>(.slcL n a l h,x)
 |27,x=>match rO x with|(a,x)=>(.s2b a,x)
 |28,x=>match rN x with|(n,x)=>match rO x with|(a,x)=>match Tx x with|(l,x)=>match Tx x with|(h,x)=>(.slcF n a l h,x)
 |29,x=>match rN x with|(n,x)=>(.allocT n,x)
 |30,x=>match rN x with|(n,x)=>match rO x with|(a,x)=>match rO x with|(b,x)=>(.storeT n a b,x)
 |31,x=>match rT x with|(g,x)=>match rN x with|(n,x)=>match rO x with|(a,x)=>(.loadA g n a,x)
 |32,x=>match rN x with|(n,x)=>match rO x with|(a,x)=>match rO x with|(b,x)=>(.storeB n a b,x)
 |33,x=>match rN x with|(k,x)=>match rN x with|(n,x)=>match rN x with|(m,x)=>match rO x with|(a,x)=>match rO x with|(b,x)=>match rO x with|(c,x)=>(.insert k n m a b c,x)
 |34,x=>match rO x with|(a,x)=>match rO x with|(b,x)=>(.mget a b,x)
 |35,x=>match rO x with|(a,x)=>(.b2s a,x)
 |36,x=>match rN x with|(n,x)=>match rO x with|(a,x)=>match rO x with|(b,x)=>(.appendS n a b,x)
 |38,x=>match rO x with|(a,x)=>match rO x with|(b,x)=>match rO x with|(c,x)=>(.mset a b c,x)
 |39,x=>match rN x with|(n,x)=>match EY rO x with|(xz,x)=>(.buildF n xz,x)
 |40,x=>match rT x with|(g,x)=>match rO x with|(a,x)=>match rO x with|(b,x)=>(.mm g a b,x)
 |41,x=>match rO x with|(a,x)=>match Tx x with|(l,x)=>match Tx x with|(h,x)=>(.slcS a l h,x)
 |42,x=>match rO x with|(a,x)=>match rT x with|(g,x)=>match rN x with|(n,x)=>match rN x with|(m,x)=>(.field a g n m,x)
 |43,x=>match rN x with|(n,x)=>match rO x with|(a,x)=>match rO x with|(b,x)=>(.storeD n a b,x)
 |44,x=>match rN x with|(n,x)=>match EY rO x with|(xz,x)=>(.buildD n xz,x)
 |45,x=>match rN x with|(n,x)=>match rN x with|(m,x)=>match rO x with|(a,x)=>match rO x with|(b,x)=>(.appendD n m a b,x)
 |46,x=>match rN x with|(n,x)=>match EY rO x with|(xz,x)=>(.callC n xz,x)
 |47,x=>match rO x with|(a,x)=>(.lenZ a,x)
 |48,x=>match rN x with|(n,x)=>match rO x with|(a,x)=>match rO x with|(b,x)=>(.indexZ n a b,x)
 |49,x=>match rT x with|(g,x)=>match rN x with|(n,x)=>match rO x with|(a,x)=>(.loadZ g n a,x)
 |50,x=>match rN x with|(n,x)=>match rO x with|(a,x)=>match rO x with|(b,x)=>(.storeZ n a b,x)
 |51,x=>match rN x with|(n,x)=>match EY rO x with|(xz,x)=>(.callF n xz,x)
 |52,x=>match rN x with|(n,x)=>match EY rO x with|(xz,x)=>(.callZ n xz,x)
 |53,x=>match rN x with|(n,x)=>match rO x with|(a,x)=>match rO x with|(b,x)=>(.callM n a b,x)
 |54,x=>match EY Ui x with|(cs,x)=>(.allocW cs,x)
 |55,x=>match rN x with|(n,x)=>match EY Ui x with|(cs,x)=>(.allocAt n cs,x)
 |56,x=>match rN x with|(k,x)=>match rN x with|(n,x)=>match rO x with|(a,x)=>match rO x with|(b,x)=>(.delF k n a b,x)
 |57,x=>match rT x with|(g,x)=>match rN x with|(n,x)=>match rO x with|(a,x)=>match rN x with|(r,x)=>(.loadN g n a r,x)
 |58,x=>match rN x with|(n,x)=>match rN x with|(z,x)=>match rO x with|(a,x)=>match rO x with|(b,x)=>(.indexP n z a b,x)
 |_,x=>(.mkmap,x)
def U8 (x:Nat):AOper×Nat:=match x%6,x/6 with
 |0,x=>match rA x with|(o,x)=>(⟨none,o,none⟩,x)
 |1,x=>match rQ x with|(d,x)=>match rA x with|(o,x)=>(⟨some d,o,none⟩,x)
 |2,x=>match rQ x with|(q,x)=>match rA x with|(o,x)=>(⟨none,o,some (q,true)⟩,x)
 |3,x=>match rQ x with|(d,x)=>match rQ x with|(q,x)=>match rA x with|(o,x)=>(⟨some d,o,some (q,true)⟩,x)
 |4,x=>match rQ x with|(q,x)=>match rA x with|(o,x)=>(⟨none,o,some (q,false)⟩,x)
 |_,x=>match rQ x with|(d,x)=>match rQ x with|(q,x)=>match rA x with|(o,x)=>(⟨some d,o,some (q,false)⟩,x)
def rC (bs:List ACode):Nat→Nat→ACode×Nat
 |0,x=>(.skip,x)
 |n+1,x=>match x%8,x/8 with
  |0,x=>(.skip,x)
  |1,x=>(.ret,x)
  |2,x=>match EY U8 x with|(os,x)=>(.region os,x)
  |3,x=>match rC bs n x with|(a,x)=>match rC bs n x with|(b,x)=>(.seq a b,x)
  |4,x=>match rO x with|(c,x)=>match rC bs n x with|(a,x)=>match rC bs n x with|(b,x)=>(.cond c a b,x)
  |5,x=>match rN x with|(i,x)=>match rC bs n x with|(a,x)=>(.block i a,x)
  |6,x=>match rN x with|(i,x)=>(.exit i,x)
  |_,x=>match rN x with|(i,x)=>(.loop (bs.getD i .skip),x)
def rF (bs:List ACode)(x:Nat):AFn:=match rN x with
 |(n,x)=>match EY (fun x=>match x%2,x/2 with
  |0,x=>match rN x with|(t,x)=>(ARes.tmp t,x)
  |_,x=>match rN x with|(t,x)=>match rN x with|(n,x)=>(ARes.cell t n,x)) x with
  |(rs,x)=>⟨n,rs,(rC bs 60 x).1⟩
def rD (bs:List ACode)(x:Nat):ACode:=(rC bs 60 x).1
theorem SH (n:Nat):zi n=(n:Int):=by unfold zi;rfl
theorem SI (n:Nat):zm n= -(n:Int):=by unfold zm;rfl
theorem SJ (n:Nat):zu n=UInt8.ofNat n:=by unfold zu;rfl
structure RF (bs:List ACode) (n:Nat) where
 v:AFn
 h:rF bs n=v:=by conv=>lhs;reduce;simp only[SH,SI,SJ,Int.cast_ofNat_Int,UInt8.reduceOfNat]
structure RD (bs:List ACode) (n:Nat) where
 v:ACode
 h:rD bs n=v:=by conv=>lhs;reduce;simp only[SH,SI,SJ,Int.cast_ofNat_Int,UInt8.reduceOfNat]
end Gi
