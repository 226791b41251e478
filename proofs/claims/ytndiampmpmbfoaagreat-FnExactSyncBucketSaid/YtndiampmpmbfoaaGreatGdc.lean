/- A part. -/
import Derived.Test.YtndiampmpmbfoaaGreatGiv
set_option linter.all false
namespace Gi
open Go
def rM (m x:Nat):Nat×Nat:=(x%m,x/m)
def Yj (r:Nat):Nat->Nat->Nat->Nat->Nat×Nat
 |0,a,_,x=>(a,x)
 |k+1,a,m,x=>Yj r k (a+m*(x%r)) (m*r) (x/r)
def rG (r t x:Nat):Nat×Nat:=bif Nat.blt (x%r) t then(x%r,x/r)else Yj r (bif Nat.blt (x%r-t) 7 then x%r-t+1 else 13) t 1 (x/r)
def rN (x:Nat):Nat×Nat:=rG 32 24 x
def rQ (x:Nat):Nat×Nat:=rG 64 56 x
def rT (x:Nat):Bool×Nat:=(Nat.beq (x%2) 1,x/2)
def rL {α:Type}(f:Nat->α×Nat):Nat->Nat->List α×Nat
 |0,x=>([],x)
 |n+1,x=>match f x with|(a,y)=>match rL f n y with|(xz,z)=>(a::xz,z)
def II {α:Type}(f:Nat->α×Nat)(x:Nat):List α×Nat:=match rN x with|(n,y)=>rL f n y
def rK :Nat->IntKind
 |0=> .i64
 |1=> .u8
 |2=> .i32
 |3=> .u32
 |4=> .u64
 |5=> .i8
 |6=> .i16
 |_=> .u16
@[irreducible] def zi (n:Nat):Int:=n
@[irreducible] def zm (n:Nat):Int:= -n
@[irreducible] def zu (n:Nat):UInt8:=UInt8.ofNat n
def rP (x:Nat):PV×Nat:=match x%64 with
 |5=>match rN (x/512)with|(n,y)=>(.int (rK (x/64%8)) (zi n),y)
 |6=>match rN (x/512)with|(n,y)=>(.int (rK (x/64%8)) (zm n),y)
 |7=>(.bool true,x/64)
 |8=>(.bool false,x/64)
 |9=>match II (fun x=>(zu (x%256),x/256)) (x/64)with|(s,y)=>(.str s,y)
 |_=>(.lst [],x/64)
def rO (x:Nat):Opd×Nat:=match rQ x with
 |(k,y)=>bif Nat.blt k 12 then(match k with
  |0=>(.nil,y)
  |10=>match rN y with|(n,z)=>(.fn n,z)
  |_=>match rP x with|(p,z)=>(.pv p,z))else(.tmp (k-12),y)
def XE (x:Nat):L×Nat:=match x%64 with
 |0=>(.nil,x/64)
 |_=>match rP x with|(p,z)=>(.pv p,z)
def XF (x:Nat):Option Opd×Nat:=match x%2 with
 |0=>(none,x/2)
 |_=>match rO (x/2)with|(o,y)=>(some o,y)
def YA (x:Nat):EK×Nat:=(match x%3 with
 |0=> .b
 |1=> .i
 |_=> .s,x/3)
def Yz (x:Nat):BinOp:=match x with
 |0=> .add
 |1=> .sub
 |2=> .mul
 |3=> .quo
 |4=> .rem
 |5=> .and
 |6=> .or
 |7=> .eql
 |8=> .neq
 |9=> .lss
 |10=> .leq
 |11=> .gtr
 |12=> .geq
 |13=> .shl
 |_=> .shr
def r2 {α β:Type}(f:Nat->α×Nat)(g:Nat->β×Nat)(x:Nat):(α×β)×Nat:=match f x with|(a,y)=>match g y with|(b,z)=>((a,b),z)
def rA (x:Nat):AOp×Nat:=match x%65,x/65 with
 |0,x=>match rO x with|(a,x)=>(.mv a,x)
 |1,x=>match rT x with|(g,x)=>match rN x with|(n,x)=>match rO x with|(a,x)=>(.load g n a,x)
 |2,x=>match rO x with|(a,x)=>match rN x with|(n,x)=>(.bl a n,x)
 |3,x=>match rM 15 x with|(o,x)=>match rO x with|(a,x)=>match rO x with|(b,x)=>(.bin (Yz o) a b,x)
 |4,x=>match rN x with|(f,x)=>match II rO x with|(xz,x)=>match rT x with|(p,x)=>match rT x with|(q,x)=>(.call f xz p q,x)
 |5,x=>match rO x with|(a,x)=>(.box a,x)
 |6,x=>match rO x with|(a,x)=>(.len a,x)
 |7,x=>match rN x with|(n,x)=>match rO x with|(a,x)=>match rO x with|(b,x)=>(.store n a b,x)
 |8,x=>match rN x with|(n,x)=>match rO x with|(a,x)=>match rO x with|(b,x)=>(.bF n a b,x)
 |9,x=>match rO x with|(a,x)=>match rO x with|(b,x)=>match rO x with|(c,x)=>(.pick a b c,x)
 |10,x=>match rT x with|(g,x)=>match rO x with|(a,x)=>(.un (bif g then .neg else .not) a,x)
 |11,x=>match II XE x with|(cs,x)=>(.alloc cs,x)
 |12,x=>match rO x with|(a,x)=>match rN x with|(n,x)=>(.extract a n,x)
 |13,x=>match rN x with|(n,x)=>match II rO x with|(xz,x)=>(.bN n xz,x)
 |14,x=>match rO x with|(a,x)=>(.cH a,x)
 |15,x=>match rN x with|(n,x)=>match rN x with|(m,x)=>match rO x with|(a,x)=>match rO x with|(b,x)=>(.append n m a b,x)
 |16,x=>match II XE x with|(cs,x)=>match II (fun x=>match rN x with|(i,x)=>match rN x with|(n,x)=>match rO x with|(a,x)=>((i,n,a),x)) x with|(ps,x)=>(.build cs ps,x)
 |17,x=>match rN x with|(n,x)=>match II rP x with|(ps,x)=>match rO x with|(a,x)=>(.make n ps a,x)
 |18,x=>match rT x with|(g,x)=>match rO x with|(a,x)=>match rO x with|(b,x)=>(.cQ g a b,x)
 |19,x=>match rN x with|(n,x)=>match II rO x with|(xz,x)=>(.bR n xz,x)
 |20,x=>match rO x with|(a,x)=>match rO x with|(b,x)=>(.c7 a b,x)
 |21,x=>match rM 8 x with|(k,x)=>match rO x with|(a,x)=>(.conv (rK k) a,x)
 |22,x=>match rT x with|(g,x)=>match rN x with|(n,x)=>match rO x with|(a,x)=>(.c1 g n a,x)
 |23,x=>match rO x with|(a,x)=>match II rO x with|(xz,x)=>(.bm a xz,x)
 |24,x=>match rN x with|(n,x)=>match II rO x with|(xz,x)=>(.c8 n xz,x)
 |25,x=>match rT x with|(g,x)=>match II YA x with|(ks,x)=>match rO x with|(a,x)=>match rO x with|(b,x)=>(.cR g ks a b,x)
 |26,x=>match rN x with|(n,x)=>match rO x with|(a,x)=>match XF x with|(l,x)=>match XF x with|(h,x)=>(.bw n a l h,x)
 |27,x=>match rO x with|(a,x)=>(.cG a,x)
 |28,x=>match rN x with|(n,x)=>match rO x with|(a,x)=>match XF x with|(l,x)=>match XF x with|(h,x)=>(.c2 n a l h,x)
 |29,x=>match rN x with|(n,x)=>(.bU n,x)
 |30,x=>match rN x with|(n,x)=>match rO x with|(a,x)=>match rO x with|(b,x)=>(.storeT n a b,x)
 |31,x=>match rT x with|(g,x)=>match rN x with|(n,x)=>match rO x with|(a,x)=>(.bp g n a,x)
 |32,x=>match rN x with|(n,x)=>match rO x with|(a,x)=>match rO x with|(b,x)=>(.bQ n a b,x)
 |33,x=>match rN x with|(k,x)=>match rN x with|(n,x)=>match rN x with|(m,x)=>match rO x with|(a,x)=>match rO x with|(b,x)=>match rO x with|(c,x)=>(.insert k n m a b c,x)
 |35,x=>match rO x with|(a,x)=>(.cL a,x)
 |36,x=>match rN x with|(n,x)=>match rO x with|(a,x)=>match rO x with|(b,x)=>(.bS n a b,x)
 |39,x=>match rN x with|(n,x)=>match II rO x with|(xz,x)=>(.bZ n xz,x)
 |40,x=>match rT x with|(g,x)=>match rO x with|(a,x)=>match rO x with|(b,x)=>(.mm g a b,x)
 |43,x=>match rN x with|(n,x)=>match rO x with|(a,x)=>match rO x with|(b,x)=>(.storeD n a b,x)
 |44,x=>match rN x with|(n,x)=>match II rO x with|(xz,x)=>(.bW n xz,x)
 |45,x=>match rN x with|(n,x)=>match rN x with|(m,x)=>match rO x with|(a,x)=>match rO x with|(b,x)=>(.bI n m a b,x)
 |46,x=>match rN x with|(n,x)=>match II rO x with|(xz,x)=>(.bO n xz,x)
 |47,x=>match rO x with|(a,x)=>(.bx a,x)
 |48,x=>match rN x with|(n,x)=>match rO x with|(a,x)=>match rO x with|(b,x)=>(.bM n a b,x)
 |49,x=>match rT x with|(g,x)=>match rN x with|(n,x)=>match rO x with|(a,x)=>(.bn g n a,x)
 |50,x=>match rN x with|(n,x)=>match rO x with|(a,x)=>match rO x with|(b,x)=>(.bV n a b,x)
 |51,x=>match rN x with|(n,x)=>match II rO x with|(xz,x)=>(.bb n xz,x)
 |52,x=>match rN x with|(n,x)=>match II rO x with|(xz,x)=>(.bc n xz,x)
 |53,x=>match rN x with|(n,x)=>match rO x with|(a,x)=>match rO x with|(b,x)=>(.bd n a b,x)
 |54,x=>match II XE x with|(cs,x)=>(.ba cs,x)
 |55,x=>match rN x with|(n,x)=>match II XE x with|(cs,x)=>(.bJ n cs,x)
 |56,x=>match rN x with|(k,x)=>match rN x with|(n,x)=>match rO x with|(a,x)=>match rO x with|(b,x)=>(.c3 k n a b,x)
 |57,x=>match rT x with|(g,x)=>match rN x with|(n,x)=>match rO x with|(a,x)=>match rN x with|(r,x)=>(.bf g n a r,x)
 |59,x=>match rN x with|(n,x)=>match rO x with|(a,x)=>(.bz n a,x)
 |60,x=>match rN x with|(n,x)=>match II rO x with|(xz,x)=>(.bq n xz,x)
 |64,x=>match rN x with|(i,x)=>match rN x with|(n,x)=>match rO x with|(a,x)=>match rO x with|(b,x)=>(.storeAt i n a b,x)
 |_,x=>(.mv .nil,x)
def YB (x:Nat):Z0×Nat:=match x%6,x/6 with
 |0,x=>match rA x with|(o,x)=>(⟨none,o,none⟩,x)
 |1,x=>match rQ x with|(d,x)=>match rA x with|(o,x)=>(⟨some d,o,none⟩,x)
 |2,x=>match rQ x with|(q,x)=>match rA x with|(o,x)=>(⟨none,o,some (q,true)⟩,x)
 |3,x=>match rQ x with|(d,x)=>match rQ x with|(q,x)=>match rA x with|(o,x)=>(⟨some d,o,some (q,true)⟩,x)
 |4,x=>match rQ x with|(q,x)=>match rA x with|(o,x)=>(⟨none,o,some (q,false)⟩,x)
 |_,x=>match rQ x with|(d,x)=>match rQ x with|(q,x)=>match rA x with|(o,x)=>(⟨some d,o,some (q,false)⟩,x)
def rC (bs:List Y5):Nat->Nat->Y5×Nat
 |0,x=>(.skip,x)
 |n+1,x=>match x%8,x/8 with
  |0,x=>(.skip,x)
  |1,x=>(.ret,x)
  |2,x=>match II YB x with|(os,x)=>(.region os,x)
  |3,x=>match rC bs n x with|(a,x)=>match rC bs n x with|(b,x)=>(.seq a b,x)
  |4,x=>match rO x with|(c,x)=>match rC bs n x with|(a,x)=>match rC bs n x with|(b,x)=>(.cond c a b,x)
  |5,x=>match rN x with|(i,x)=>match rC bs n x with|(a,x)=>(.block i a,x)
  |6,x=>match rN x with|(i,x)=>(.exit i,x)
  |_,x=>match rN x with|(i,x)=>(.loop (bs.getD i .skip),x)
def rF (bs:List Y5)(x:Nat):AFn:=match rN x with
 |(n,x)=>match II (fun x=>match x%2,x/2 with
  |0,x=>match rN x with|(t,x)=>(YW.tmp t,x)
  |_,x=>match rN x with|(t,x)=>match rN x with|(n,x)=>(YW.cell t n,x)) x with
  |(rs,x)=>⟨n,rs,(rC bs 60 x).1⟩
def rD (bs:List Y5)(x:Nat):Y5:=(rC bs 60 x).1
def VV (n:Nat):zi n=(n:Int):=by unfold zi;rfl
def VW (n:Nat):zm n= -(n:Int):=by unfold zm;rfl
def VX (n:Nat):zu n=UInt8.ofNat n:=by unfold zu;rfl
structure RF (bs:List Y5) (n:Nat) where
 v:AFn
 h:rF bs n=v:=by conv=>lhs;reduce;simp only[VV,VW,VX,Int.cast_ofNat_Int,UInt8.reduceOfNat]
structure RD (bs:List Y5) (n:Nat) where
 v:Y5
 h:rD bs n=v:=by conv=>lhs;reduce;simp only[VV,VW,VX,Int.cast_ofNat_Int,UInt8.reduceOfNat]
end Gi
