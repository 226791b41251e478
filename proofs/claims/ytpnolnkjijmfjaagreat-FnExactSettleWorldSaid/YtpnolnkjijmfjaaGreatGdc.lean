/- Of this proof. -/
import Derived.Test.YtpnolnkjijmfjaaGreatGiv
set_option linter.all false
namespace Gi
open Go
def rM (m x:Nat):Nat×Nat:=(x%m,x/m)
def rBs (r:Nat):Nat->Nat->Nat->Nat->Nat×Nat
 |0,a,_,x=>(a,x)
 |k+1,a,m,x=>rBs r k (a+m*(x%r)) (m*r) (x/r)
def rG (r t x:Nat):Nat×Nat:=bif Nat.blt (x%r) t then(x%r,x/r)else rBs r (bif Nat.blt (x%r-t) 7 then x%r-t+1 else 13) t 1 (x/r)
def qD {α β:Type}(r:Nat->α×Nat)(k:α->Nat->β×Nat)(x:Nat):β×Nat:=match r x with|(a,y)=>k a y
def qE {α:Type}(a:α)(x:Nat):α×Nat:=(a,x)
def aR :List (Nat×Nat×Nat)->Nat->Nat×Nat
 |[],x=>(0,x)
 |(m,c,a)::l,x=>bif Nat.beq (x%m) c then(a,x/m)else aR l x
def tN :List (Nat×Nat×Nat):=[(4,0,2),(4,2,1),(8,1,3),(16,5,4),(16,13,5),(16,3,0),(32,11,6),(32,27,8),(64,7,11),(64,39,7),(64,23,25),(64,55,10),(128,15,9),(128,79,12),(256,47,59),(256,175,62),(256,111,14),(256,239,17),(512,31,13),(512,287,16),(512,159,20),(512,415,178),(512,95,179),(512,351,18),(512,223,57),(512,479,22),(512,63,589833),(1024,319,27),(1024,831,23),(1024,191,24),(1024,703,192),(1024,447,73),(1024,959,37),(1024,127,21),(1024,639,33),(1024,383,68),(1024,895,188),(1024,255,15),(1024,767,19),(1024,511,26),(1024,1023,49)]
def tO :List (Nat×Nat×Nat):=[(2,0,0),(16,1,1),(16,9,2),(32,5,3),(32,21,99),(32,13,4),(32,29,62),(32,3,61),(32,19,13),(64,11,11),(64,43,14),(64,27,64),(64,59,5),(64,7,65),(64,39,6),(128,23,7),(128,87,18),(128,55,16),(128,119,12),(128,15,15),(128,79,17),(256,47,19),(256,175,21),(256,111,20),(256,239,10),(256,31,22),(512,159,24),(512,415,31),(512,95,42),(512,351,23),(512,223,60),(512,479,29),(512,63,32),(1024,319,43),(1024,831,38),(1024,191,28),(1024,703,27),(1024,447,26),(1024,959,39),(1024,127,37),(1024,639,55),(1024,383,36),(1024,895,25),(1024,255,33),(1024,767,35),(1024,511,57),(2048,1023,46),(2048,2047,30)]
def tA :List (Nat×Nat×Nat):=[(4,0,0),(8,2,1),(8,6,2),(16,1,3),(16,9,4),(32,5,9),(32,21,8),(32,13,5),(32,29,43),(32,3,11),(32,19,6),(32,11,7),(32,27,10),(64,7,12),(64,39,46),(64,23,22),(128,55,45),(128,119,44),(128,15,16),(128,79,13),(256,47,15),(256,175,19),(256,111,57),(256,239,49),(256,31,32),(256,159,20),(512,95,14),(512,351,39),(512,223,26),(512,479,21),(512,63,55),(1024,319,51),(1024,831,24),(1024,191,23),(1024,703,28),(1024,447,31),(1024,959,64),(1024,127,27),(1024,639,59),(2048,383,50),(2048,1407,25),(2048,895,33),(2048,1919,29),(2048,255,30),(2048,1279,52),(2048,767,53),(2048,1791,54),(2048,511,36),(2048,1535,40),(2048,1023,60),(2048,2047,56)]
def tF :List (Nat×Nat×Nat):=[(2,0,0),(4,1,1),(8,3,2),(16,7,3),(32,15,4),(128,31,5),(128,95,6),(128,63,7),(128,127,8)]
def tC :List (Nat×Nat×Nat):=[(2,0,3),(4,1,2),(16,3,1),(16,11,4),(16,7,0),(32,15,5),(64,31,6),(64,63,7)]
def rN :Nat->Nat×Nat:=qD (aR tN) fun v=>match v with
 |0=>rG 32 24
 |n+1=>qE n
def rQ (x:Nat):Nat×Nat:=rG 64 56 x
def rT (x:Nat):Bool×Nat:=(Nat.beq (x%2) 1,x/2)
def rL {α:Type}(f:Nat->α×Nat):Nat->Nat->List α×Nat
 |0,x=>([],x)
 |n+1,x=>match f x with|(a,y)=>match rL f n y with|(xz,z)=>(a::xz,z)
def MG {α:Type}(f:Nat->α×Nat)(x:Nat):List α×Nat:=match rN x with|(n,y)=>rL f n y
def rK :Nat->IntKind
 |0=> .i64
 |1=> .u8
 |2=> .i32
 |3=> .u32
 |4=> .u64
 |5=> .i8
 |6=> .i16
 |_=> .u16
@[irreducible] def zi (n:Nat):Int:=n
@[irreducible] def zm (n:Nat):Int:= -n
@[irreducible] def zu (n:Nat):UInt8:=UInt8.ofNat n
def rP (x:Nat):PV×Nat:=match x%64 with
 |5=>match rN (x/512)with|(n,y)=>(.int (rK (x/64%8)) (zi n),y)
 |6=>match rN (x/512)with|(n,y)=>(.int (rK (x/64%8)) (zm n),y)
 |7=>(.bool true,x/64)
 |8=>(.bool false,x/64)
 |9=>match MG (fun x=>(zu (x%256),x/256)) (x/64)with|(s,y)=>(.str s,y)
 |_=>(.lst [],x/64)
def rX (x:Nat):Opd×Nat:=match rQ x with
 |(k,y)=>bif Nat.blt k 12 then(match k with
  |0=>(.nil,y)
  |10=>match rN y with|(n,z)=>(.fn n,z)
  |_=>match rP x with|(p,z)=>(.pv p,z))else(.tmp (k-12),y)
def rLc (x:Nat):L×Nat:=match x%64 with
 |0=>(.nil,x/64)
 |_=>match rP x with|(p,z)=>(.pv p,z)
def rO (p:Nat):Nat->Opd×Nat:=qD (aR tO) fun v=>bif Nat.blt v 8 then qE (.tmp (p-v))else bif Nat.blt v 60 then qE (.tmp (v-10))else match v with
 |60=>qE .nil
 |61=>qE (.pv (.int .i64 (zi 0)))
 |62=>qE (.pv (.bool false))
 |63=>qE (.pv (.str []))
 |64=>qE (.pv (.int .i64 (zi 1)))
 |65=>qE (.pv (.bool true))
 |_=>rX
def rOp (p x:Nat):Option Opd×Nat:=match x%2 with
 |0=>(none,x/2)
 |_=>match rO p (x/2)with|(o,y)=>(some o,y)
def rEK (x:Nat):EK×Nat:=(match x%3 with
 |0=> .b
 |1=> .i
 |_=> .s,x/3)
def rBn (x:Nat):BinOp:=match x with
 |0=> .add
 |1=> .sub
 |2=> .mul
 |3=> .quo
 |4=> .rem
 |5=> .and
 |6=> .or
 |7=> .eql
 |8=> .neq
 |9=> .lss
 |10=> .leq
 |11=> .gtr
 |12=> .geq
 |13=> .shl
 |_=> .shr
def rA (p:Nat):Nat->AOp×Nat:=qD (aR tA) fun v=>match v with
 |0=>qD (rO p) fun a=>qE (.mv a)
 |1=>qD rT fun g=>qD rN fun n=>qD (rO p) fun a=>qE (.load g n a)
 |2=>qD (rO p) fun a=>qD rN fun n=>qE (.bo a n)
 |3=>qD (rM 15) fun o=>qD (rO p) fun a=>qD (rO p) fun b=>qE (.bin (rBn o) a b)
 |4=>qD rN fun f=>qD (MG (rO p)) fun xz=>qD rT fun p=>qD rT fun q=>qE (.call f xz p q)
 |5=>qD (rO p) fun a=>qE (.box a)
 |6=>qD (rO p) fun a=>qE (.len a)
 |7=>qD rN fun n=>qD (rO p) fun a=>qD (rO p) fun b=>qE (.store n a b)
 |8=>qD rN fun n=>qD (rO p) fun a=>qD (rO p) fun b=>qE (.bH n a b)
 |9=>qD (rO p) fun a=>qD (rO p) fun b=>qD (rO p) fun c=>qE (.pick a b c)
 |10=>qD rT fun g=>qD (rO p) fun a=>qE (.un (bif g then .neg else .not) a)
 |11=>qD (MG rLc) fun cs=>qE (.alloc cs)
 |12=>qD (rO p) fun a=>qD rN fun n=>qE (.extract a n)
 |13=>qD rN fun n=>qD (MG (rO p)) fun xz=>qE (.bO n xz)
 |14=>qD (rO p) fun a=>qE (.cN a)
 |15=>qD rN fun n=>qD rN fun m=>qD (rO p) fun a=>qD (rO p) fun b=>qE (.append n m a b)
 |16=>qD (MG rLc) fun cs=>qD (MG (qD rN fun i=>qD rN fun n=>qD (rO p) fun a=>qE (i,n,a))) fun ps=>qE (.build cs ps)
 |17=>qD rN fun n=>qD (MG rP) fun ps=>qD (rO p) fun a=>qE (.make n ps a)
 |18=>qD rT fun g=>qD (rO p) fun a=>qD (rO p) fun b=>qE (.cX g a b)
 |19=>qD rN fun n=>qD (MG (rO p)) fun xz=>qE (.bS n xz)
 |20=>qD (rO p) fun a=>qD (rO p) fun b=>qE (.cD a b)
 |21=>qD (rM 8) fun k=>qD (rO p) fun a=>qE (.conv (rK k) a)
 |22=>qD rT fun g=>qD rN fun n=>qD (rO p) fun a=>qE (.c7 g n a)
 |23=>qD (rO p) fun a=>qD (MG (rO p)) fun xz=>qE (.bp a xz)
 |24=>qD rN fun n=>qD (MG (rO p)) fun xz=>qE (.cE n xz)
 |25=>qD rT fun g=>qD (MG rEK) fun ks=>qD (rO p) fun a=>qD (rO p) fun b=>qE (.cY g ks a b)
 |26=>qD rN fun n=>qD (rO p) fun a=>qD (rOp p) fun l=>qD (rOp p) fun h=>qE (.c2 n a l h)
 |27=>qD (rO p) fun a=>qE (.cM a)
 |28=>qD rN fun n=>qD (rO p) fun a=>qD (rOp p) fun l=>qD (rOp p) fun h=>qE (.c8 n a l h)
 |29=>qD rN fun n=>qE (.bX n)
 |30=>qD rN fun n=>qD (rO p) fun a=>qD (rO p) fun b=>qE (.storeT n a b)
 |31=>qD rT fun g=>qD rN fun n=>qD (rO p) fun a=>qE (.bs g n a)
 |32=>qD rN fun n=>qD (rO p) fun a=>qD (rO p) fun b=>qE (.bR n a b)
 |33=>qD rN fun k=>qD rN fun n=>qD rN fun m=>qD (rO p) fun a=>qD (rO p) fun b=>qD (rO p) fun c=>qE (.insert k n m a b c)
 |35=>qD (rO p) fun a=>qE (.cS a)
 |36=>qD rN fun n=>qD (rO p) fun a=>qD (rO p) fun b=>qE (.bT n a b)
 |39=>qD rN fun n=>qD (MG (rO p)) fun xz=>qE (.bc n xz)
 |40=>qD rT fun g=>qD (rO p) fun a=>qD (rO p) fun b=>qE (.mm g a b)
 |43=>qD rN fun n=>qD (rO p) fun a=>qD (rO p) fun b=>qE (.storeD n a b)
 |44=>qD rN fun n=>qD (MG (rO p)) fun xz=>qE (.bZ n xz)
 |45=>qD rN fun n=>qD rN fun m=>qD (rO p) fun a=>qD (rO p) fun b=>qE (.bJ n m a b)
 |46=>qD rN fun n=>qD (MG (rO p)) fun xz=>qE (.bP n xz)
 |47=>qD (rO p) fun a=>qE (.c3 a)
 |48=>qD rN fun n=>qD (rO p) fun a=>qD (rO p) fun b=>qE (.bN n a b)
 |49=>qD rT fun g=>qD rN fun n=>qD (rO p) fun a=>qE (.bq g n a)
 |50=>qD rN fun n=>qD (rO p) fun a=>qD (rO p) fun b=>qE (.bY n a b)
 |51=>qD rN fun n=>qD (MG (rO p)) fun xz=>qE (.bf n xz)
 |52=>qD rN fun n=>qD (MG (rO p)) fun xz=>qE (.bg n xz)
 |53=>qD rN fun n=>qD (rO p) fun a=>qD (rO p) fun b=>qE (.bh n a b)
 |54=>qD (MG rLc) fun cs=>qE (.bd cs)
 |55=>qD rN fun n=>qD (MG rLc) fun cs=>qE (.bK n cs)
 |56=>qD rN fun k=>qD rN fun n=>qD (rO p) fun a=>qD (rO p) fun b=>qE (.c9 k n a b)
 |57=>qD rT fun g=>qD rN fun n=>qD (rO p) fun a=>qD rN fun r=>qE (.bj g n a r)
 |59=>qD rN fun n=>qD (rO p) fun a=>qE (.c5 n a)
 |60=>qD rN fun n=>qD (MG (rO p)) fun xz=>qE (.bt n xz)
 |64=>qD rN fun i=>qD rN fun n=>qD (rO p) fun a=>qD (rO p) fun b=>qE (.storeAt i n a b)
 |_=>qE (.mv .nil)
def oT :Opd->Nat
 | .tmp n=>n
 |_=>0
def rOr (p:Nat):Nat->(X2×Nat)×Nat:=qD (aR tF) fun v=>match v with
 |0=>qD (rA p) fun o=>qE (⟨some (p+1),o,none⟩,p+1)
 |1=>qD rQ fun d=>qD (rA p) fun o=>qE (⟨some d,o,none⟩,d)
 |2=>qD (rO p) fun q=>qD (rA p) fun o=>qE (⟨some (p+1),o,some (oT q,true)⟩,p+1)
 |3=>qD (rO p) fun q=>qD (rA p) fun o=>qE (⟨some (p+1),o,some (oT q,false)⟩,p+1)
 |4=>qD (rA p) fun o=>qE (⟨none,o,none⟩,p)
 |5=>qD rQ fun d=>qD (rO p) fun q=>qD (rA p) fun o=>qE (⟨some d,o,some (oT q,true)⟩,d)
 |6=>qD rQ fun d=>qD (rO p) fun q=>qD (rA p) fun o=>qE (⟨some d,o,some (oT q,false)⟩,d)
 |7=>qD (rO p) fun q=>qD (rA p) fun o=>qE (⟨none,o,some (oT q,true)⟩,p)
 |_=>qD (rO p) fun q=>qD (rA p) fun o=>qE (⟨none,o,some (oT q,false)⟩,p)
def rR :Nat->Nat->Nat->(List X2×Nat)×Nat
 |0,p=>qE ([],p)
 |n+1,p=>qD (rOr p) fun o=>qD (rR n o.2) fun l=>qE (o.1::l.1,l.2)
def rC (bs:List Q7):Nat->Nat->Nat->(Q7×Nat)×Nat
 |0,p=>qE (.skip,p)
 |n+1,p=>qD (aR tC) fun v=>match v with
  |0=>qE (.skip,p)
  |1=>qE (.ret,p)
  |2=>qD rN fun k=>qD (rR k p) fun l=>qE (.region l.1,l.2)
  |3=>qD (rC bs n p) fun a=>qD (rC bs n a.2) fun b=>qE (.seq a.1 b.1,b.2)
  |4=>qD (rO p) fun c=>qD (rC bs n p) fun a=>qD (rC bs n a.2) fun b=>qE (.cond c a.1 b.1,b.2)
  |5=>qD rN fun i=>qD (rC bs n p) fun a=>qE (.block i a.1,a.2)
  |6=>qD rN fun i=>qE (.exit i,p)
  |_=>qD rN fun i=>qE (.loop (bs.getD i .skip),p)
def rF (bs:List Q7)(x:Nat):AFn:=(qD rN fun n=>qD (MG fun x=>match x%2 with
 |0=>qD rN (fun t=>qE (Z9.tmp t)) (x/2)
 |_=>qD rN (fun t=>qD rN fun n=>qE (Z9.cell t n)) (x/2)) fun rs=>qD (rC bs 60 0) fun c=>qE ⟨n,rs,c.1⟩) x|>.1
def rD (bs:List Q7)(x:Nat):Q7:=(rC bs 60 0 x).1.1
def adT (n:Nat):zi n=(n:Int):=by unfold zi;rfl
def adU (n:Nat):zm n= -(n:Int):=by unfold zm;rfl
def adV (n:Nat):zu n=UInt8.ofNat n:=by unfold zu;rfl
structure RF (bs:List Q7) (n:Nat) where
 v:AFn
 h:rF bs n=v:=by conv=>lhs;reduce;simp only[adT,adU,adV,Int.cast_ofNat_Int,UInt8.reduceOfNat]
structure RD (bs:List Q7) (n:Nat) where
 v:Q7
 h:rD bs n=v:=by conv=>lhs;reduce;simp only[adT,adU,adV,Int.cast_ofNat_Int,UInt8.reduceOfNat]
end Gi
