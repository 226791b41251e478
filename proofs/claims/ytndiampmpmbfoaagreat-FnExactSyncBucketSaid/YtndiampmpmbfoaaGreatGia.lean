/- A part. -/
import Derived.WalkKit
set_option linter.all false
namespace Gi
open Go
theorem Za : type_of% @List.getElem?_set_ne := @List.getElem?_set_ne
theorem Zb : type_of% @List.getElem?_eq_some_iff := @List.getElem?_eq_some_iff
theorem Zc : type_of% @Nat.le_trans := @Nat.le_trans
theorem Zd : type_of% @List.getElem?_set_self := @List.getElem?_set_self
theorem Ze : type_of% @List.getElem?_append_left := @List.getElem?_append_left
theorem Zf : type_of% @List.getElem_mem := @List.getElem_mem
theorem Zg : type_of% @List.cons_append := @List.cons_append
theorem Zh : type_of% @Bool.and_eq_true := @Bool.and_eq_true
theorem Zi : type_of% @List.nil_append := @List.nil_append
theorem Zj : type_of% @Option.map_eq_some_iff := @Option.map_eq_some_iff
theorem Zk : type_of% @List.getElem?_append_right := @List.getElem?_append_right
theorem Zl : type_of% @List.mem_of_getElem? := @List.mem_of_getElem?
theorem Zm : type_of% @List.getElem?_eq_getElem := @List.getElem?_eq_getElem
theorem Zn : type_of% @Nat.le_refl := @Nat.le_refl
theorem Zo : type_of% @List.length_cons := @List.length_cons
theorem Zp : type_of% @List.getElem?_map := @List.getElem?_map
theorem Zq : type_of% @List.all_cons := @List.all_cons
theorem Zr : type_of% @List.length_map := @List.length_map
theorem Zs : type_of% @List.take_of_length_le := @List.take_of_length_le
theorem Zt : type_of% @List.all_eq_true := @List.all_eq_true
theorem Zu : type_of% @List.length_append := @List.length_append
theorem Zv : type_of% @List.map_cons := @List.map_cons
theorem Zw : type_of% @List.append_nil := @List.append_nil
theorem Zx : type_of% @List.length_nil := @List.length_nil
theorem Zy : type_of% @Bool.false_eq_true := @Bool.false_eq_true
theorem Zz : type_of% @List.map_nil := @List.map_nil
theorem ZG : type_of% @Nat.lt_of_lt_of_le := @Nat.lt_of_lt_of_le
theorem ZH : type_of% @Nat.mul_le_mul_right := @Nat.mul_le_mul_right
theorem ZI : type_of% @List.mem_of_mem_take := @List.mem_of_mem_take
theorem ZJ : type_of% @Bool.not_eq_true' := @Bool.not_eq_true'
theorem ZK : type_of% @List.length_set := @List.length_set
theorem ZL : type_of% @List.mem_cons := @List.mem_cons
theorem ZM : type_of% @List.length_take := @List.length_take
theorem ZN : type_of% @List.length_singleton := @List.length_singleton
theorem ZO : type_of% @Nat.zero_add := @Nat.zero_add
theorem ZP : type_of% @List.getElem?_take := @List.getElem?_take
theorem ZQ : type_of% @List.take_zero := @List.take_zero
theorem ZR : type_of% @List.length_eq_one_iff := @List.length_eq_one_iff
theorem ZS : type_of% @List.map_congr_left := @List.map_congr_left
theorem ZT : type_of% @List.set_cons_zero := @List.set_cons_zero
theorem ZU : type_of% @Bool.and_self := @Bool.and_self
theorem ZV : type_of% @List.findIdx?_eq_some_iff_getElem := @List.findIdx?_eq_some_iff_getElem
theorem ZW : type_of% @List.getElem?_eq_none := @List.getElem?_eq_none
theorem ZX : type_of% @List.take_succ_eq_append_getElem := @List.take_succ_eq_append_getElem
theorem ZY : type_of% @Array.getElem?_append_left := @Array.getElem?_append_left
theorem ZZ : type_of% @Array.toList_map := @Array.toList_map
theorem Y' : type_of% @List.flatMap_cons := @List.flatMap_cons
theorem Q' : type_of% @List.mem_or_eq_of_mem_set := @List.mem_or_eq_of_mem_set
theorem K' : type_of% @Bool.or_eq_false_iff := @Bool.or_eq_false_iff
theorem H' : type_of% @List.mem_append := @List.mem_append
theorem U' : type_of% @List.set_cons_succ := @List.set_cons_succ
theorem V' : type_of% @List.mem_map := @List.mem_map
theorem A' : type_of% @List.getElem?_cons_zero := @List.getElem?_cons_zero
theorem T' : type_of% @List.getElem_of_mem := @List.getElem_of_mem
theorem B' : type_of% @Nat.le_add_right := @Nat.le_add_right
theorem C' : type_of% @Bool.and_true := @Bool.and_true
theorem D' : type_of% @Nat.one_mul := @Nat.one_mul
theorem F' : type_of% @List.take_length := @List.take_length
theorem G' : type_of% @Bool.and_false := @Bool.and_false
theorem I' : type_of% @List.mem_iff_getElem := @List.mem_iff_getElem
theorem L' : type_of% @List.nodup_cons := @List.nodup_cons
theorem N' : type_of% @Array.length_toList := @Array.length_toList
theorem P' : type_of% @List.getElem?_cons_succ := @List.getElem?_cons_succ
theorem R' : type_of% @Array.getElem?_eq_some_iff := @Array.getElem?_eq_some_iff
theorem S' : type_of% @Nat.eq_of_mul_eq_mul_right := @Nat.eq_of_mul_eq_mul_right
theorem Za0 : type_of% @List.mem_of_mem_drop := @List.mem_of_mem_drop
theorem Za1 : type_of% @List.mem_cons_of_mem := @List.mem_cons_of_mem
theorem Za2 : type_of% @Bool.not_eq_false' := @Bool.not_eq_false'
theorem Za3 : type_of% @Option.getD_some := @Option.getD_some
theorem Za4 : type_of% @Array.getElem?_eq_none := @Array.getElem?_eq_none
theorem Za5 : type_of% @List.drop_eq_nil_of_le := @List.drop_eq_nil_of_le
theorem Za6 : type_of% @Bool.true_and := @Bool.true_and
theorem Za7 : type_of% @Nat.add_zero := @Nat.add_zero
theorem Za8 : type_of% @List.getElem_cons_zero := @List.getElem_cons_zero
theorem Za9 : type_of% @Bool.false_and := @Bool.false_and
theorem Zb0 : type_of% @List.getD_cons_zero := @List.getD_cons_zero
theorem Zb1 : type_of% @List.findIdx?_eq_none_iff := @List.findIdx?_eq_none_iff
theorem Zb2 : type_of% @List.mem_cons_self := @List.mem_cons_self
theorem Zb3 : type_of% @List.flatMap_nil := @List.flatMap_nil
theorem Zb4 : type_of% @Array.getElem?_setIfInBounds_self_of_lt := @Array.getElem?_setIfInBounds_self_of_lt
theorem Zb5 : type_of% @Nat.mul_comm := @Nat.mul_comm
theorem Zb6 : type_of% @Nat.sub_self := @Nat.sub_self
theorem Zb7 : type_of% @Bool.true_or := @Bool.true_or
theorem Zb8 : type_of% @Bool.not_true := @Bool.not_true
theorem Zb9 : type_of% @Nat.zero_le := @Nat.zero_le
theorem Zc0 : type_of% @List.ext_getElem? := @List.ext_getElem?
theorem Zc1 : type_of% @Bool.or_eq_true := @Bool.or_eq_true
theorem Zc2 : type_of% @Array.getElem?_append_right := @Array.getElem?_append_right
theorem Zc3 : type_of% @Nat.add_assoc := @Nat.add_assoc
theorem Zc4 : type_of% @List.getElem?_drop := @List.getElem?_drop
theorem Zc5 : type_of% @List.exists_cons_of_ne_nil := @List.exists_cons_of_ne_nil
theorem Zc6 : type_of% @List.set_append_right := @List.set_append_right
theorem Zc7 : type_of% @Array.getElem?_setIfInBounds_ne := @Array.getElem?_setIfInBounds_ne
theorem Zc8 : type_of% @List.filterMap_cons := @List.filterMap_cons
theorem Zc9 : type_of% @List.length_drop := @List.length_drop
theorem Zd0 : type_of% @List.filter_cons := @List.filter_cons
theorem Zd1 : type_of% @List.find?_eq_some_iff_getElem := @List.find?_eq_some_iff_getElem
theorem Zd2 : type_of% @Nat.le_of_lt := @Nat.le_of_lt
theorem Zd3 : type_of% @List.getElem_cons_succ := @List.getElem_cons_succ
theorem Zd4 : type_of% @List.map_set := @List.map_set
inductive PV where
 |int (k:IntKind) (n:Int)
 |bool (b:Bool)
 |str (s:List UInt8)
 |lst (es:List (List PV))
inductive L where
 |pv (p:PV)
 |ptr (o i j:Nat)
 |ip (e:List PV) (j:Nat)
 |arr (o:Nat)
 |nil
 |own (z:Nat) (es:List (List PV))
 |down (z:Nat) (es:List (List PV))
 |fn (k:Nat) (caps:List (List PV))
 |tp (n:Nat)
 |sub (o c:Nat)
 |c6 (o l r:Nat)
 |bs
inductive V where
 |one (l:L)
 |agg (ls:List L)
 |b9 (vs:List (Bool×List L))
inductive Y0 where
 |box (cs:List L)
 |arr (z:Nat) (es:List (List PV))
 |bH (z:Nat) (es:List (List PV))
 |bA (z:Nat) (es:List (List PV))
 |bB (z:Nat) (es:List (List PV))
 |bL (ps:List PV)
 |bT (n:Nat)
 |dead
 |res
structure St where
 t:List V
 h:List Y0
inductive Opd where
 |tmp (n:Nat)
 |pv (p:PV)
 |nil
 |fn (k:Nat)
inductive EK where
 |b
 |i
 |s
inductive AOp where
 |mv (x:Opd)
 |pick (c a b:Opd)
 |alloc (zero:List L)
 |box (x:Opd)
 |build (zero:List L) (parts:List (Nat×Nat×Opd))
 |bN (z:Nat) (parts:List Opd)
 |load (isAgg:Bool) (n:Nat) (a:Opd)
 |store (n:Nat) (a v:Opd)
 |bin (op:BinOp) (x y:Opd)
 |cQ (neg:Bool) (x y:Opd)
 |un (op:UnOp) (x:Opd)
 |conv (k:IntKind) (x:Opd)
 |cL (x:Opd)
 |make (bytes:Nat) (zero:List PV) (n:Opd)
 |bl (x:Opd) (off:Nat)
 |bF (z:Nat) (x i:Opd)
 |c7 (x i:Opd)
 |extract (x:Opd) (i:Nat)
 |len (x:Opd)
 |cH (x:Opd)
 |append (z bytes:Nat) (x y:Opd)
 |bS (bytes:Nat) (x y:Opd)
 |call (f:Nat) (args:List Opd) (fl fz:Bool)
 |mm (isMax:Bool) (x y:Opd)
 |c8 (k:Nat) (caps:List Opd)
 |bm (x:Opd) (args:List Opd)
 |cR (neg:Bool) (ks:List EK) (x y:Opd)
 |bw (z:Nat) (x:Opd) (lo hi:Option Opd)
 |cG (x:Opd)
 |bR (f:Nat) (args:List Opd)
 |insert (k z bytes:Nat) (x i v:Opd)
 |c3 (k z:Nat) (x f:Opd)
 |c1 (isAgg:Bool) (n:Nat) (a:Opd)
 |c2 (z:Nat) (x:Opd) (lo hi:Option Opd)
 |bZ (z:Nat) (parts:List Opd)
 |bp (isAgg:Bool) (n:Nat) (a:Opd)
 |bQ (n:Nat) (a v:Opd)
 |bf (isAgg:Bool) (n:Nat) (a:Opd) (r:Nat)
 |bU (n:Nat)
 |storeT (n:Nat) (a v:Opd)
 |storeD (n:Nat) (a v:Opd)
 |bW (z:Nat) (parts:List Opd)
 |bI (z bytes:Nat) (x y:Opd)
 |bO (f:Nat) (args:List Opd)
 |bx (x:Opd)
 |bM (z:Nat) (x i:Opd)
 |bn (isAgg:Bool) (n:Nat) (a:Opd)
 |bV (n:Nat) (a v:Opd)
 |bb (f:Nat) (args:List Opd)
 |bc (f:Nat) (args:List Opd)
 |bd (f:Nat) (x k:Opd)
 |ba (zero:List L)
 |bJ (i:Nat) (zero:List L)
 |bz (n:Nat) (x:Opd)
 |bq (f:Nat) (args:List Opd)
 |storeAt (i n:Nat) (a v:Opd)
structure Z0 where
 dst:Option Nat
 op:AOp
 guard:Option (Nat×Bool)
inductive Y5 where
 |skip
 |region (ops:List Z0)
 |seq (a b:Y5)
 |cond (c:Opd) (thn els:Y5)
 |block (id:Nat) (body:Y5)
 |loop (body:Y5)
 |exit (id:Nat)
 |ret
inductive Ex where
 |normal
 |exit (id:Nat)
 |ret
inductive YW where
 |tmp (t:Nat)
 |cell (t:Nat) (n:Nat)
structure AFn where
 ntmps:Nat
 results:List YW
 body:Y5
def V.cells :V->List L
 | .one l=>[l]
 | .agg ls=>ls
 | .b9 _=>[.bs]
def Opd.ev (Z:St):Opd->V
 | .tmp n=>Z.t.getD n (.b9 [])
 | .pv p=> .one (.pv p)
 | .nil=> .one .nil
 | .fn k=> .one (.fn k [])
def L.view (h:List Y0):L->Option PV
 | .pv p=>some p
 | .nil=>some (.lst [])
 | .arr o=>match h[o]? with
  |some (.arr _ es)=>some (.lst es)
  |some (.bH _ es)=>some (.lst es)
  |some (.bA _ es)=>some (.lst es)
  |_=>none
 |_=>none
def viewL (h:List Y0):List L->Option (List PV)
 |[]=>some []
 |l::ls=>match l.view h,viewL h ls with
  |some p,some ps=>some (p::ps)
  |_,_=>none
def V.view (h:List Y0):V->Option V
 | .one (.fn k caps)=>some (.one (.fn k caps))
 | .one l=>match l.view h with
  |some p=>some (.one (.pv p))
  |none=>none
 | .agg ls=>match viewL h ls with
  |some ps=>some (.agg (ps.map .pv))
  |none=>none
 | .b9 _=>none
def al (h:List Y0):List V->Option (List V)
 |[]=>some []
 |v::vs=>match v.view h,al h vs with
  |some p,some ps=>some (p::ps)
  |_,_=>none
def freezeL (h:List Y0):L->List Y0
 | .arr o=>match h[o]? with
  |some (.arr z es)=>h.set o (.bH z es)
  |some (.bA z es)=>h.set o (.bH z es)
  |_=>h
 |_=>h
def freezeLs (h:List Y0)(ls:List L):List Y0:=ls.foldl freezeL h
def freezeVs (h:List Y0)(vs:List V):List Y0:=vs.foldl (fun h v=>freezeLs h v.cells) h
def L.mut (h:List Y0):L->Bool
 | .arr o=>match h[o]? with
  |some (.arr _ _)=>true
  |some (.bA _ _)=>true
  |_=>false
 |_=>false
def V.mut (h:List Y0)(v:V):Bool:=v.cells.any (L.mut h)
def isInt :V->Option (IntKind×Int)
 | .one (.pv (.int k n))=>some (k,n)
 |_=>none
def isStr :V->Option (List UInt8)
 | .one (.pv (.str s))=>some s
 |_=>none
def isBool :V->Option Bool
 | .one (.pv (.bool b))=>some b
 |_=>none
abbrev aa (k:IntKind)(n:Int):V:= .one (.pv (.int k n))
abbrev az (b:Bool):V:= .one (.pv (.bool b))
abbrev eE (s:List UInt8):V:= .one (.pv (.str s))
abbrev bY (es:List (List PV)):V:= .one (.pv (.lst es))
def cG (op:BinOp)(k:IntKind)(a b:Int):Option V:=
 match op with
 | .add=>some (aa k (k.wrap (a+b)))
 | .sub=>some (aa k (k.wrap (a-b)))
 | .mul=>some (aa k (k.wrap (a*b)))
 | .quo=>if b=0 then none else some (aa k (k.wrap (a.tdiv b)))
 | .rem=>if b=0 then none else some (aa k (a.tmod b))
 | .and=>some (aa k (k.wrap ((BitVec.ofInt k.bits a&&&BitVec.ofInt k.bits b).toNat)))
 | .or=>some (aa k (k.wrap ((BitVec.ofInt k.bits a|||BitVec.ofInt k.bits b).toNat)))
 | .eql=>some (az (a==b))
 | .neq=>some (az (a !=b))
 | .lss=>some (az (decide (a<b)))
 | .leq=>some (az (decide (a<=b)))
 | .gtr=>some (az (decide (b<a)))
 | .geq=>some (az (decide (b<=a)))
 |_=>none
def nw (op:BinOp)(k:IntKind)(a b:Int):Option V:=
 if b<0 then none else
 match op with
 | .shl=>some (aa k (k.wrap (a*2^(min b.toNat k.bits))))
 | .shr=>some (aa k (a.fdiv (2^(min b.toNat k.bits))))
 |_=>none
def jN (op:BinOp)(a b:List UInt8):Option V:=
 match op with
 | .add=>if a.length+b.length<=9223372036854775807 then some (eE (a++b))else none
 | .eql=>some (az (a==b))
 | .neq=>some (az (!(a==b)))
 | .lss=>some (az (Op.bytesLess a b))
 | .leq=>some (az (Op.bytesLess a b||a==b))
 | .gtr=>some (az (!(Op.bytesLess a b||a==b)))
 | .geq=>some (az (!Op.bytesLess a b))
 |_=>none
def bin (op:BinOp)(x y:V):Option V:=
 match x,y with
 | .one (.pv (.int k a)), .one (.pv (.int k' b))=>
  match op with
  | .shl| .shr=>nw op k a b
  |_=>if k=k' then cG op k a b else none
 | .one (.pv (.str a)), .one (.pv (.str b))=>jN op a b
 |_,_=>none
def un (op:UnOp)(x:V):Option V:=
 match op,x with
 | .not, .one (.pv (.bool b))=>some (az (!b))
 | .neg, .one (.pv (.int k n))=>some (aa k (k.wrap (0-n)))
 |_,_=>none
def gv (isAgg:Bool)(n j:Nat)(cs:List L):Option V:=
 if j+n<=cs.length then
  if isAgg then some (.agg ((cs.drop j).take n))
  else if n=1 then(match cs[j]? with
   |some l=>some (.one l)
   |none=>none)else none
 else none
def bA (h:List Y0)(isAgg:Bool)(n:Nat)(a:V):Option V:=
 match a with
 | .one (.ptr o i j)=>match h[o]? with
  |some (.box cs)=>if i=0 then gv isAgg n j cs else none
  |some (.arr _ es)=>match es[i]? with
   |some e=>gv isAgg n j (e.map .pv)
   |none=>none
  |some (.bH _ es)=>match es[i]? with
   |some e=>gv isAgg n j (e.map .pv)
   |none=>none
  |some (.bA _ es)=>match es[i]? with
   |some e=>gv isAgg n j (e.map .pv)
   |none=>none
  |some (.bL ps)=>if i=0 then gv isAgg n j (ps.map .pv)else none
  |_=>none
 | .one (.ip e j)=>gv isAgg n j (e.map .pv)
 |_=>none
def bU (h:List Y0):V->Bool
 | .one (.ptr o _ _)=>match h[o]? with
  |some (.box _)=>true
  |some (.bL _)=>true
  |_=>false
 | .one (.ip _ _)=>true
 |_=>false
def nu :V->V->Bool
 | .one (.ptr o _ _), .one (.ptr o' _ _)=> !(o==o')
 | .one (.ip _ _), .one (.ptr _ _ _)=>true
 |_,_=>false
def putAt {α:Type}(cs:List α)(j:Nat)(ls:List α):List α:=cs.take j++ls++cs.drop (j+ls.length)
def plain :L->Bool
 | .own _ _=>false
 | .down _ _=>false
 | .tp _=>false
 | .sub _ _=>false
 | .c6 _ _ _=>false
 | .bs=>false
 |_=>true
def L.bC (o:Nat):L->Bool
 | .arr o'=> !(o'==o)
 |_=>true
def bD (h:List Y0)(n:Nat)(a v:V):Option (List Y0):=
 let ls:=v.cells
 if ls.length=n then
  match a with
  | .one (.ptr o i j)=>match h[o]? with
   |some (.box cs)=>if i=0/\ j+n<=cs.length/\ ls.all plain=true then some (h.set o (.box (putAt cs j ls)))else none
   |some (.arr z es)=>match es[i]?,viewL h ls with
    |some e,some ps=>if j+n<=e.length/\ ls.all (L.bC o)=true then some ((freezeLs h ls).set o (.arr z (es.set i (putAt e j ps))))else none
    |_,_=>none
   |_=>none
  |_=>none
 else none
def dq (cs:List L):List (Nat×Nat×V)->Option (List L)
 |[]=>some cs
 |(off,n,v)::rest=>if v.cells.length=n/\ off+n<=cs.length/\ v.cells.all plain=true then dq (putAt cs off v.cells) rest else none
def asList (h:List Y0)(v:V):Option (List (List PV)):=
 match v with
 | .one l=>match l.view h with
  |some (.lst es)=>some es
  |_=>none
 |_=>none
def aJ (h:List Y0)(z:Nat)(x:V)(i:Nat):Option V:=
 match x with
 | .one (.arr o)=>match h[o]? with
  |some (.arr z' es)=>if i<es.length/\ z'=z then some (.one (.ptr o i 0))else none
  |some (.bH z' es)=>if i<es.length/\ z'=z then some (.one (.ptr o i 0))else none
  |some (.bA z' es)=>if i<es.length/\ z'=z then some (.one (.ptr o i 0))else none
  |_=>none
 | .one (.pv (.lst es))=>match es[i]? with
  |some e=>if e.length=z then some (.one (.ip e 0))else none
  |none=>none
 |_=>none
def L.flat :L->Bool
 | .pv (.int _ _)=>true
 | .pv (.bool _)=>true
 | .pv (.str _)=>true
 |_=>false
def V.flat :V->Bool
 | .one l=>l.flat
 | .agg ls=>ls.all L.flat
 | .b9 xs=>xs.all fun x=>x.2.all L.flat
def rW :List (List PV)->Option (List UInt8)
 |[]=>some []
 |[.int .u8 n]::r=>match rW r with
  |some l=>some (UInt8.ofNat n.toNat::l)
  |none=>none
 |_=>none
def ar (s:List UInt8):List (List PV):=s.map fun b=>[.int .u8 b.toNat]
def thawL (h:List Y0):List L->List L×List Y0
 |[]=>([],h)
 | .own z es::ls=>let r:=thawL (h++[.arr z es]) ls;(.arr h.length::r.1,r.2)
 | .down z es::ls=>let r:=thawL (h++[.bA z es]) ls;(.arr h.length::r.1,r.2)
 |l::ls=>let r:=thawL h ls;(l::r.1,r.2)
def thawT (h:List Y0):List (Bool×List L)->List (Bool×List L)×List Y0
 |[]=>([],h)
 |(b,ls)::vs=>let r:=thawL h ls;let q:=thawT r.2 vs;((b,r.1)::q.1,q.2)
def thaw (h:List Y0):V->V×List Y0
 | .one l=>match thawL h [l]with
  |([l'],h')=>(.one l',h')
  |_=>(.one .bs,h)
 | .agg ls=>let r:=thawL h ls;(.agg r.1,r.2)
 | .b9 vs=>let r:=thawT h vs;(.b9 r.1,r.2)
def L.ow :L->L
 | .down z es=> .own z es
 |l=>l
def V.ow :V->V
 | .one l=> .one l.ow
 | .agg ls=> .agg (ls.map L.ow)
 | .b9 vs=> .b9 (vs.map fun x=>(x.1,x.2.map L.ow))
def df :L->L
 | .own _ es=> .pv (.lst es)
 | .down _ es=> .pv (.lst es)
 |l=>l
def da :V->V
 | .one l=> .one (df l)
 | .agg ls=> .agg (ls.map df)
 | .b9 vs=> .b9 (vs.map fun x=>(x.1,x.2.map df))
def pY (h:List Y0):V->Option (List PV×List Y0)
 | .one (.ptr o i j)=>if i=0/\ j=0 then(match h[o]? with
  |some (.box cs)=>match viewL h cs with
   |some ps=>if cs.all (fun l=> !(L.mut h l))then some (ps,h.set o (.bL ps))else none
   |none=>none
  |some (.bL ps)=>some (ps,h)
  |_=>none)else none
 | .one (.ip e j)=>if j=0 then some (e,h)else none
 |_=>none
def kQ (h:List Y0):List V->Option (List (List PV)×List Y0)
 |[]=>some ([],h)
 |v::vs=>match pY h v with
  |some (e,h1)=>match kQ h1 vs with
   |some (es,h2)=>some (e::es,h2)
   |none=>none
  |none=>none
def tm (e:List PV):V:= .one (.ip e 0)
def PT :EK->L->L->Option Bool
 | .i, .pv (.int k a), .pv (.int k' b)=>if k=k' then some (a==b)else none
 | .b, .pv (.bool a), .pv (.bool b)=>some (a==b)
 | .s, .pv (.str a), .pv (.str b)=>some (a==b)
 |_,_,_=>none
def p5 :List EK->List L->List L->Option Bool
 |[],_,_=>some true
 |k::ks,a::xz,b::bs=>match PT k a b,p5 ks xz bs with
  |some x,some y=>some (x&&y)
  |_,_=>none
 |_,_,_=>none
def cf (Z:St)(d:Int):Option Opd->Option Int
 |none=>some d
 |some o=>match isInt (o.ev Z)with
  |some (_,n)=>some n
  |none=>none
def ca :List L->Option (List PV)
 |[]=>some []
 | .pv p::ls=>match ca ls with
  |some ps=>some (p::ps)
  |none=>none
 |_=>none
def dD :List V->Option (List (List PV))
 |[]=>some []
 |v::vs=>match ca v.cells,dD vs with
  |some e,some es=>some (e::es)
  |_,_=>none
def L.bK :L->L
 | .sub _ _=> .bs
 |l=>l
def Y0.bX :Y0->Y0
 | .bB z es=> .bA z es
 | .box cs=> .box (cs.map L.bK)
 |ob=>ob
def lent (h:List Y0):List Y0:=h.map Y0.bX
def Y0.zone :Y0->Y0
 | .arr z es=> .bB z es
 | .bA z es=> .bB z es
 |ob=>ob
def sw (h:List Y0)(r:V):V×List Y0:=((thaw h r).1,h++(thaw [] r).2.map Y0.zone)
def PV.flat :PV->Bool
 | .lst _=>false
 |_=>true
def wid :List (List PV)->Nat
 |[]=>1
 |e::_=>e.length
def x5 (z:Nat)(es:List (List PV))(c:Nat):Option PV:=
 match es[c/z]? with
 |some e=>e[c%z]?
 |none=>none
def fI (z:Nat)(es:List (List PV))(c:Nat)(p:PV):List (List PV):=es.set (c/z) (((es[c/z]?).getD []).set (c%z) p)
def qZ (h:List Y0)(isAgg:Bool)(n:Nat)(a:V):Option V:=
 match a with
 | .one (.ptr o i j)=>match h[o]? with
  |some (.bB z es)=>match es[i]? with
   |some e=>match e[j]? with
    |some (.lst _)=>if isAgg=false/\ n=1 then some (.one (.sub o (i*z+j)))else none
    |_=>none
   |none=>none
  |_=>bA h isAgg n a
 |_=>bA h isAgg n a
def uK (h:List Y0)(n:Nat)(a v:V):Option (List Y0):=
 match a with
 | .one (.ptr o i j)=>match h[o]? with
  |some (.bB z es)=>match es[i]?,v with
   |some e, .one (.pv p)=>match e[j]? with
    |some q=>if n=1/\ p.flat=true/\ q.flat=true then some (h.set o (.bB z (es.set i (e.set j p))))else none
    |none=>none
   |_,_=>none
  |_=>bD h n a v
 |_=>bD h n a v
def fH :Nat:=1048576
def PV.bare :PV->Bool
 | .lst []=>true
 | .lst _=>false
 |_=>true
def xK (h:List Y0):L->Option L
 | .pv p=>if p.bare then some (.pv p)else none
 | .nil=>some (.pv (.lst []))
 | .arr o=>match h[o]? with
  |some (.bB z es)=>some (.down z es)
  |_=>none
 |_=>none
def lW (h:List Y0):List L->Option (List L)
 |[]=>some []
 |l::ls=>match xK h l,lW h ls with
  |some x,some xs=>some (x::xs)
  |_,_=>none
def uT (h:List Y0):V->Option V
 | .one l=>match xK h l with
  |some x=>some (.one x)
  |none=>none
 | .agg ls=>match lW h ls with
  |some xs=>some (.agg xs)
  |none=>none
 | .b9 _=>none
def kG (h:List Y0):List Nat->List (Bool×List L)->Option (List Y0)
 |[],[]=>some h
 |o::os,(false,[.down z es])::outs=>kG (h.set o (.bB z es)) os outs
 |_,_=>none
def fF (call:Nat->List V->Option V)(c:Nat)(caps:List V):List (List PV)->Option (List (List PV))
 |[]=>some []
 |e::es=>match call c (.agg (e.map .pv)::caps)with
  |some (.one (.pv (.bool b)))=>match fF call c caps es with
   |some r=>some (if b then r else e::r)
   |none=>none
  |_=>none
def bG (call:Nat->List V->Option V)(Z:St):AOp->Option V
 | .mv x=>some (x.ev Z)
 | .pick c a b=>match isBool (c.ev Z)with
  |some t=>some (if t then a.ev Z else b.ev Z)
  |none=>none
 | .load g n a=>bA Z.h g n (a.ev Z)
 | .build zero parts=>match dq zero (parts.map fun x=>(x.1,x.2.1,x.2.2.ev Z))with
  |some cs=>some (.agg cs)
  |none=>none
 | .bin op x y=>bin op (x.ev Z) (y.ev Z)
 | .cQ neg x y=>match isBool (x.ev Z),isBool (y.ev Z)with
  |some a,some b=>some (az (if neg then !(a==b)else a==b))
  |_,_=>none
 | .un op x=>un op (x.ev Z)
 | .conv k x=>match isInt (x.ev Z)with
  |some (_,n)=>some (aa k (k.wrap n))
  |none=>none
 | .cL x=>match asList Z.h (x.ev Z)with
  |some es=>match rW es with
   |some s=>some (eE s)
   |none=>none
  |none=>none
 | .bl x off=>match x.ev Z with
  | .one (.ptr o i j)=>some (.one (.ptr o i (j+off)))
  | .one (.ip e j)=>some (.one (.ip e (j+off)))
  |_=>none
 | .bF z x i=>match isInt (i.ev Z)with
  |some (_,n)=>if 0<=n then aJ Z.h z (x.ev Z) n.toNat else none
  |none=>none
 | .c7 x i=>match isStr (x.ev Z),isInt (i.ev Z)with
  |some s,some (_,n)=>if 0<=n then(match s[n.toNat]? with
   |some b=>some (aa .u8 b.toNat)
   |none=>none)else none
  |_,_=>none
 | .extract x i=>match x.ev Z with
  | .b9 vs=>match vs[i]? with
   |some (true,ls)=>some (.agg ls)
   |some (false,[l])=>some (.one l)
   |_=>none
  |_=>none
 | .len x=>match asList Z.h (x.ev Z)with
  |some es=>some (aa .i64 es.length)
  |none=>none
 | .cH x=>match isStr (x.ev Z)with
  |some s=>some (aa .i64 s.length)
  |none=>none
 | .call f args fl fz=>
  if fl||fz then
   let vs:=args.map (Opd.ev Z)
   if fl|| !(vs.any (V.mut Z.h))then
    match al Z.h vs with
    |some xz=>match call f xz with
     |some r=>if fl&& !r.flat then none else some (da r)
     |none=>none
    |none=>none
   else none
  else none
 | .mm isMax x y=>match isInt (x.ev Z),isInt (y.ev Z)with
  |some (k,a),some (k',b)=>if k=k' then some (aa k (if isMax then(if a<b then b else a)else(if b<a then b else a)))else none
  |_,_=>none
 | .bm x args=>match x.ev Z with
  | .one (.fn k caps)=>match al Z.h (args.map (Opd.ev Z))with
   |some xz=>match call k (xz++caps.map tm)with
    |some r=>if r.flat then some (da r)else none
    |none=>none
   |none=>none
  |_=>none
 | .cG x=>match isStr (x.ev Z)with
  |some s=>some (bY (ar s))
  |none=>none
 | .cR neg ks x y=>match x.ev Z,y.ev Z with
  | .agg ls, .agg ls'=>match p5 ks ls ls' with
   |some b=>some (az (if neg then !b else b))
   |none=>none
  |_,_=>none
 | .c1 g n a=>if bU Z.h (a.ev Z)then bA Z.h g n (a.ev Z)else none
 | .bf g n a r=>if nu (a.ev Z) ((Opd.tmp (r%65536)).ev Z)&&(r/65536==0||nu (a.ev Z) ((Opd.tmp (r/65536)).ev Z))then bA Z.h g n (a.ev Z)else none
 | .bp g n a=>if bU Z.h (a.ev Z)then none else bA Z.h g n (a.ev Z)
 | .c2 z x lo hi=>match x.ev Z with
  | .one (.pv (.lst es))=>match cf Z 0 lo,cf Z (es.length:Int) hi with
   |some l,some r=>if 0<=l/\ l<=r/\ r<=es.length/\ es.all (fun e=>e.length==z)=true then some (bY ((es.drop l.toNat).take (r.toNat-l.toNat)))else none
   |_,_=>none
  |_=>none
 | .bZ z parts=>match dD (parts.map (Opd.ev Z))with
  |some es=>if es.all (fun e=>e.length==z)=true/\ 0<z/\ es.length*z<=16777216 then some (match es with|[]=> .one .nil|_::_=>bY es)else none
  |none=>none
 | .bx x=>match asList (lent Z.h) (x.ev Z)with
  |some es=>some (aa .i64 es.length)
  |none=>none
 | .bM z x i=>match isInt (i.ev Z)with
  |some (_,n)=>if 0<=n then aJ (lent Z.h) z (x.ev Z) n.toNat else none
  |none=>none
 | .bn g n a=>qZ Z.h g n (a.ev Z)
 | .bb f args=>match al (lent Z.h) (args.map (Opd.ev Z))with
  |some xz=>match call f xz with
   |some r=>if r.flat then some (da r)else none
   |none=>none
  |none=>none
 |_=>none
def aY (h:List Y0):List V->Option (List (List PV))
 |[]=>some []
 |v::vs=>match viewL h v.cells,aY h vs with
  |some p,some ps=>some (p::ps)
  |_,_=>none
def nY (es:List (List PV)):Bool:=es.all fun e=>e.all PV.flat
def fV (es:List (List PV)):Bool:=es.all fun e=>e.all PV.bare
def L.closed :L->Bool
 | .pv p=>p.bare
 | .nil=>true
 | .own _ es=>fV es
 | .down _ _=>true
 |_=>false
def V.closed :V->Bool
 | .one l=>l.closed
 | .agg ls=>ls.all L.closed
 | .b9 xs=>xs.all fun x=>x.2.all L.closed
def L.bG (h:List Y0):L->Bool
 | .pv p=>p.bare
 | .nil=>true
 | .arr o=>match h[o]? with
  |some (.arr _ es)=>fV es
  |some (.bA _ _)=>true
  |_=>false
 |_=>false
def aj (ls:List L):List Nat:=ls.filterMap fun| .arr o=>some o|_=>none
def bf (h:List Y0)(o:Nat):Option (Nat×List (List PV)):=
 match h[o]? with
 |some (.arr z es)=>if fV es then some (z,es)else none
 |some (.bA z es)=>some (z,es)
 |_=>none
def Cx (h:List Y0)(o:Nat):Option (Nat×List (List PV)):=
 match h[o]? with
 |some (.arr z es)=>some (z,es)
 |some (.bA z es)=>some (z,es)
 |_=>none
def fm (h:List Y0)(z:Nat):V->Option (Option (Nat×List (List PV)))
 | .one .nil=>some none
 | .one (.arr o)=>match bf h o with
  |some (z',es)=>if z'=z then some (some (o,es))else none
  |none=>none
 |_=>none
def ai :Option (Nat×List (List PV))->List (List PV)
 |some x=>x.2
 |none=>[]
def ct (src:Option (Nat×List (List PV)))(o:Nat):Bool:=
 match src with
 |some x=> !(x.1==o)
 |none=>true
def aA (src:Option (Nat×List (List PV)))(h:List Y0):List Y0:=
 match src with
 |some x=>h.set x.1 .dead
 |none=>h
def nq (h:List Y0)(z:Nat)(src:Option (Nat×List (List PV))):V->Option (List (List PV))
 | .one (.arr o)=>match bf h o with
  |some (z',ys)=>if z'=z/\ ct src o=true then some ys else none
  |none=>none
 | .one (.pv (.lst ys))=>if nY ys then some ys else none
 | .one .nil=>some []
 |_=>none
def storeD (h:List Y0)(n:Nat)(a v:V):Option (List Y0):=
 match a with
 | .one (.ptr o i j)=>match bf h o with
  |some (z,es)=>match es[i]?,viewL h v.cells with
   |some e,some ps=>if v.cells.length=n/\ j+n<=e.length/\ v.cells.all (L.bC o)=true/\ v.cells.all (L.bG h)=true/\ (aj v.cells).Nodup then some ((freezeLs h v.cells).set o (.bA z (es.set i (putAt e j ps))))else none
   |_,_=>none
  |none=>bD h n a v
 |_=>none
def kP (call:Nat->List V->Option V)(h:List Y0)(f:Nat)(x:V)(n:Int):Option (V×List Y0):=
 match x with
 | .one (.sub o c)=>match h[o]? with
  |some (.bB z es)=>match x5 z es c with
   |some (.lst [])=>match call (f+fH) [bY [],aa .i64 n]with
    |some (.b9 [(false,[l])])=>if l.flat then some (.one l,h)else none
    |_=>none
   |some (.lst l)=>match call (f+fH) [.one (.down (wid l) l),aa .i64 n]with
    |some (.b9 [(false,[l']),(false,[.down z' es'])])=>if l'.flat=true/\ z'=wid l then some (.one l',h.set o (.bB z (fI z es c (.lst es'))))else none
    |_=>none
   |_=>none
  |_=>none
 |v=>if(aj v.cells).Nodup then(match uT h v with
  |some a=>match call (f+fH) [a,aa .i64 n]with
   |some (.b9 ((false,[l])::outs))=>if l.flat then(match kG h (aj v.cells) outs with
    |some h'=>some (.one l,h')
    |none=>none)else none
   |_=>none
  |none=>none)else none
def Oq :L->Option PV
 | .pv p=>some (.lst [[.int .i64 0,p]])
 | .arr o=>some (.lst [[.int .i64 1, .int .i64 o]])
 | .nil=>some (.lst [])
 |_=>none
def V7 :PV->Option L
 | .lst []=>some .nil
 | .lst [[.int .i64 0,p]]=>some (.pv p)
 | .lst [[.int .i64 1, .int .i64 n]]=>some (.arr n.toNat)
 |_=>none
def vw :List L->Option (List PV)
 |[]=>some []
 |l::ls=>match Oq l,vw ls with
  |some p,some ps=>some (p::ps)
  |_,_=>none
def CW :List PV->Option (List L)
 |[]=>some []
 |p::ps=>match V7 p,CW ps with
  |some l,some ls=>some (l::ls)
  |_,_=>none
def Wm :Y0->Option (List PV)
 | .box cs=>match vw cs with
  |some ps=>some [.int .i64 0, .lst [ps]]
  |none=>none
 | .arr z es=>some [.int .i64 1, .int .i64 z, .lst es]
 | .bH z es=>some [.int .i64 2, .int .i64 z, .lst es]
 | .bA z es=>some [.int .i64 3, .int .i64 z, .lst es]
 | .dead=>some [.int .i64 4]
 | .res=>some [.int .i64 5]
 |_=>none
def XJ :List PV->Option Y0
 |[.int .i64 0, .lst [ps]]=>match CW ps with
  |some cs=>some (.box cs)
  |none=>none
 |[.int .i64 1, .int .i64 z, .lst es]=>some (.arr z.toNat es)
 |[.int .i64 2, .int .i64 z, .lst es]=>some (.bH z.toNat es)
 |[.int .i64 3, .int .i64 z, .lst es]=>some (.bA z.toNat es)
 |[.int .i64 4]=>some .dead
 |[.int .i64 5]=>some .res
 |_=>none
def zt :List Y0->Option (List (List PV))
 |[]=>some []
 |x::h=>match Wm x,zt h with
  |some e,some es=>some (e::es)
  |_,_=>none
def JU :List (List PV)->Option (List Y0)
 |[]=>some []
 |e::es=>match XJ e,JU es with
  |some x,some h=>some (x::h)
  |_,_=>none
def Td {l:L}{p:PV}(h:Oq l=some p):V7 p=some l:=by
 cases l<;>simp only[Oq]at h<;>cases h<;>simp[V7]
def wK :∀{ls:List L}{ps:List PV},vw ls=some ps->CW ps=some ls
 |[],_,h=>by cases h;rfl
 |l::ls,ps,h=>by
  unfold vw at h
  split at h
  ·rename_i h1 h2
   cases h
   simp only[CW,Td h1,wK h2]
  ·cases h
def WJ {x:Y0}{e:List PV}(h:Wm x=some e):XJ e=some x:=by
 cases x<;>simp only[Wm]at h
 case box cs=>
  split at h
  ·rename_i ps h1;cases h;simp only[XJ,wK h1]
  ·cases h
 all_goals cases h
 all_goals simp[XJ]
def vu :∀{h:List Y0}{e:List (List PV)},zt h=some e->JU e=some h
 |[],_,h=>by cases h;rfl
 |x::hs,e,h=>by
  unfold zt at h
  split at h
  ·rename_i h1 h2
   cases h
   simp only[JU,WJ h1,vu h2]
  ·cases h
def G2 :Nat->List Y0
 |0=>[]
 |n+1=> .res::G2 n
def cz (call:Nat->List V->Option V)(Z:St):AOp->Option (V×List Y0)
 | .alloc zero=>some (.one (.ptr Z.h.length 0 0),Z.h++[.box zero])
 | .ba zero=>some (.one (.ptr Z.h.length 0 0),Z.h++[.box zero, .res])
 | .bJ i zero=>match Z.h[i]? with
  |some .res=>some (.one (.ptr i 0 0),Z.h.set i (.box zero))
  |_=>none
 | .box x=>if(x.ev Z).cells.all plain then some (.one (.ptr Z.h.length 0 0),Z.h++[.box (x.ev Z).cells])else none
 | .bz n x=>if(x.ev Z).cells.all plain then some (.one (.ptr Z.h.length 0 0),Z.h++ .box (x.ev Z).cells::G2 n)else none
 | .bN z parts=>
  let vs:=parts.map (Opd.ev Z)
  if vs.all (fun v=>v.cells.length==z)&&decide (0<z)&&decide (vs.length*z<=16777216)then
   match aY Z.h vs with
   |some es=>some (.one (.arr (freezeVs Z.h vs).length),freezeVs Z.h vs++[.arr z es])
   |none=>none
  else none
 | .store n a v=>match bD Z.h n (a.ev Z) (v.ev Z)with
  |some h=>some (.b9 [],h)
  |none=>none
 | .bQ n a v=>if bU Z.h (a.ev Z)then(match bD Z.h n (a.ev Z) (v.ev Z)with
  |some h=>some (.b9 [],h)
  |none=>none)else none
 | .storeAt i n a v=>match a.ev Z,Z.h[i]? with
  | .one (.ptr o 0 j),some (.box cs)=>if o=i/\ (v.ev Z).cells.length=n/\ j+n<=cs.length/\ (v.ev Z).cells.all plain=true then some (.b9 [],Z.h.set i (.box (putAt cs j (v.ev Z).cells)))else none
  |_,_=>none
 | .bU n=>some (.one (.tp n),Z.h++[.bT n])
 | .storeT n a v=>match a.ev Z with
  | .one (.tp m)=>if m=n/\ (v.ev Z).cells.length=n/\ (v.ev Z).cells.all plain=true then some (.b9 [],Z.h)else none
  |_=>none
 | .make bytes zero n=>match isInt (n.ev Z)with
  |some (_,m)=>if 0<=m/\ m*bytes<=140737488355328/\ m<=9223372036854775807/\ 0<zero.length then some (.one (.arr Z.h.length),Z.h++[.arr zero.length (List.replicate m.toNat zero)])else none
  |none=>none
 | .append z bytes x y=>match x.ev Z,asList Z.h (y.ev Z)with
  | .one .nil,some ys=>if ys.all (fun e=>e.length==z)&&decide (0<z)&&decide (ys.length*bytes<=140737488355328)&&decide (ys.length<=9223372036854775807)
   then some (.one (.arr Z.h.length),Z.h++[.arr z ys])else none
  | .one (.arr o),some ys=>match Z.h[o]? with
   |some (.arr z' es)=>if z'=z/\ ys.all (fun e=>e.length==z)=true/\ (es.length+ys.length)*bytes<=140737488355328/\ es.length+ys.length<=9223372036854775807/\ (y.ev Z).cells.all (L.bC o)=true
    then some (.one (.arr Z.h.length),Z.h.set o .dead++[.arr z (es++ys)])else none
   |_=>none
  |_,_=>none
 | .bS bytes x y=>match x.ev Z,isStr (y.ev Z)with
  | .one .nil,some s=>if s.length*bytes<=140737488355328/\ s.length<=9223372036854775807 then some (.one (.arr Z.h.length),Z.h++[.arr 1 (ar s)])else none
  | .one (.arr o),some s=>match Z.h[o]? with
   |some (.arr z' es)=>if z'=1/\ (es.length+s.length)*bytes<=140737488355328/\ es.length+s.length<=9223372036854775807
    then some (.one (.arr Z.h.length),Z.h.set o .dead++[.arr 1 (es++ar s)])else none
   |_=>none
  |_,_=>none
 | .bw z x lo hi=>match asList Z.h (x.ev Z)with
  |some es=>match cf Z 0 lo,cf Z (es.length:Int) hi with
   |some l,some r=>if 0<=l/\ l<=r/\ r<=es.length/\ es.all (fun e=>e.length==z)=true then some (bY ((es.drop l.toNat).take (r.toNat-l.toNat)),freezeLs Z.h (x.ev Z).cells)else none
   |_,_=>none
  |none=>none
 | .bR f args=>
  let vs:=args.map (Opd.ev Z)
  match al Z.h vs with
  |some xz=>match call f xz with
   |some r=>some (da r,freezeVs Z.h vs)
   |none=>none
  |none=>none
 | .insert _ z bytes x i v=>match x.ev Z,isInt (i.ev Z),v.ev Z with
  | .one .nil,some (.i64,n), .one (.arr o2)=>match Z.h[o2]? with
   |some (.arr z2 vs)=>if z2=z/\ 0<vs.length/\ n=0/\ vs.length*bytes<=140737488355328/\ vs.length<=9223372036854775807
    then some (.one (.arr Z.h.length),Z.h++[.arr z vs])else none
   |some (.bA z2 vs)=>if z2=z/\ 0<vs.length/\ n=0/\ vs.length*bytes<=140737488355328/\ vs.length<=9223372036854775807
    then some (.one (.arr Z.h.length),Z.h.set o2 .dead++[.bA z vs])else none
   |_=>none
  | .one (.arr o),some (.i64,n), .one (.arr o2)=>match Z.h[o2]? with
   |some (.arr z2 vs)=>match Z.h[o]? with
    |some (.arr z1 es)=>if z1=z/\ z2=z/\ o≠o2/\ 0<vs.length/\ 0<=n/\ n<=es.length/\ (es.length+vs.length)*bytes<=140737488355328/\ es.length+vs.length<=9223372036854775807
     then some (.one (.arr Z.h.length),Z.h.set o .dead++[.arr z (es.take n.toNat++vs++es.drop n.toNat)])else none
    |_=>none
   |some (.bA z2 vs)=>match bf Z.h o with
    |some (z1,es)=>if z1=z/\ z2=z/\ o≠o2/\ 0<vs.length/\ 0<=n/\ n<=es.length/\ (es.length+vs.length)*bytes<=140737488355328/\ es.length+vs.length<=9223372036854775807
     then some (.one (.arr Z.h.length),(Z.h.set o .dead).set o2 .dead++[.bA z (es.take n.toNat++vs++es.drop n.toNat)])else none
    |none=>none
   |_=>none
  |_,_,_=>none
 | .c3 k z x f=>match x.ev Z,f.ev Z with
  | .one .nil, .one (.fn c cs)=>some (.one .nil,Z.h)
  | .one (.arr o), .one (.fn c cs)=>match Cx Z.h o with
   |some (z',es)=>if z'=z then(match fF call c (cs.map tm) es with
    |some es'=>some (.one (.arr Z.h.length),Z.h.set o .dead++[.arr z es'])
    |none=>none)else none
   |none=>none
  |_,_=>none
 | .c8 k caps=>match kQ Z.h (caps.map (Opd.ev Z))with
  |some (cs,h)=>some (.one (.fn k cs),h)
  |none=>none
 | .bO f args=>
  let vs:=args.map (Opd.ev Z)
  match al Z.h vs with
  |some xz=>match call f xz with
   |some r=>some (thaw (if r.closed then Z.h else freezeVs Z.h vs) r)
   |none=>none
  |none=>none
 | .storeD n a v=>match storeD Z.h n (a.ev Z) (v.ev Z)with
  |some h=>some (.b9 [],h)
  |none=>none
 | .bW z parts=>
  let vs:=parts.map (Opd.ev Z)
  let ls:=vs.flatMap V.cells
  if vs.all (fun v=>v.cells.length==z)&&decide (0<z)&&decide (vs.length*z<=16777216)&&ls.all (L.bG Z.h)&&decide ((aj ls).Nodup)then
   match aY Z.h vs with
   |some es=>some (.one (.arr (freezeVs Z.h vs).length),freezeVs Z.h vs++[.bA z es])
   |none=>none
  else none
 | .bI z bytes x y=>
  match fm Z.h z (x.ev Z)with
  |none=>none
  |some src=>match nq Z.h z src (y.ev Z)with
   |none=>none
   |some ys=>if ys.all (fun e=>e.length==z)=true/\ 0<z/\ ((ai src).length+ys.length)*bytes<=140737488355328/\ (ai src).length+ys.length<=9223372036854775807
    then some (.one (.arr Z.h.length),aA src (freezeLs Z.h (y.ev Z).cells)++[.bA z (ai src++ys)])else none
 | .bV n a v=>match uK Z.h n (a.ev Z) (v.ev Z)with
  |some h=>some (.b9 [],h)
  |none=>none
 | .bc f args=>match al (lent Z.h) (args.map (Opd.ev Z))with
  |some xz=>match call f xz with
   |some r=>if r.closed then some (sw Z.h r)else none
   |none=>none
  |none=>none
 | .bq f args=>match zt Z.h with
  |some e=>match call (f+2*fH) (bY e::args.map (Opd.ev Z))with
   |some (.b9 [(false,[.pv (.lst e')]),(false,[.pv (.lst [ps])])])=>match JU e',CW ps with
    |some h',some ls=>some (.agg ls,h')
    |_,_=>none
   |_=>none
  |none=>none
 | .bd f x k=>match k.ev Z with
  | .one (.pv (.int .i64 n))=>kP call Z.h f (x.ev Z) n
  |_=>none
 | .call f args false false=>
  let vs:=args.map (Opd.ev Z)
  match al Z.h vs with
  |some xz=>match call f xz with
   |some r=>some (thaw (freezeVs Z.h vs) r.ow)
   |none=>none
  |none=>none
 |_=>none
def put (t:List V)(d:Option Nat)(v:V):List V:=
 match d with
 |some d=>t.set d v
 |none=>t
def bc (Z:St):Option (Nat×Bool)->Option Bool
 |none=>some true
 |some (g,w)=>match Z.t.getD g (.b9 [])with
  | .one (.pv (.bool b))=>some (b==w)
  | .b9 []=>some false
  |_=>none
def aG (call:Nat->List V->Option V)(o:Z0)(Z:St):Option St:=
 match bc Z o.guard with
 |some true=>match bG call Z o.op with
  |some v=>some ⟨put Z.t o.dst v,Z.h⟩
  |none=>match cz call Z o.op with
   |some (v,h)=>some ⟨put Z.t o.dst v,h⟩
   |none=>none
 |some false=>some ⟨put Z.t o.dst (.b9 []),Z.h⟩
 |none=>none
def ah (call:Nat->List V->Option V):List Z0->St->Option St
 |[],Z=>some Z
 |o::r,Z=>match aG call o Z with
  |some Z'=>ah call r Z'
  |none=>none
def eG :Nat->(St->Option (Ex×St))->St->Option (Ex×St)
 |0,_,_=>none
 |n+1,f,Z=>match f Z with
  |some (.normal,Z')=>eG n f Z'
  |r=>r
def ap (call:Nat->List V->Option V)(lp:(St->Option (Ex×St))->St->Option (Ex×St)):Y5->St->Option (Ex×St)
 | .skip,Z=>some (.normal,Z)
 | .region ops,Z=>match ah call ops Z with
  |some Z'=>some (.normal,Z')
  |none=>none
 | .seq a b,Z=>match ap call lp a Z with
  |some (.normal,Z')=>ap call lp b Z'
  |r=>r
 | .cond c a b,Z=>match isBool (c.ev Z)with
  |some t=>if t then ap call lp a Z else ap call lp b Z
  |none=>none
 | .block id c,Z=>match ap call lp c Z with
  |some (.exit i,Z')=>if i=id then some (.normal,Z')else some (.exit i,Z')
  |r=>r
 | .loop c,Z=>lp (ap call lp c) Z
 | .exit id,Z=>some (.exit id,Z)
 | .ret,Z=>some (.ret,Z)
def bJ (h:List Y0):L->Option L
 | .pv p=>some (.pv p)
 | .nil=>some .nil
 | .arr o=>match h[o]? with
  |some (.arr z es)=>some (.own z es)
  |some (.bH _ es)=>some (.pv (.lst es))
  |some (.bA z es)=>some (.down z es)
  |_=>none
 |_=>none
def aO (h:List Y0):List L->Option (List L)
 |[]=>some []
 |l::ls=>match bJ h l,aO h ls with
  |some x,some xs=>some (x::xs)
  |_,_=>none
def cj (Z:St):YW->Option V
 | .tmp t=>some (Z.t.getD t (.b9 []))
 | .cell t n=>bA Z.h true n (Z.t.getD t (.b9 []))
def am (Z:St):List YW->Option (List V)
 |[]=>some []
 |r::rs=>match cj Z r,am Z rs with
  |some x,some xs=>some (x::xs)
  |_,_=>none
def comp (h:List Y0):V->Option (Bool×List L)
 | .one l=>match aO h [l]with
  |some xs=>some (false,xs)
  |none=>none
 | .agg ls=>match aO h ls with
  |some xs=>some (true,xs)
  |none=>none
 | .b9 _=>none
def bS (h:List Y0):List V->Option (List (Bool×List L))
 |[]=>some []
 |v::vs=>match comp h v,bS h vs with
  |some x,some xs=>some (x::xs)
  |_,_=>none
def aZ (Z:St)(rs:List YW):Option V:=
 match am Z rs with
 |none=>none
 |some vs=>
  if(aj (vs.flatMap V.cells)).Nodup then
   match bS Z.h vs with
   |some [(true,ls)]=>some (.agg ls)
   |some [(false,[l])]=>some (.one l)
   |some xs=>if xs.length=1 then none else some (.b9 xs)
   |none=>none
  else none
def start (fn:AFn)(args:List V):St:=⟨args++List.replicate (fn.ntmps-args.length) (.b9 []),[]⟩
def done (fn:AFn):Option (Ex×St)->Option V
 |some (.normal,Z)=>aZ Z fn.results
 |some (.ret,Z)=>aZ Z fn.results
 |_=>none
def ed :List Y0->List V->List V×List Y0
 |h,[]=>([],h)
 |h,v::vs=>let q:=thaw h v;let r:=ed q.2 vs;(q.1::r.1,r.2)
def jx (fn:AFn)(args:List V):St:=⟨(ed [] args).1++List.replicate (fn.ntmps-args.length) (.b9 []),(ed [] args).2.map Y0.zone⟩
def iv :List Y0->Option (List (Bool×List L))
 |[]=>some []
 | .bB z es::h=>match iv h with
  |some xs=>some ((false,[.down z es])::xs)
  |none=>none
 |_=>none
def AOp.bY :AOp->Bool
 | .bc _ _=>false
 |_=>true
def Y5.bY :Y5->Bool
 | .region ops=>ops.all fun o=>o.op.bY
 | .seq a b=>a.bY&&b.bY
 | .cond _ a b=>a.bY&&b.bY
 | .block _ c=>c.bY
 | .loop c=>c.bY
 |_=>true
def Iv (m:Nat)(fn:AFn)(Z:St):Option V:=
 match aZ Z fn.results,iv (Z.h.take m)with
 |some (.one l),some os=>if l.flat then some (.b9 ((false,[l])::os))else none
 |_,_=>none
def xD (m:Nat)(fn:AFn):Option (Ex×St)->Option V
 |some (.normal,Z)=>Iv m fn Z
 |some (.ret,Z)=>Iv m fn Z
 |_=>none
def la (fn:AFn)(args:List V)(h:List Y0):St:=⟨args++List.replicate (fn.ntmps-args.length) (.b9 []),h⟩
def OD (fn:AFn)(Z:St):Option V:=
 match am Z fn.results,zt Z.h with
 |some [.agg ls],some e=>match vw ls with
  |some ps=>some (.b9 [(false,[.pv (.lst e)]),(false,[.pv (.lst [ps])])])
  |none=>none
 |_,_=>none
def Fi (fn:AFn):Option (Ex×St)->Option V
 |some (.normal,Z)=>OD fn Z
 |some (.ret,Z)=>OD fn Z
 |_=>none
def P3 :List V->Option (List Y0×List V)
 | .one (.pv (.lst e))::xz=>match JU e with
  |some h=>some (h,xz)
  |none=>none
 |_=>none
def run (Φ:Nat->Option AFn)(ext:Nat->List V->Option V):Nat->Nat->List V->Option V
 |0,_,_=>none
 |n+1,k,args=>match Φ k with
  |none=>if fH<=k then(match Φ (k-fH)with
   |some fn=>if fn.body.bY then xD (ed [] args).2.length fn (ap (run Φ ext n) (eG n) fn.body (jx fn args))else none
   |none=>if 2*fH<=k then(match Φ (k-2*fH),P3 args with
    |some fn,some (h,xz)=>if fn.body.bY then Fi fn (ap (run Φ ext n) (eG n) fn.body (la fn xz h))else none
    |_,_=>none)else none)else ext k args
  |some fn=>done fn (ap (run Φ ext n) (eG n) fn.body (start fn args))
end Gi
