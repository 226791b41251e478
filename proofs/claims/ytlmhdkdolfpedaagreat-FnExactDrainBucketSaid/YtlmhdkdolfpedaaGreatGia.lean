/- Of this proof. -/
import Derived.WalkKit
set_option linter.all false
namespace Gi
open Go
def Za:=@List.getElem?_set_ne
def Zb:=@List.getElem?_eq_some_iff
def Zc:=@Nat.le_trans
def Zd:=@List.getElem?_set_self
def Ze:=@List.getElem?_append_left
def Zf:=@List.getElem_mem
def Zg:=@Bool.and_eq_true
def Zh:=@List.cons_append
def Zi:=@Nat.le_refl
def Zj:=@List.nil_append
def Zk:=@List.getElem?_eq_getElem
def Zl:=@Option.map_eq_some_iff
def Zm:=@List.getElem?_append_right
def Zn:=@List.mem_of_getElem?
def Zo:=@List.length_cons
def Zp:=@List.getElem?_map
def Zq:=@List.all_cons
def Zr:=@List.length_map
def Zs:=@List.take_of_length_le
def Zt:=@List.map_cons
def Zu:=@List.all_eq_true
def Zv:=@List.length_append
def Zw:=@List.append_nil
def Zx:=@List.length_nil
def Zy:=@List.map_nil
def Zz:=@Bool.false_eq_true
def ZA:=@List.mem_of_mem_take
def ZB:=@Bool.not_eq_true'
def ZC:=@List.length_set
def ZD:=@Nat.lt_of_lt_of_le
def ZE:=@Nat.mul_le_mul_right
def ZF:=@List.mem_cons
def ZG:=@Bool.and_self
def ZH:=@List.length_take
def ZI:=@List.length_singleton
def ZJ:=@Nat.zero_add
def ZK:=@List.mem_or_eq_of_mem_set
def ZL:=@List.getElem?_take
def ZM:=@List.take_zero
def ZN:=@List.length_eq_one_iff
def ZO:=@List.map_congr_left
def ZP:=@List.set_cons_zero
def ZQ:=@List.take_succ_eq_append_getElem
def ZR:=@Bool.or_eq_false_iff
def ZS:=@List.findIdx?_eq_some_iff_getElem
def ZT:=@List.getElem?_eq_none
def ZU:=@Nat.le_add_right
def ZV:=@List.mem_map
def ZW:=@Array.getElem?_append_left
def ZX:=@Bool.false_and
def ZY:=@Bool.and_false
def ZZ:=@Array.toList_map
def Y':=@List.flatMap_cons
def Ya:=@Bool.not_eq_false'
def Yb:=@List.mem_iff_getElem
def Yc:=@List.mem_of_mem_drop
def Yd:=@List.take_length
def Ye:=@List.mem_append
def Yf:=@List.set_cons_succ
def Yg:=@List.getElem?_cons_zero
def Yh:=@List.getElem_of_mem
def Yi:=@Bool.true_and
def Yj:=@Bool.and_true
def Yk:=@Nat.one_mul
def Yl:=@List.eq_nil_of_length_eq_zero
def Ym:=@List.mem_cons_of_mem
def Yn:=@List.nodup_cons
def Yo:=@Array.length_toList
def Yp:=@List.getElem?_cons_succ
def Yq:=@Array.getElem?_eq_some_iff
def Yr:=@Nat.eq_of_mul_eq_mul_right
def Ys:=@Option.getD_some
def Yt:=@Array.getElem?_eq_none
def Yu:=@List.drop_eq_nil_of_le
def Yv:=@Bool.not_true
def Yw:=@List.mem_cons_self
def Yx:=@Nat.add_zero
def Yy:=@List.getElem_cons_zero
def Yz:=@List.getD_cons_zero
def YA:=@Nat.zero_le
def YB:=@List.findIdx?_eq_none_iff
def YC:=@List.length_filter_le
def YD:=@List.length_drop
def YE:=@List.flatMap_nil
def YF:=@Array.getElem?_setIfInBounds_self_of_lt
def YG:=@Nat.mul_comm
def YH:=@Nat.sub_self
def YI:=@Bool.true_or
def YJ:=@List.map_set
def YK:=@List.ext_getElem?
def YL:=@Bool.or_eq_true
def YM:=@Array.getElem?_append_right
def YN:=@List.getElem?_drop
def YO:=@List.exists_cons_of_ne_nil
def YP:=@List.set_append_right
def YQ:=@Array.getElem?_setIfInBounds_ne
def YR:=@List.filterMap_cons
def YS:=@List.filter_cons
def YT:=@List.find?_eq_some_iff_getElem
def YU:=@Nat.le_of_lt
def YV:=@List.getElem_cons_succ
def YW:=@List.foldl_cons
def YX:=@List.set_comm
def YY:=@Nat.div_lt_iff_lt_mul
def YZ:=@Array.getD_eq_getD_getElem?
def Q':=@Bool.not_false
def Qa:=@List.replicate_succ
def Qb:=@List.getD_cons_succ
def Qc:=@List.take_nil
def Qd:=@List.any_cons
def Qe:=@Option.map_some
def Qf:=@List.map_append
def Qg:=@Bool.eq_iff_iff
def Qh:=@Nat.mod_lt
def Qi:=@List.mem_singleton
def Qj:=@Nat.add_sub_cancel
def Qk:=@List.find?_eq_none
def Ql:=@Nat.le_mul_of_pos_right
def Qm:=@List.getElem?_inj
def Qn:=@List.foldl_append
def Qo:=@List.any_eq_false
def Qp:=@List.flatten_cons
def Qq:=@List.getElem?_set
def Qr:=@Bool.and_eq_false_iff
def Qs:=@Nat.div_eq_of_lt
def Qt:=@Nat.le_max_right
def Qu:=@Nat.and_two_pow_sub_one_eq_mod
def Qv:=@List.getElem?_zipIdx
def Qw:=@List.set_append_left
def Qx:=@Nat.mul_add_div
def Qy:=@Nat.div_add_mod
def Qz:=@Nat.le_max_left
def QK:=@List.mem_filter
def QL:=@List.length_pos_iff
def QM:=@Nat.mul_le_mul_left
def QN:=@List.findIdx?_cons
def QO:=@List.mem_range
def QP:=@List.nodup_nil
def QQ:=@Nat.lt_of_le_of_lt
def QR:=@List.drop_eq_getElem_cons
def QS:=@Array.mapM_eq_mapM_toList
def QT:=@List.pairwise_iff_getElem
def QU:=@Nat.lt_trichotomy
def QV:=@Array.getElem_mem
def QW:=@List.drop_nil
def QX:=@Bool.or_false
def QY:=@List.sum_cons
def QZ:=@Nat.le_of_not_lt
def K':=@List.zipIdx_cons
def Xa:=@Nat.mod_eq_of_lt
inductive PV where
 |int (k:IntKind) (n:Int)
 |bool (b:Bool)
 |str (s:List UInt8)
 |lst (es:List (List PV))
inductive L where
 |pv (p:PV)
 |ptr (o i j:Nat)
 |ip (e:List PV) (j:Nat)
 |arr (o:Nat)
 |nil
 |own (z:Nat) (es:List (List PV))
 |down (z:Nat) (es:List (List PV))
 |fn (k:Nat) (caps:List (List PV))
 |tp (n:Nat)
 |sub (o c:Nat)
 |c5 (o l r:Nat)
 |br
inductive V where
 |one (l:L)
 |agg (ls:List L)
 |b8 (vs:List (Bool×List L))
inductive Q0 where
 |box (cs:List L)
 |arr (z:Nat) (es:List (List PV))
 |bG (z:Nat) (es:List (List PV))
 |b9 (z:Nat) (es:List (List PV))
 |bB (z:Nat) (es:List (List PV))
 |bK (ps:List PV)
 |bS (n:Nat)
 |dead
 |res
structure St where
 t:List V
 h:List Q0
inductive Opd where
 |tmp (n:Nat)
 |pv (p:PV)
 |nil
 |fn (k:Nat)
inductive EK where
 |b
 |i
 |s
inductive AOp where
 |mv (x:Opd)
 |pick (c a b:Opd)
 |alloc (zero:List L)
 |box (x:Opd)
 |build (zero:List L) (parts:List (Nat×Nat×Opd))
 |bM (z:Nat) (parts:List Opd)
 |load (isAgg:Bool) (n:Nat) (a:Opd)
 |store (n:Nat) (a v:Opd)
 |bin (op:BinOp) (x y:Opd)
 |cP (neg:Bool) (x y:Opd)
 |un (op:UnOp) (x:Opd)
 |conv (k:IntKind) (x:Opd)
 |cK (x:Opd)
 |make (bytes:Nat) (zero:List PV) (n:Opd)
 |bj (x:Opd) (off:Nat)
 |bF (z:Nat) (x i:Opd)
 |c6 (x i:Opd)
 |extract (x:Opd) (i:Nat)
 |len (x:Opd)
 |cG (x:Opd)
 |append (z bytes:Nat) (x y:Opd)
 |bR (bytes:Nat) (x y:Opd)
 |call (f:Nat) (args:List Opd) (fl fz:Bool)
 |mm (isMax:Bool) (x y:Opd)
 |c7 (k:Nat) (caps:List Opd)
 |bl (x:Opd) (args:List Opd)
 |cQ (neg:Bool) (ks:List EK) (x y:Opd)
 |bu (z:Nat) (x:Opd) (lo hi:Option Opd)
 |cF (x:Opd)
 |bQ (f:Nat) (args:List Opd)
 |insert (k z bytes:Nat) (x i v:Opd)
 |c2 (k z:Nat) (x f:Opd)
 |c0 (isAgg:Bool) (n:Nat) (a:Opd)
 |c1 (z:Nat) (x:Opd) (lo hi:Option Opd)
 |bY (z:Nat) (parts:List Opd)
 |bo (isAgg:Bool) (n:Nat) (a:Opd)
 |bP (n:Nat) (a v:Opd)
 |bd (isAgg:Bool) (n:Nat) (a:Opd) (r:Nat)
 |bT (n:Nat)
 |storeT (n:Nat) (a v:Opd)
 |storeD (n:Nat) (a v:Opd)
 |bV (z:Nat) (parts:List Opd)
 |bH (z bytes:Nat) (x y:Opd)
 |bN (f:Nat) (args:List Opd)
 |bw (x:Opd)
 |bL (z:Nat) (x i:Opd)
 |bm (isAgg:Bool) (n:Nat) (a:Opd)
 |bU (n:Nat) (a v:Opd)
 |ba (f:Nat) (args:List Opd)
 |bb (f:Nat) (args:List Opd)
 |bc (f:Nat) (x k:Opd)
 |bZ (zero:List L)
 |bI (i:Nat) (zero:List L)
 |bx (n:Nat) (x:Opd)
 |bp (f:Nat) (args:List Opd)
 |storeAt (i n:Nat) (a v:Opd)
structure X2 where
 dst:Option Nat
 op:AOp
 guard:Option (Nat×Bool)
inductive Q6 where
 |skip
 |region (ops:List X2)
 |seq (a b:Q6)
 |cond (c:Opd) (thn els:Q6)
 |block (id:Nat) (body:Q6)
 |loop (body:Q6)
 |exit (id:Nat)
 |ret
inductive Ex where
 |normal
 |exit (id:Nat)
 |ret
inductive Z9 where
 |tmp (t:Nat)
 |cell (t:Nat) (n:Nat)
structure AFn where
 ntmps:Nat
 results:List Z9
 body:Q6
def V.cells :V->List L
 | .one l=>[l]
 | .agg ls=>ls
 | .b8 _=>[.br]
def Opd.ev (Z:St):Opd->V
 | .tmp n=>Z.t.getD n (.b8 [])
 | .pv p=> .one (.pv p)
 | .nil=> .one .nil
 | .fn k=> .one (.fn k [])
def L.view (h:List Q0):L->Option PV
 | .pv p=>some p
 | .nil=>some (.lst [])
 | .arr o=>match h[o]? with
  |some (.arr _ es)=>some (.lst es)
  |some (.bG _ es)=>some (.lst es)
  |some (.b9 _ es)=>some (.lst es)
  |_=>none
 |_=>none
def viewL (h:List Q0):List L->Option (List PV)
 |[]=>some []
 |l::ls=>match l.view h,viewL h ls with
  |some p,some ps=>some (p::ps)
  |_,_=>none
def V.view (h:List Q0):V->Option V
 | .one (.fn k caps)=>some (.one (.fn k caps))
 | .one l=>match l.view h with
  |some p=>some (.one (.pv p))
  |none=>none
 | .agg ls=>match viewL h ls with
  |some ps=>some (.agg (ps.map .pv))
  |none=>none
 | .b8 _=>none
def cy (h:List Q0):List V->Option (List V)
 |[]=>some []
 |v::vs=>match v.view h,cy h vs with
  |some p,some ps=>some (p::ps)
  |_,_=>none
def freezeL (h:List Q0):L->List Q0
 | .arr o=>match h[o]? with
  |some (.arr z es)=>h.set o (.bG z es)
  |some (.b9 z es)=>h.set o (.bG z es)
  |_=>h
 |_=>h
def freezeLs (h:List Q0)(ls:List L):List Q0:=ls.foldl freezeL h
def freezeVs (h:List Q0)(vs:List V):List Q0:=vs.foldl (fun h v=>freezeLs h v.cells) h
def L.mut (h:List Q0):L->Bool
 | .arr o=>match h[o]? with
  |some (.arr _ _)=>true
  |some (.b9 _ _)=>true
  |_=>false
 |_=>false
def V.mut (h:List Q0)(v:V):Bool:=v.cells.any (L.mut h)
def isInt :V->Option (IntKind×Int)
 | .one (.pv (.int k n))=>some (k,n)
 |_=>none
def isStr :V->Option (List UInt8)
 | .one (.pv (.str s))=>some s
 |_=>none
def isBool :V->Option Bool
 | .one (.pv (.bool b))=>some b
 |_=>none
abbrev ce (k:IntKind)(n:Int):V:= .one (.pv (.int k n))
abbrev cK (b:Bool):V:= .one (.pv (.bool b))
abbrev fY (s:List UInt8):V:= .one (.pv (.str s))
abbrev eQ (es:List (List PV)):V:= .one (.pv (.lst es))
def ff (op:BinOp)(k:IntKind)(a b:Int):Option V:=
 match op with
 | .add=>some (ce k (k.wrap (a+b)))
 | .sub=>some (ce k (k.wrap (a-b)))
 | .mul=>some (ce k (k.wrap (a*b)))
 | .quo=>if b=0 then none else some (ce k (k.wrap (a.tdiv b)))
 | .rem=>if b=0 then none else some (ce k (a.tmod b))
 | .and=>some (ce k (k.wrap ((BitVec.ofInt k.bits a&&&BitVec.ofInt k.bits b).toNat)))
 | .or=>some (ce k (k.wrap ((BitVec.ofInt k.bits a|||BitVec.ofInt k.bits b).toNat)))
 | .eql=>some (cK (a==b))
 | .neq=>some (cK (a !=b))
 | .lss=>some (cK (decide (a<b)))
 | .leq=>some (cK (decide (a<=b)))
 | .gtr=>some (cK (decide (b<a)))
 | .geq=>some (cK (decide (b<=a)))
 |_=>none
def qi (op:BinOp)(k:IntKind)(a b:Int):Option V:=
 if b<0 then none else
 match op with
 | .shl=>some (ce k (k.wrap (a*2^(min b.toNat k.bits))))
 | .shr=>some (ce k (a.fdiv (2^(min b.toNat k.bits))))
 |_=>none
def mA (op:BinOp)(a b:List UInt8):Option V:=
 match op with
 | .add=>if a.length+b.length<=9223372036854775807 then some (fY (a++b))else none
 | .eql=>some (cK (a==b))
 | .neq=>some (cK (!(a==b)))
 | .lss=>some (cK (Op.bytesLess a b))
 | .leq=>some (cK (Op.bytesLess a b||a==b))
 | .gtr=>some (cK (!(Op.bytesLess a b||a==b)))
 | .geq=>some (cK (!Op.bytesLess a b))
 |_=>none
def bin (op:BinOp)(x y:V):Option V:=
 match x,y with
 | .one (.pv (.int k a)), .one (.pv (.int k' b))=>
  match op with
  | .shl| .shr=>qi op k a b
  |_=>if k=k' then ff op k a b else none
 | .one (.pv (.str a)), .one (.pv (.str b))=>mA op a b
 |_,_=>none
def un (op:UnOp)(x:V):Option V:=
 match op,x with
 | .not, .one (.pv (.bool b))=>some (cK (!b))
 | .neg, .one (.pv (.int k n))=>some (ce k (k.wrap (0-n)))
 |_,_=>none
def iZ (isAgg:Bool)(n j:Nat)(cs:List L):Option V:=
 if j+n<=cs.length then
  if isAgg then some (.agg ((cs.drop j).take n))
  else if n=1 then(match cs[j]? with
   |some l=>some (.one l)
   |none=>none)else none
 else none
def dM (h:List Q0)(isAgg:Bool)(n:Nat)(a:V):Option V:=
 match a with
 | .one (.ptr o i j)=>match h[o]? with
  |some (.box cs)=>if i=0 then iZ isAgg n j cs else none
  |some (.arr _ es)=>match es[i]? with
   |some e=>iZ isAgg n j (e.map .pv)
   |none=>none
  |some (.bG _ es)=>match es[i]? with
   |some e=>iZ isAgg n j (e.map .pv)
   |none=>none
  |some (.b9 _ es)=>match es[i]? with
   |some e=>iZ isAgg n j (e.map .pv)
   |none=>none
  |some (.bK ps)=>if i=0 then iZ isAgg n j (ps.map .pv)else none
  |_=>none
 | .one (.ip e j)=>iZ isAgg n j (e.map .pv)
 |_=>none
def ej (h:List Q0):V->Bool
 | .one (.ptr o _ _)=>match h[o]? with
  |some (.box _)=>true
  |some (.bK _)=>true
  |_=>false
 | .one (.ip _ _)=>true
 |_=>false
def oL :V->V->Bool
 | .one (.ptr o _ _), .one (.ptr o' _ _)=> !(o==o')
 | .one (.ip _ _), .one (.ptr _ _ _)=>true
 |_,_=>false
def putAt {α:Type}(cs:List α)(j:Nat)(ls:List α):List α:=cs.take j++ls++cs.drop (j+ls.length)
def plain :L->Bool
 | .own _ _=>false
 | .down _ _=>false
 | .tp _=>false
 | .sub _ _=>false
 | .c5 _ _ _=>false
 | .br=>false
 |_=>true
def L.bA (o:Nat):L->Bool
 | .arr o'=> !(o'==o)
 |_=>true
def dK (h:List Q0)(n:Nat)(a v:V):Option (List Q0):=
 let ls:=v.cells
 if ls.length=n then
  match a with
  | .one (.ptr o i j)=>match h[o]? with
   |some (.box cs)=>if i=0/\ j+n<=cs.length/\ ls.all plain=true then some (h.set o (.box (putAt cs j ls)))else none
   |some (.arr z es)=>match es[i]?,viewL h ls with
    |some e,some ps=>if j+n<=e.length/\ ls.all (L.bA o)=true then some ((freezeLs h ls).set o (.arr z (es.set i (putAt e j ps))))else none
    |_,_=>none
   |_=>none
  |_=>none
 else none
def fA (cs:List L):List (Nat×Nat×V)->Option (List L)
 |[]=>some cs
 |(off,n,v)::rest=>if v.cells.length=n/\ off+n<=cs.length/\ v.cells.all plain=true then fA (putAt cs off v.cells) rest else none
def asList (h:List Q0)(v:V):Option (List (List PV)):=
 match v with
 | .one l=>match l.view h with
  |some (.lst es)=>some es
  |_=>none
 |_=>none
def cN (h:List Q0)(z:Nat)(x:V)(i:Nat):Option V:=
 match x with
 | .one (.arr o)=>match h[o]? with
  |some (.arr z' es)=>if i<es.length/\ z'=z then some (.one (.ptr o i 0))else none
  |some (.bG z' es)=>if i<es.length/\ z'=z then some (.one (.ptr o i 0))else none
  |some (.b9 z' es)=>if i<es.length/\ z'=z then some (.one (.ptr o i 0))else none
  |_=>none
 | .one (.pv (.lst es))=>match es[i]? with
  |some e=>if e.length=z then some (.one (.ip e 0))else none
  |none=>none
 |_=>none
def L.flat :L->Bool
 | .pv (.int _ _)=>true
 | .pv (.bool _)=>true
 | .pv (.str _)=>true
 |_=>false
def V.flat :V->Bool
 | .one l=>l.flat
 | .agg ls=>ls.all L.flat
 | .b8 xs=>xs.all fun x=>x.2.all L.flat
def vM :List (List PV)->Option (List UInt8)
 |[]=>some []
 |[.int .u8 n]::r=>match vM r with
  |some l=>some (UInt8.ofNat n.toNat::l)
  |none=>none
 |_=>none
def cC (s:List UInt8):List (List PV):=s.map fun b=>[.int .u8 b.toNat]
def thawL (h:List Q0):List L->List L×List Q0
 |[]=>([],h)
 | .own z es::ls=>let r:=thawL (h++[.arr z es]) ls;(.arr h.length::r.1,r.2)
 | .down z es::ls=>let r:=thawL (h++[.b9 z es]) ls;(.arr h.length::r.1,r.2)
 |l::ls=>let r:=thawL h ls;(l::r.1,r.2)
def thawT (h:List Q0):List (Bool×List L)->List (Bool×List L)×List Q0
 |[]=>([],h)
 |(b,ls)::vs=>let r:=thawL h ls;let q:=thawT r.2 vs;((b,r.1)::q.1,q.2)
def thaw (h:List Q0):V->V×List Q0
 | .one l=>match thawL h [l]with
  |([l'],h')=>(.one l',h')
  |_=>(.one .br,h)
 | .agg ls=>let r:=thawL h ls;(.agg r.1,r.2)
 | .b8 vs=>let r:=thawT h vs;(.b8 r.1,r.2)
def L.ow :L->L
 | .down z es=> .own z es
 |l=>l
def V.ow :V->V
 | .one l=> .one l.ow
 | .agg ls=> .agg (ls.map L.ow)
 | .b8 vs=> .b8 (vs.map fun x=>(x.1,x.2.map L.ow))
def ft :L->L
 | .own _ es=> .pv (.lst es)
 | .down _ es=> .pv (.lst es)
 |l=>l
def fb :V->V
 | .one l=> .one (ft l)
 | .agg ls=> .agg (ls.map ft)
 | .b8 vs=> .b8 (vs.map fun x=>(x.1,x.2.map ft))
def tZ (h:List Q0):V->Option (List PV×List Q0)
 | .one (.ptr o i j)=>if i=0/\ j=0 then(match h[o]? with
  |some (.box cs)=>match viewL h cs with
   |some ps=>if cs.all (fun l=> !(L.mut h l))then some (ps,h.set o (.bK ps))else none
   |none=>none
  |some (.bK ps)=>some (ps,h)
  |_=>none)else none
 | .one (.ip e j)=>if j=0 then some (e,h)else none
 |_=>none
def nN (h:List Q0):List V->Option (List (List PV)×List Q0)
 |[]=>some ([],h)
 |v::vs=>match tZ h v with
  |some (e,h1)=>match nN h1 vs with
   |some (es,h2)=>some (e::es,h2)
   |none=>none
  |none=>none
def wR (e:List PV):V:= .one (.ip e 0)
def Ue :EK->L->L->Option Bool
 | .i, .pv (.int k a), .pv (.int k' b)=>if k=k' then some (a==b)else none
 | .b, .pv (.bool a), .pv (.bool b)=>some (a==b)
 | .s, .pv (.str a), .pv (.str b)=>some (a==b)
 |_,_,_=>none
def t7 :List EK->List L->List L->Option Bool
 |[],_,_=>some true
 |k::ks,a::xz,b::bs=>match Ue k a b,t7 ks xz bs with
  |some x,some y=>some (x&&y)
  |_,_=>none
 |_,_,_=>none
def eG (Z:St)(d:Int):Option Opd->Option Int
 |none=>some d
 |some o=>match isInt (o.ev Z)with
  |some (_,n)=>some n
  |none=>none
def ep :List L->Option (List PV)
 |[]=>some []
 | .pv p::ls=>match ep ls with
  |some ps=>some (p::ps)
  |none=>none
 |_=>none
def fD :List V->Option (List (List PV))
 |[]=>some []
 |v::vs=>match ep v.cells,fD vs with
  |some e,some es=>some (e::es)
  |_,_=>none
def L.bJ :L->L
 | .sub _ _=> .br
 |l=>l
def Q0.bW :Q0->Q0
 | .bB z es=> .b9 z es
 | .box cs=> .box (cs.map L.bJ)
 |ob=>ob
def lent (h:List Q0):List Q0:=h.map Q0.bW
def Q0.zone :Q0->Q0
 | .arr z es=> .bB z es
 | .b9 z es=> .bB z es
 |ob=>ob
def vY (h:List Q0)(r:V):V×List Q0:=((thaw h r).1,h++(thaw [] r).2.map Q0.zone)
def PV.flat :PV->Bool
 | .lst _=>false
 |_=>true
def wid :List (List PV)->Nat
 |[]=>1
 |e::_=>e.length
def Br (z:Nat)(es:List (List PV))(c:Nat):Option PV:=
 match es[c/z]? with
 |some e=>e[c%z]?
 |none=>none
def iQ (z:Nat)(es:List (List PV))(c:Nat)(p:PV):List (List PV):=es.set (c/z) (((es[c/z]?).getD []).set (c%z) p)
def vk (h:List Q0)(isAgg:Bool)(n:Nat)(a:V):Option V:=
 match a with
 | .one (.ptr o i j)=>match h[o]? with
  |some (.bB z es)=>match es[i]? with
   |some e=>match e[j]? with
    |some (.lst _)=>if isAgg=false/\ n=1 then some (.one (.sub o (i*z+j)))else none
    |_=>none
   |none=>none
  |_=>dM h isAgg n a
 |_=>dM h isAgg n a
def ye (h:List Q0)(n:Nat)(a v:V):Option (List Q0):=
 match a with
 | .one (.ptr o i j)=>match h[o]? with
  |some (.bB z es)=>match es[i]?,v with
   |some e, .one (.pv p)=>match e[j]? with
    |some q=>if n=1/\ p.flat=true/\ q.flat=true then some (h.set o (.bB z (es.set i (e.set j p))))else none
    |none=>none
   |_,_=>none
  |_=>dK h n a v
 |_=>dK h n a v
def iP :Nat:=1048576
def PV.bare :PV->Bool
 | .lst []=>true
 | .lst _=>false
 |_=>true
def Bc (h:List Q0):L->Option L
 | .pv p=>if p.bare then some (.pv p)else none
 | .nil=>some (.pv (.lst []))
 | .arr o=>match h[o]? with
  |some (.bB z es)=>some (.down z es)
  |_=>none
 |_=>none
def oV (h:List Q0):List L->Option (List L)
 |[]=>some []
 |l::ls=>match Bc h l,oV h ls with
  |some x,some xs=>some (x::xs)
  |_,_=>none
def yn (h:List Q0):V->Option V
 | .one l=>match Bc h l with
  |some x=>some (.one x)
  |none=>none
 | .agg ls=>match oV h ls with
  |some xs=>some (.agg xs)
  |none=>none
 | .b8 _=>none
def nC (h:List Q0):List Nat->List (Bool×List L)->Option (List Q0)
 |[],[]=>some h
 |o::os,(false,[.down z es])::outs=>nC (h.set o (.bB z es)) os outs
 |_,_=>none
def iM (call:Nat->List V->Option V)(c:Nat)(caps:List V):List (List PV)->Option (List (List PV))
 |[]=>some []
 |e::es=>match call c (.agg (e.map .pv)::caps)with
  |some (.one (.pv (.bool b)))=>match iM call c caps es with
   |some r=>some (if b then r else e::r)
   |none=>none
  |_=>none
def dX (call:Nat->List V->Option V)(Z:St):AOp->Option V
 | .mv x=>some (x.ev Z)
 | .pick c a b=>match isBool (c.ev Z)with
  |some t=>some (if t then a.ev Z else b.ev Z)
  |none=>none
 | .load g n a=>dM Z.h g n (a.ev Z)
 | .build zero parts=>match fA zero (parts.map fun x=>(x.1,x.2.1,x.2.2.ev Z))with
  |some cs=>some (.agg cs)
  |none=>none
 | .bin op x y=>bin op (x.ev Z) (y.ev Z)
 | .cP neg x y=>match isBool (x.ev Z),isBool (y.ev Z)with
  |some a,some b=>some (cK (if neg then !(a==b)else a==b))
  |_,_=>none
 | .un op x=>un op (x.ev Z)
 | .conv k x=>match isInt (x.ev Z)with
  |some (_,n)=>some (ce k (k.wrap n))
  |none=>none
 | .cK x=>match asList Z.h (x.ev Z)with
  |some es=>match vM es with
   |some s=>some (fY s)
   |none=>none
  |none=>none
 | .bj x off=>match x.ev Z with
  | .one (.ptr o i j)=>some (.one (.ptr o i (j+off)))
  | .one (.ip e j)=>some (.one (.ip e (j+off)))
  |_=>none
 | .bF z x i=>match isInt (i.ev Z)with
  |some (_,n)=>if 0<=n then cN Z.h z (x.ev Z) n.toNat else none
  |none=>none
 | .c6 x i=>match isStr (x.ev Z),isInt (i.ev Z)with
  |some s,some (_,n)=>if 0<=n then(match s[n.toNat]? with
   |some b=>some (ce .u8 b.toNat)
   |none=>none)else none
  |_,_=>none
 | .extract x i=>match x.ev Z with
  | .b8 vs=>match vs[i]? with
   |some (true,ls)=>some (.agg ls)
   |some (false,[l])=>some (.one l)
   |_=>none
  |_=>none
 | .len x=>match asList Z.h (x.ev Z)with
  |some es=>some (ce .i64 es.length)
  |none=>none
 | .cG x=>match isStr (x.ev Z)with
  |some s=>some (ce .i64 s.length)
  |none=>none
 | .call f args fl fz=>
  if fl||fz then
   let vs:=args.map (Opd.ev Z)
   if fl|| !(vs.any (V.mut Z.h))then
    match cy Z.h vs with
    |some xz=>match call f xz with
     |some r=>if fl&& !r.flat then none else some (fb r)
     |none=>none
    |none=>none
   else none
  else none
 | .mm isMax x y=>match isInt (x.ev Z),isInt (y.ev Z)with
  |some (k,a),some (k',b)=>if k=k' then some (ce k (if isMax then(if a<b then b else a)else(if b<a then b else a)))else none
  |_,_=>none
 | .bl x args=>match x.ev Z with
  | .one (.fn k caps)=>match cy Z.h (args.map (Opd.ev Z))with
   |some xz=>match call k (xz++caps.map wR)with
    |some r=>if r.flat then some (fb r)else none
    |none=>none
   |none=>none
  |_=>none
 | .cF x=>match isStr (x.ev Z)with
  |some s=>some (eQ (cC s))
  |none=>none
 | .cQ neg ks x y=>match x.ev Z,y.ev Z with
  | .agg ls, .agg ls'=>match t7 ks ls ls' with
   |some b=>some (cK (if neg then !b else b))
   |none=>none
  |_,_=>none
 | .c0 g n a=>if ej Z.h (a.ev Z)then dM Z.h g n (a.ev Z)else none
 | .bd g n a r=>if oL (a.ev Z) ((Opd.tmp (r%65536)).ev Z)&&(r/65536==0||oL (a.ev Z) ((Opd.tmp (r/65536)).ev Z))then dM Z.h g n (a.ev Z)else none
 | .bo g n a=>if ej Z.h (a.ev Z)then none else dM Z.h g n (a.ev Z)
 | .c1 z x lo hi=>match x.ev Z with
  | .one (.pv (.lst es))=>match eG Z 0 lo,eG Z (es.length:Int) hi with
   |some l,some r=>if 0<=l/\ l<=r/\ r<=es.length/\ es.all (fun e=>e.length==z)=true then some (eQ ((es.drop l.toNat).take (r.toNat-l.toNat)))else none
   |_,_=>none
  |_=>none
 | .bY z parts=>match fD (parts.map (Opd.ev Z))with
  |some es=>if es.all (fun e=>e.length==z)=true/\ 0<z/\ es.length*z<=16777216 then some (match es with|[]=> .one .nil|_::_=>eQ es)else none
  |none=>none
 | .bw x=>match asList (lent Z.h) (x.ev Z)with
  |some es=>some (ce .i64 es.length)
  |none=>none
 | .bL z x i=>match isInt (i.ev Z)with
  |some (_,n)=>if 0<=n then cN (lent Z.h) z (x.ev Z) n.toNat else none
  |none=>none
 | .bm g n a=>vk Z.h g n (a.ev Z)
 | .ba f args=>match cy (lent Z.h) (args.map (Opd.ev Z))with
  |some xz=>match call f xz with
   |some r=>if r.flat then some (fb r)else none
   |none=>none
  |none=>none
 |_=>none
def cT (h:List Q0):List V->Option (List (List PV))
 |[]=>some []
 |v::vs=>match viewL h v.cells,cT h vs with
  |some p,some ps=>some (p::ps)
  |_,_=>none
def qN (es:List (List PV)):Bool:=es.all fun e=>e.all PV.flat
def jd (es:List (List PV)):Bool:=es.all fun e=>e.all PV.bare
def L.closed :L->Bool
 | .pv p=>p.bare
 | .nil=>true
 | .own _ es=>jd es
 | .down _ _=>true
 |_=>false
def V.closed :V->Bool
 | .one l=>l.closed
 | .agg ls=>ls.all L.closed
 | .b8 xs=>xs.all fun x=>x.2.all L.closed
def L.bE (h:List Q0):L->Bool
 | .pv p=>p.bare
 | .nil=>true
 | .arr o=>match h[o]? with
  |some (.arr _ es)=>jd es
  |some (.b9 _ _)=>true
  |_=>false
 |_=>false
def cz (ls:List L):List Nat:=ls.filterMap fun| .arr o=>some o|_=>none
def de (h:List Q0)(o:Nat):Option (Nat×List (List PV)):=
 match h[o]? with
 |some (.arr z es)=>if jd es then some (z,es)else none
 |some (.b9 z es)=>some (z,es)
 |_=>none
def FA (h:List Q0)(o:Nat):Option (Nat×List (List PV)):=
 match h[o]? with
 |some (.arr z es)=>some (z,es)
 |some (.b9 z es)=>some (z,es)
 |_=>none
def hJ (h:List Q0)(z:Nat):V->Option (Option (Nat×List (List PV)))
 | .one .nil=>some none
 | .one (.arr o)=>match de h o with
  |some (z',es)=>if z'=z then some (some (o,es))else none
  |none=>none
 |_=>none
def co :Option (Nat×List (List PV))->List (List PV)
 |some x=>x.2
 |none=>[]
def eK (src:Option (Nat×List (List PV)))(o:Nat):Bool:=
 match src with
 |some x=> !(x.1==o)
 |none=>true
def cJ (src:Option (Nat×List (List PV)))(h:List Q0):List Q0:=
 match src with
 |some x=>h.set x.1 .dead
 |none=>h
def nI (h:List Q0)(z:Nat)(src:Option (Nat×List (List PV))):V->Option (List (List PV))
 | .one (.arr o)=>match de h o with
  |some (z',ys)=>if z'=z/\ eK src o=true then some ys else none
  |none=>none
 | .one (.pv (.lst ys))=>if qN ys then some ys else none
 | .one .nil=>some []
 |_=>none
def storeD (h:List Q0)(n:Nat)(a v:V):Option (List Q0):=
 match a with
 | .one (.ptr o i j)=>match de h o with
  |some (z,es)=>match es[i]?,viewL h v.cells with
   |some e,some ps=>if v.cells.length=n/\ j+n<=e.length/\ v.cells.all (L.bA o)=true/\ v.cells.all (L.bE h)=true/\ (cz v.cells).Nodup then some ((freezeLs h v.cells).set o (.b9 z (es.set i (putAt e j ps))))else none
   |_,_=>none
  |none=>dK h n a v
 |_=>none
def nM (call:Nat->List V->Option V)(h:List Q0)(f:Nat)(x:V)(n:Int):Option (V×List Q0):=
 match x with
 | .one (.sub o c)=>match h[o]? with
  |some (.bB z es)=>match Br z es c with
   |some (.lst [])=>match call (f+iP) [eQ [],ce .i64 n]with
    |some (.b8 [(false,[l])])=>if l.flat then some (.one l,h)else none
    |_=>none
   |some (.lst l)=>match call (f+iP) [.one (.down (wid l) l),ce .i64 n]with
    |some (.b8 [(false,[l']),(false,[.down z' es'])])=>if l'.flat=true/\ z'=wid l then some (.one l',h.set o (.bB z (iQ z es c (.lst es'))))else none
    |_=>none
   |_=>none
  |_=>none
 |v=>if(cz v.cells).Nodup then(match yn h v with
  |some a=>match call (f+iP) [a,ce .i64 n]with
   |some (.b8 ((false,[l])::outs))=>if l.flat then(match nC h (cz v.cells) outs with
    |some h'=>some (.one l,h')
    |none=>none)else none
   |_=>none
  |none=>none)else none
def SP :L->Option PV
 | .pv p=>some (.lst [[.int .i64 0,p]])
 | .arr o=>some (.lst [[.int .i64 1, .int .i64 o]])
 | .nil=>some (.lst [])
 |_=>none
def adv :PV->Option L
 | .lst []=>some .nil
 | .lst [[.int .i64 0,p]]=>some (.pv p)
 | .lst [[.int .i64 1, .int .i64 n]]=>some (.arr n.toNat)
 |_=>none
def yR :List L->Option (List PV)
 |[]=>some []
 |l::ls=>match SP l,yR ls with
  |some p,some ps=>some (p::ps)
  |_,_=>none
def FU :List PV->Option (List L)
 |[]=>some []
 |p::ps=>match adv p,FU ps with
  |some l,some ls=>some (l::ls)
  |_,_=>none
def pkO :Q0->Option (List PV)
 | .box cs=>match yR cs with
  |some ps=>some [.int .i64 0, .lst [ps]]
  |none=>none
 | .arr z es=>some [.int .i64 1, .int .i64 z, .lst es]
 | .bG z es=>some [.int .i64 2, .int .i64 z, .lst es]
 | .b9 z es=>some [.int .i64 3, .int .i64 z, .lst es]
 | .dead=>some [.int .i64 4]
 | .res=>some [.int .i64 5]
 |_=>none
def upO :List PV->Option Q0
 |[.int .i64 0, .lst [ps]]=>match FU ps with
  |some cs=>some (.box cs)
  |none=>none
 |[.int .i64 1, .int .i64 z, .lst es]=>some (.arr z.toNat es)
 |[.int .i64 2, .int .i64 z, .lst es]=>some (.bG z.toNat es)
 |[.int .i64 3, .int .i64 z, .lst es]=>some (.b9 z.toNat es)
 |[.int .i64 4]=>some .dead
 |[.int .i64 5]=>some .res
 |_=>none
def Cy :List Q0->Option (List (List PV))
 |[]=>some []
 |x::h=>match pkO x,Cy h with
  |some e,some es=>some (e::es)
  |_,_=>none
def M3 :List (List PV)->Option (List Q0)
 |[]=>some []
 |e::es=>match upO e,M3 es with
  |some x,some h=>some (x::h)
  |_,_=>none
def aas {l:L}{p:PV}(h:SP l=some p):adv p=some l:=by cases l<;>simp only[SP]at h<;>cases h<;>simp[adv]
def Af :∀{ls:List L}{ps:List PV},yR ls=some ps->FU ps=some ls
 |[],_,h=>by cases h;rfl
 |l::ls,ps,h=>by unfold yR at h;split at h;rename_i h1 h2;cases h;simp only[FU,aas h1,Af h2];cases h
def ad4 {x:Q0}{e:List PV}(h:pkO x=some e):upO e=some x:=by
 cases x<;>simp only[pkO]at h;case box cs=>
  split at h
  ·rename_i ps h1;cases h;simp only[upO,Af h1]
  ·cases h
 all_goals cases h
 all_goals simp[upO]
def yQ :∀{h:List Q0}{e:List (List PV)},Cy h=some e->M3 e=some h
 |[],_,h=>by cases h;rfl
 |x::hs,e,h=>by unfold Cy at h;split at h;rename_i h1 h2;cases h;simp only[M3,ad4 h1,yQ h2];cases h
def Fz :Nat->List Q0
 |0=>[]
 |n+1=> .res::Fz n
def eX (call:Nat->List V->Option V)(Z:St):AOp->Option (V×List Q0)
 | .alloc zero=>some (.one (.ptr Z.h.length 0 0),Z.h++[.box zero])
 | .bZ zero=>some (.one (.ptr Z.h.length 0 0),Z.h++[.box zero, .res])
 | .bI i zero=>match Z.h[i]? with
  |some .res=>some (.one (.ptr i 0 0),Z.h.set i (.box zero))
  |_=>none
 | .box x=>if(x.ev Z).cells.all plain then some (.one (.ptr Z.h.length 0 0),Z.h++[.box (x.ev Z).cells])else none
 | .bx n x=>if(x.ev Z).cells.all plain then some (.one (.ptr Z.h.length 0 0),Z.h++ .box (x.ev Z).cells::Fz n)else none
 | .bM z parts=>
  let vs:=parts.map (Opd.ev Z)
  if vs.all (fun v=>v.cells.length==z)&&decide (0<z)&&decide (vs.length*z<=16777216)then
   match cT Z.h vs with
   |some es=>some (.one (.arr (freezeVs Z.h vs).length),freezeVs Z.h vs++[.arr z es])
   |none=>none
  else none
 | .store n a v=>match dK Z.h n (a.ev Z) (v.ev Z)with
  |some h=>some (.b8 [],h)
  |none=>none
 | .bP n a v=>if ej Z.h (a.ev Z)then(match dK Z.h n (a.ev Z) (v.ev Z)with
  |some h=>some (.b8 [],h)
  |none=>none)else none
 | .storeAt i n a v=>match a.ev Z,Z.h[i]? with
  | .one (.ptr o 0 j),some (.box cs)=>if o=i/\ (v.ev Z).cells.length=n/\ j+n<=cs.length/\ (v.ev Z).cells.all plain=true then some (.b8 [],Z.h.set i (.box (putAt cs j (v.ev Z).cells)))else none
  |_,_=>none
 | .bT n=>some (.one (.tp n),Z.h++[.bS n])
 | .storeT n a v=>match a.ev Z with
  | .one (.tp m)=>if m=n/\ (v.ev Z).cells.length=n/\ (v.ev Z).cells.all plain=true then some (.b8 [],Z.h)else none
  |_=>none
 | .make bytes zero n=>match isInt (n.ev Z)with
  |some (_,m)=>if 0<=m/\ m*bytes<=140737488355328/\ m<=9223372036854775807/\ 0<zero.length then some (.one (.arr Z.h.length),Z.h++[.arr zero.length (List.replicate m.toNat zero)])else none
  |none=>none
 | .append z bytes x y=>match x.ev Z,asList Z.h (y.ev Z)with
  | .one .nil,some ys=>if ys.all (fun e=>e.length==z)&&decide (0<z)&&decide (ys.length*bytes<=140737488355328)&&decide (ys.length<=9223372036854775807)
   then some (.one (.arr Z.h.length),Z.h++[.arr z ys])else none
  | .one (.arr o),some ys=>match Z.h[o]? with
   |some (.arr z' es)=>if z'=z/\ ys.all (fun e=>e.length==z)=true/\ (es.length+ys.length)*bytes<=140737488355328/\ es.length+ys.length<=9223372036854775807/\ (y.ev Z).cells.all (L.bA o)=true
    then some (.one (.arr Z.h.length),Z.h.set o .dead++[.arr z (es++ys)])else none
   |_=>none
  |_,_=>none
 | .bR bytes x y=>match x.ev Z,isStr (y.ev Z)with
  | .one .nil,some s=>if s.length*bytes<=140737488355328/\ s.length<=9223372036854775807 then some (.one (.arr Z.h.length),Z.h++[.arr 1 (cC s)])else none
  | .one (.arr o),some s=>match Z.h[o]? with
   |some (.arr z' es)=>if z'=1/\ (es.length+s.length)*bytes<=140737488355328/\ es.length+s.length<=9223372036854775807
    then some (.one (.arr Z.h.length),Z.h.set o .dead++[.arr 1 (es++cC s)])else none
   |_=>none
  |_,_=>none
 | .bu z x lo hi=>match asList Z.h (x.ev Z)with
  |some es=>match eG Z 0 lo,eG Z (es.length:Int) hi with
   |some l,some r=>if 0<=l/\ l<=r/\ r<=es.length/\ es.all (fun e=>e.length==z)=true then some (eQ ((es.drop l.toNat).take (r.toNat-l.toNat)),freezeLs Z.h (x.ev Z).cells)else none
   |_,_=>none
  |none=>none
 | .bQ f args=>
  let vs:=args.map (Opd.ev Z)
  match cy Z.h vs with
  |some xz=>match call f xz with
   |some r=>some (fb r,freezeVs Z.h vs)
   |none=>none
  |none=>none
 | .insert _ z bytes x i v=>match x.ev Z,isInt (i.ev Z),v.ev Z with
  | .one .nil,some (.i64,n), .one (.arr o2)=>match Z.h[o2]? with
   |some (.arr z2 vs)=>if z2=z/\ 0<vs.length/\ n=0/\ vs.length*bytes<=140737488355328/\ vs.length<=9223372036854775807
    then some (.one (.arr Z.h.length),Z.h++[.arr z vs])else none
   |some (.b9 z2 vs)=>if z2=z/\ 0<vs.length/\ n=0/\ vs.length*bytes<=140737488355328/\ vs.length<=9223372036854775807
    then some (.one (.arr Z.h.length),Z.h.set o2 .dead++[.b9 z vs])else none
   |_=>none
  | .one (.arr o),some (.i64,n), .one (.arr o2)=>match Z.h[o2]? with
   |some (.arr z2 vs)=>match Z.h[o]? with
    |some (.arr z1 es)=>if z1=z/\ z2=z/\ o≠o2/\ 0<vs.length/\ 0<=n/\ n<=es.length/\ (es.length+vs.length)*bytes<=140737488355328/\ es.length+vs.length<=9223372036854775807
     then some (.one (.arr Z.h.length),Z.h.set o .dead++[.arr z (es.take n.toNat++vs++es.drop n.toNat)])else none
    |_=>none
   |some (.b9 z2 vs)=>match de Z.h o with
    |some (z1,es)=>if z1=z/\ z2=z/\ o≠o2/\ 0<vs.length/\ 0<=n/\ n<=es.length/\ (es.length+vs.length)*bytes<=140737488355328/\ es.length+vs.length<=9223372036854775807
     then some (.one (.arr Z.h.length),(Z.h.set o .dead).set o2 .dead++[.b9 z (es.take n.toNat++vs++es.drop n.toNat)])else none
    |none=>none
   |_=>none
  |_,_,_=>none
 | .c2 k z x f=>match x.ev Z,f.ev Z with
  | .one .nil, .one (.fn c cs)=>some (.one .nil,Z.h)
  | .one (.arr o), .one (.fn c cs)=>match FA Z.h o with
   |some (z',es)=>if z'=z then(match iM call c (cs.map wR) es with
    |some es'=>some (.one (.arr Z.h.length),Z.h.set o .dead++[.arr z es'])
    |none=>none)else none
   |none=>none
  |_,_=>none
 | .c7 k caps=>match nN Z.h (caps.map (Opd.ev Z))with
  |some (cs,h)=>some (.one (.fn k cs),h)
  |none=>none
 | .bN f args=>
  let vs:=args.map (Opd.ev Z)
  match cy Z.h vs with
  |some xz=>match call f xz with
   |some r=>some (thaw (if r.closed then Z.h else freezeVs Z.h vs) r)
   |none=>none
  |none=>none
 | .storeD n a v=>match storeD Z.h n (a.ev Z) (v.ev Z)with
  |some h=>some (.b8 [],h)
  |none=>none
 | .bV z parts=>
  let vs:=parts.map (Opd.ev Z)
  let ls:=vs.flatMap V.cells
  if vs.all (fun v=>v.cells.length==z)&&decide (0<z)&&decide (vs.length*z<=16777216)&&ls.all (L.bE Z.h)&&decide ((cz ls).Nodup)then
   match cT Z.h vs with
   |some es=>some (.one (.arr (freezeVs Z.h vs).length),freezeVs Z.h vs++[.b9 z es])
   |none=>none
  else none
 | .bH z bytes x y=>
  match hJ Z.h z (x.ev Z)with
  |none=>none
  |some src=>match nI Z.h z src (y.ev Z)with
   |none=>none
   |some ys=>if ys.all (fun e=>e.length==z)=true/\ 0<z/\ ((co src).length+ys.length)*bytes<=140737488355328/\ (co src).length+ys.length<=9223372036854775807
    then some (.one (.arr Z.h.length),cJ src (freezeLs Z.h (y.ev Z).cells)++[.b9 z (co src++ys)])else none
 | .bU n a v=>match ye Z.h n (a.ev Z) (v.ev Z)with
  |some h=>some (.b8 [],h)
  |none=>none
 | .bb f args=>match cy (lent Z.h) (args.map (Opd.ev Z))with
  |some xz=>match call f xz with
   |some r=>if r.closed then some (vY Z.h r)else none
   |none=>none
  |none=>none
 | .bp f args=>match Cy Z.h with
  |some e=>match call (f+2*iP) (eQ e::args.map (Opd.ev Z))with
   |some (.b8 [(false,[.pv (.lst e')]),(false,[.pv (.lst [ps])])])=>match M3 e',FU ps with
    |some h',some ls=>some (.agg ls,h')
    |_,_=>none
   |_=>none
  |none=>none
 | .bc f x k=>match k.ev Z with
  | .one (.pv (.int .i64 n))=>nM call Z.h f (x.ev Z) n
  |_=>none
 | .call f args false false=>
  let vs:=args.map (Opd.ev Z)
  match cy Z.h vs with
  |some xz=>match call f xz with
   |some r=>some (thaw (freezeVs Z.h vs) r.ow)
   |none=>none
  |none=>none
 |_=>none
def put (t:List V)(d:Option Nat)(v:V):List V:=
 match d with
 |some d=>t.set d v
 |none=>t
def dy (Z:St):Option (Nat×Bool)->Option Bool
 |none=>some true
 |some (g,w)=>match Z.t.getD g (.b8 [])with
  | .one (.pv (.bool b))=>some (b==w)
  | .b8 []=>some false
  |_=>none
def cS (call:Nat->List V->Option V)(o:X2)(Z:St):Option St:=
 match dy Z o.guard with
 |some true=>match dX call Z o.op with
  |some v=>some ⟨put Z.t o.dst v,Z.h⟩
  |none=>match eX call Z o.op with
   |some (v,h)=>some ⟨put Z.t o.dst v,h⟩
   |none=>none
 |some false=>some ⟨put Z.t o.dst (.b8 []),Z.h⟩
 |none=>none
def cj (call:Nat->List V->Option V):List X2->St->Option St
 |[],Z=>some Z
 |o::r,Z=>match cS call o Z with
  |some Z'=>cj call r Z'
  |none=>none
def gZ :Nat->(St->Option (Ex×St))->St->Option (Ex×St)
 |0,_,_=>none
 |n+1,f,Z=>match f Z with
  |some (.normal,Z')=>gZ n f Z'
  |r=>r
def cD (call:Nat->List V->Option V)(lp:(St->Option (Ex×St))->St->Option (Ex×St)):Q6->St->Option (Ex×St)
 | .skip,Z=>some (.normal,Z)
 | .region ops,Z=>match cj call ops Z with
  |some Z'=>some (.normal,Z')
  |none=>none
 | .seq a b,Z=>match cD call lp a Z with
  |some (.normal,Z')=>cD call lp b Z'
  |r=>r
 | .cond c a b,Z=>match isBool (c.ev Z)with
  |some t=>if t then cD call lp a Z else cD call lp b Z
  |none=>none
 | .block id c,Z=>match cD call lp c Z with
  |some (.exit i,Z')=>if i=id then some (.normal,Z')else some (.exit i,Z')
  |r=>r
 | .loop c,Z=>lp (cD call lp c) Z
 | .exit id,Z=>some (.exit id,Z)
 | .ret,Z=>some (.ret,Z)
def dS (h:List Q0):L->Option L
 | .pv p=>some (.pv p)
 | .nil=>some .nil
 | .arr o=>match h[o]? with
  |some (.arr z es)=>some (.own z es)
  |some (.bG _ es)=>some (.pv (.lst es))
  |some (.b9 z es)=>some (.down z es)
  |_=>none
 |_=>none
def cV (h:List Q0):List L->Option (List L)
 |[]=>some []
 |l::ls=>match dS h l,cV h ls with
  |some x,some xs=>some (x::xs)
  |_,_=>none
def eY (Z:St):Z9->Option V
 | .tmp t=>some (Z.t.getD t (.b8 []))
 | .cell t n=>dM Z.h true n (Z.t.getD t (.b8 []))
def cu (Z:St):List Z9->Option (List V)
 |[]=>some []
 |r::rs=>match eY Z r,cu Z rs with
  |some x,some xs=>some (x::xs)
  |_,_=>none
def comp (h:List Q0):V->Option (Bool×List L)
 | .one l=>match cV h [l]with
  |some xs=>some (false,xs)
  |none=>none
 | .agg ls=>match cV h ls with
  |some xs=>some (true,xs)
  |none=>none
 | .b8 _=>none
def ee (h:List Q0):List V->Option (List (Bool×List L))
 |[]=>some []
 |v::vs=>match comp h v,ee h vs with
  |some x,some xs=>some (x::xs)
  |_,_=>none
def dd (Z:St)(rs:List Z9):Option V:=
 match cu Z rs with
 |none=>none
 |some vs=>
  if(cz (vs.flatMap V.cells)).Nodup then
   match ee Z.h vs with
   |some [(true,ls)]=>some (.agg ls)
   |some [(false,[l])]=>some (.one l)
   |some xs=>if xs.length=1 then none else some (.b8 xs)
   |none=>none
  else none
def start (fn:AFn)(args:List V):St:=⟨args++List.replicate (fn.ntmps-args.length) (.b8 []),[]⟩
def done (fn:AFn):Option (Ex×St)->Option V
 |some (.normal,Z)=>dd Z fn.results
 |some (.ret,Z)=>dd Z fn.results
 |_=>none
def gM :List Q0->List V->List V×List Q0
 |h,[]=>([],h)
 |h,v::vs=>let q:=thaw h v;let r:=gM q.2 vs;(q.1::r.1,r.2)
def ma (fn:AFn)(args:List V):St:=⟨(gM [] args).1++List.replicate (fn.ntmps-args.length) (.b8 []),(gM [] args).2.map Q0.zone⟩
def kD :List Q0->Option (List (Bool×List L))
 |[]=>some []
 | .bB z es::h=>match kD h with
  |some xs=>some ((false,[.down z es])::xs)
  |none=>none
 |_=>none
def AOp.bX :AOp->Bool
 | .bb _ _=>false
 |_=>true
def Q6.bX :Q6->Bool
 | .region ops=>ops.all fun o=>o.op.bX
 | .seq a b=>a.bX&&b.bX
 | .cond _ a b=>a.bX&&b.bX
 | .block _ c=>c.bX
 | .loop c=>c.bX
 |_=>true
def Lm (m:Nat)(fn:AFn)(Z:St):Option V:=
 match dd Z fn.results,kD (Z.h.take m)with
 |some (.one l),some os=>if l.flat then some (.b8 ((false,[l])::os))else none
 |_,_=>none
def A5 (m:Nat)(fn:AFn):Option (Ex×St)->Option V
 |some (.normal,Z)=>Lm m fn Z
 |some (.ret,Z)=>Lm m fn Z
 |_=>none
def nZ (fn:AFn)(args:List V)(h:List Q0):St:=⟨args++List.replicate (fn.ntmps-args.length) (.b8 []),h⟩
def S3 (fn:AFn)(Z:St):Option V:=
 match cu Z fn.results,Cy Z.h with
 |some [.agg ls],some e=>match yR ls with
  |some ps=>some (.b8 [(false,[.pv (.lst e)]),(false,[.pv (.lst [ps])])])
  |none=>none
 |_,_=>none
def Ih (fn:AFn):Option (Ex×St)->Option V
 |some (.normal,Z)=>S3 fn Z
 |some (.ret,Z)=>S3 fn Z
 |_=>none
def Un :List V->Option (List Q0×List V)
 | .one (.pv (.lst e))::xz=>match M3 e with
  |some h=>some (h,xz)
  |none=>none
 |_=>none
def run (Φ:Nat->Option AFn)(ext:Nat->List V->Option V):Nat->Nat->List V->Option V
 |0,_,_=>none
 |n+1,k,args=>match Φ k with
  |none=>if iP<=k then(match Φ (k-iP)with
   |some fn=>if fn.body.bX then A5 (gM [] args).2.length fn (cD (run Φ ext n) (gZ n) fn.body (ma fn args))else none
   |none=>if 2*iP<=k then(match Φ (k-2*iP),Un args with
    |some fn,some (h,xz)=>if fn.body.bX then Ih fn (cD (run Φ ext n) (gZ n) fn.body (nZ fn xz h))else none
    |_,_=>none)else none)else ext k args
  |some fn=>done fn (cD (run Φ ext n) (gZ n) fn.body (start fn args))
end Gi
