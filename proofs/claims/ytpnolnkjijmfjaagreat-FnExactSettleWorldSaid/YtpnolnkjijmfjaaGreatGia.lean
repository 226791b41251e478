/- Of this proof. -/
import Derived.WalkKit
set_option linter.all false
namespace Gi
open Go
def Za:=@List.getElem?_set_ne
def Zb:=@List.getElem?_eq_some_iff
def Zc:=@Nat.le_trans
def Zd:=@List.getElem?_set_self
def Ze:=@List.getElem?_append_left
def Zf:=@List.getElem_mem
def Zg:=@Bool.and_eq_true
def Zh:=@List.cons_append
def Zi:=@Nat.le_refl
def Zj:=@List.getElem?_eq_getElem
def Zk:=@List.nil_append
def Zl:=@Option.map_eq_some_iff
def Zm:=@List.getElem?_append_right
def Zn:=@List.mem_of_getElem?
def Zo:=@List.length_cons
def Zp:=@List.getElem?_map
def Zq:=@List.all_cons
def Zr:=@List.length_map
def Zs:=@List.take_of_length_le
def Zt:=@List.map_cons
def Zu:=@List.all_eq_true
def Zv:=@List.length_append
def Zw:=@List.append_nil
def Zx:=@List.length_nil
def Zy:=@List.map_nil
def Zz:=@Bool.not_eq_true'
def ZA:=@Bool.false_eq_true
def ZB:=@List.mem_of_mem_take
def ZC:=@List.length_set
def ZD:=@Nat.lt_of_lt_of_le
def ZE:=@Nat.mul_le_mul_right
def ZF:=@List.mem_or_eq_of_mem_set
def ZG:=@List.mem_cons
def ZH:=@Bool.and_self
def ZI:=@List.length_take
def ZJ:=@List.length_singleton
def ZK:=@Nat.zero_add
def ZL:=@List.getElem?_take
def ZM:=@List.take_zero
def ZN:=@List.length_eq_one_iff
def ZO:=@List.map_congr_left
def ZP:=@List.set_cons_zero
def ZQ:=@List.take_succ_eq_append_getElem
def ZR:=@Bool.or_eq_false_iff
def ZS:=@List.findIdx?_eq_some_iff_getElem
def ZT:=@List.getElem?_eq_none
def ZU:=@Nat.le_add_right
def ZV:=@List.mem_map
def ZW:=@Array.getElem?_append_left
def ZX:=@Bool.false_and
def ZY:=@Bool.and_false
def ZZ:=@Array.toList_map
def Y':=@List.flatMap_cons
def Ya:=@Bool.not_eq_false'
def Yb:=@List.mem_iff_getElem
def Yc:=@List.mem_of_mem_drop
def Yd:=@List.take_length
def Ye:=@List.mem_append
def Yf:=@List.set_cons_succ
def Yg:=@List.eq_nil_of_length_eq_zero
def Yh:=@List.getElem?_cons_zero
def Yi:=@List.getElem_of_mem
def Yj:=@Bool.true_and
def Yk:=@Bool.and_true
def Yl:=@Nat.one_mul
def Ym:=@List.mem_cons_of_mem
def Yn:=@List.nodup_cons
def Yo:=@Array.length_toList
def Yp:=@List.getElem?_cons_succ
def Yq:=@Array.getElem?_eq_some_iff
def Yr:=@Nat.eq_of_mul_eq_mul_right
def Ys:=@Option.getD_some
def Yt:=@Array.getElem?_eq_none
def Yu:=@List.drop_eq_nil_of_le
def Yv:=@Bool.not_true
def Yw:=@List.mem_cons_self
def Yx:=@Nat.add_zero
def Yy:=@Nat.le_of_lt
def Yz:=@List.getElem_cons_zero
def YA:=@List.getD_cons_zero
def YB:=@Nat.zero_le
def YC:=@List.findIdx?_eq_none_iff
def YD:=@List.length_filter_le
def YE:=@List.length_drop
def YF:=@List.flatMap_nil
def YG:=@Array.getElem?_setIfInBounds_self_of_lt
def YH:=@Nat.mul_comm
def YI:=@Nat.sub_self
def YJ:=@Bool.true_or
def YK:=@List.map_set
def YL:=@List.ext_getElem?
def YM:=@Bool.or_eq_true
def YN:=@Array.getElem?_append_right
def YO:=@List.getElem?_drop
def YP:=@List.exists_cons_of_ne_nil
def YQ:=@List.set_append_right
def YR:=@Array.getElem?_setIfInBounds_ne
def YS:=@List.filterMap_cons
def YT:=@List.filter_cons
def YU:=@List.find?_eq_some_iff_getElem
def YV:=@List.getElem_cons_succ
def YW:=@List.foldl_cons
def YX:=@List.set_comm
def YY:=@Nat.div_lt_iff_lt_mul
def YZ:=@Array.getD_eq_getD_getElem?
def Q':=@Bool.not_false
def Qa:=@List.replicate_succ
def Qb:=@List.getD_cons_succ
def Qc:=@List.take_nil
def Qd:=@List.any_cons
def Qe:=@Option.map_some
def Qf:=@List.map_append
def Qg:=@Bool.eq_iff_iff
def Qh:=@Nat.mod_lt
def Qi:=@List.mem_singleton
def Qj:=@Nat.add_sub_cancel
def Qk:=@List.find?_eq_none
def Ql:=@Nat.le_mul_of_pos_right
def Qm:=@List.getElem?_inj
def Qn:=@List.foldl_append
def Qo:=@List.any_eq_false
def Qp:=@Nat.lt_or_ge
def Qq:=@List.flatten_cons
def Qr:=@List.getElem?_set
def Qs:=@Bool.and_eq_false_iff
def Qt:=@Nat.div_eq_of_lt
def Qu:=@Nat.le_max_right
def Qv:=@Nat.and_two_pow_sub_one_eq_mod
def Qw:=@List.getElem?_zipIdx
def Qx:=@List.set_append_left
def Qy:=@Nat.mul_add_div
def Qz:=@Nat.div_add_mod
def QK:=@Nat.le_max_left
def QL:=@List.mem_filter
def QM:=@List.length_pos_iff
def QN:=@Nat.mul_le_mul_left
def QO:=@List.findIdx?_cons
def QP:=@List.mem_range
def QQ:=@List.nodup_nil
def QR:=@Nat.lt_of_le_of_lt
def QS:=@List.drop_eq_getElem_cons
def QT:=@Array.mapM_eq_mapM_toList
def QU:=@List.pairwise_iff_getElem
def QV:=@Nat.lt_trichotomy
def QW:=@Array.getElem_mem
def QX:=@List.drop_nil
def QY:=@Bool.or_false
def QZ:=@List.sum_cons
def K':=@Nat.le_of_not_lt
def Xa:=@List.zipIdx_cons
inductive PV where
 |int (k:IntKind) (n:Int)
 |bool (b:Bool)
 |str (s:List UInt8)
 |lst (es:List (List PV))
inductive L where
 |pv (p:PV)
 |ptr (o i j:Nat)
 |ip (e:List PV) (j:Nat)
 |arr (o:Nat)
 |nil
 |own (z:Nat) (es:List (List PV))
 |down (z:Nat) (es:List (List PV))
 |fn (k:Nat) (caps:List (List PV))
 |tp (n:Nat)
 |sub (o c:Nat)
 |cB (o l r:Nat)
 |bw
inductive V where
 |one (l:L)
 |agg (ls:List L)
 |b8 (vs:List (Bool×List L))
inductive Q0 where
 |box (cs:List L)
 |arr (z:Nat) (es:List (List PV))
 |bI (z:Nat) (es:List (List PV))
 |bA (z:Nat) (es:List (List PV))
 |bC (z:Nat) (es:List (List PV))
 |bM (ps:List PV)
 |bU (n:Nat)
 |dead
 |res
structure St where
 t:List V
 h:List Q0
inductive Opd where
 |tmp (n:Nat)
 |pv (p:PV)
 |nil
 |fn (k:Nat)
inductive EK where
 |b
 |i
 |s
inductive AOp where
 |mv (x:Opd)
 |pick (c a b:Opd)
 |alloc (zero:List L)
 |box (x:Opd)
 |build (zero:List L) (parts:List (Nat×Nat×Opd))
 |bO (z:Nat) (parts:List Opd)
 |load (isAgg:Bool) (n:Nat) (a:Opd)
 |store (n:Nat) (a v:Opd)
 |bin (op:BinOp) (x y:Opd)
 |cX (neg:Bool) (x y:Opd)
 |un (op:UnOp) (x:Opd)
 |conv (k:IntKind) (x:Opd)
 |cS (x:Opd)
 |make (bytes:Nat) (zero:List PV) (n:Opd)
 |bo (x:Opd) (off:Nat)
 |bH (z:Nat) (x i:Opd)
 |cD (x i:Opd)
 |extract (x:Opd) (i:Nat)
 |len (x:Opd)
 |cN (x:Opd)
 |append (z bytes:Nat) (x y:Opd)
 |bT (bytes:Nat) (x y:Opd)
 |call (f:Nat) (args:List Opd) (fl fz:Bool)
 |mm (isMax:Bool) (x y:Opd)
 |cE (k:Nat) (caps:List Opd)
 |bp (x:Opd) (args:List Opd)
 |cY (neg:Bool) (ks:List EK) (x y:Opd)
 |c2 (z:Nat) (x:Opd) (lo hi:Option Opd)
 |cM (x:Opd)
 |bS (f:Nat) (args:List Opd)
 |insert (k z bytes:Nat) (x i v:Opd)
 |c9 (k z:Nat) (x f:Opd)
 |c7 (isAgg:Bool) (n:Nat) (a:Opd)
 |c8 (z:Nat) (x:Opd) (lo hi:Option Opd)
 |bc (z:Nat) (parts:List Opd)
 |bs (isAgg:Bool) (n:Nat) (a:Opd)
 |bR (n:Nat) (a v:Opd)
 |bj (isAgg:Bool) (n:Nat) (a:Opd) (r:Nat)
 |bX (n:Nat)
 |storeT (n:Nat) (a v:Opd)
 |storeD (n:Nat) (a v:Opd)
 |bZ (z:Nat) (parts:List Opd)
 |bJ (z bytes:Nat) (x y:Opd)
 |bP (f:Nat) (args:List Opd)
 |c3 (x:Opd)
 |bN (z:Nat) (x i:Opd)
 |bq (isAgg:Bool) (n:Nat) (a:Opd)
 |bY (n:Nat) (a v:Opd)
 |bf (f:Nat) (args:List Opd)
 |bg (f:Nat) (args:List Opd)
 |bh (f:Nat) (x k:Opd)
 |bd (zero:List L)
 |bK (i:Nat) (zero:List L)
 |c5 (n:Nat) (x:Opd)
 |bt (f:Nat) (args:List Opd)
 |storeAt (i n:Nat) (a v:Opd)
structure X2 where
 dst:Option Nat
 op:AOp
 guard:Option (Nat×Bool)
inductive Q7 where
 |skip
 |region (ops:List X2)
 |seq (a b:Q7)
 |cond (c:Opd) (thn els:Q7)
 |block (id:Nat) (body:Q7)
 |loop (body:Q7)
 |exit (id:Nat)
 |ret
inductive Ex where
 |normal
 |exit (id:Nat)
 |ret
inductive Z9 where
 |tmp (t:Nat)
 |cell (t:Nat) (n:Nat)
structure AFn where
 ntmps:Nat
 results:List Z9
 body:Q7
def V.cells :V->List L
 | .one l=>[l]
 | .agg ls=>ls
 | .b8 _=>[.bw]
def Opd.ev (Z:St):Opd->V
 | .tmp n=>Z.t.getD n (.b8 [])
 | .pv p=> .one (.pv p)
 | .nil=> .one .nil
 | .fn k=> .one (.fn k [])
def L.view (h:List Q0):L->Option PV
 | .pv p=>some p
 | .nil=>some (.lst [])
 | .arr o=>match h[o]? with
  |some (.arr _ es)=>some (.lst es)
  |some (.bI _ es)=>some (.lst es)
  |some (.bA _ es)=>some (.lst es)
  |_=>none
 |_=>none
def viewL (h:List Q0):List L->Option (List PV)
 |[]=>some []
 |l::ls=>match l.view h,viewL h ls with
  |some p,some ps=>some (p::ps)
  |_,_=>none
def V.view (h:List Q0):V->Option V
 | .one (.fn k caps)=>some (.one (.fn k caps))
 | .one l=>match l.view h with
  |some p=>some (.one (.pv p))
  |none=>none
 | .agg ls=>match viewL h ls with
  |some ps=>some (.agg (ps.map .pv))
  |none=>none
 | .b8 _=>none
def cy (h:List Q0):List V->Option (List V)
 |[]=>some []
 |v::vs=>match v.view h,cy h vs with
  |some p,some ps=>some (p::ps)
  |_,_=>none
def freezeL (h:List Q0):L->List Q0
 | .arr o=>match h[o]? with
  |some (.arr z es)=>h.set o (.bI z es)
  |some (.bA z es)=>h.set o (.bI z es)
  |_=>h
 |_=>h
def freezeLs (h:List Q0)(ls:List L):List Q0:=ls.foldl freezeL h
def freezeVs (h:List Q0)(vs:List V):List Q0:=vs.foldl (fun h v=>freezeLs h v.cells) h
def L.mut (h:List Q0):L->Bool
 | .arr o=>match h[o]? with
  |some (.arr _ _)=>true
  |some (.bA _ _)=>true
  |_=>false
 |_=>false
def V.mut (h:List Q0)(v:V):Bool:=v.cells.any (L.mut h)
def isInt :V->Option (IntKind×Int)
 | .one (.pv (.int k n))=>some (k,n)
 |_=>none
def isStr :V->Option (List UInt8)
 | .one (.pv (.str s))=>some s
 |_=>none
def isBool :V->Option Bool
 | .one (.pv (.bool b))=>some b
 |_=>none
abbrev ce (k:IntKind)(n:Int):V:= .one (.pv (.int k n))
abbrev cL (b:Bool):V:= .one (.pv (.bool b))
abbrev fZ (s:List UInt8):V:= .one (.pv (.str s))
abbrev eW (es:List (List PV)):V:= .one (.pv (.lst es))
def ft (op:BinOp)(k:IntKind)(a b:Int):Option V:=
 match op with
 | .add=>some (ce k (k.wrap (a+b)))
 | .sub=>some (ce k (k.wrap (a-b)))
 | .mul=>some (ce k (k.wrap (a*b)))
 | .quo=>if b=0 then none else some (ce k (k.wrap (a.tdiv b)))
 | .rem=>if b=0 then none else some (ce k (a.tmod b))
 | .and=>some (ce k (k.wrap ((BitVec.ofInt k.bits a&&&BitVec.ofInt k.bits b).toNat)))
 | .or=>some (ce k (k.wrap ((BitVec.ofInt k.bits a|||BitVec.ofInt k.bits b).toNat)))
 | .eql=>some (cL (a==b))
 | .neq=>some (cL (a !=b))
 | .lss=>some (cL (decide (a<b)))
 | .leq=>some (cL (decide (a<=b)))
 | .gtr=>some (cL (decide (b<a)))
 | .geq=>some (cL (decide (b<=a)))
 |_=>none
def qw (op:BinOp)(k:IntKind)(a b:Int):Option V:=
 if b<0 then none else
 match op with
 | .shl=>some (ce k (k.wrap (a*2^(min b.toNat k.bits))))
 | .shr=>some (ce k (a.fdiv (2^(min b.toNat k.bits))))
 |_=>none
def mJ (op:BinOp)(a b:List UInt8):Option V:=
 match op with
 | .add=>if a.length+b.length<=9223372036854775807 then some (fZ (a++b))else none
 | .eql=>some (cL (a==b))
 | .neq=>some (cL (!(a==b)))
 | .lss=>some (cL (Op.bytesLess a b))
 | .leq=>some (cL (Op.bytesLess a b||a==b))
 | .gtr=>some (cL (!(Op.bytesLess a b||a==b)))
 | .geq=>some (cL (!Op.bytesLess a b))
 |_=>none
def bin (op:BinOp)(x y:V):Option V:=
 match x,y with
 | .one (.pv (.int k a)), .one (.pv (.int k' b))=>
  match op with
  | .shl| .shr=>qw op k a b
  |_=>if k=k' then ft op k a b else none
 | .one (.pv (.str a)), .one (.pv (.str b))=>mJ op a b
 |_,_=>none
def un (op:UnOp)(x:V):Option V:=
 match op,x with
 | .not, .one (.pv (.bool b))=>some (cL (!b))
 | .neg, .one (.pv (.int k n))=>some (ce k (k.wrap (0-n)))
 |_,_=>none
def ja (isAgg:Bool)(n j:Nat)(cs:List L):Option V:=
 if j+n<=cs.length then
  if isAgg then some (.agg ((cs.drop j).take n))
  else if n=1 then(match cs[j]? with
   |some l=>some (.one l)
   |none=>none)else none
 else none
def dP (h:List Q0)(isAgg:Bool)(n:Nat)(a:V):Option V:=
 match a with
 | .one (.ptr o i j)=>match h[o]? with
  |some (.box cs)=>if i=0 then ja isAgg n j cs else none
  |some (.arr _ es)=>match es[i]? with
   |some e=>ja isAgg n j (e.map .pv)
   |none=>none
  |some (.bI _ es)=>match es[i]? with
   |some e=>ja isAgg n j (e.map .pv)
   |none=>none
  |some (.bA _ es)=>match es[i]? with
   |some e=>ja isAgg n j (e.map .pv)
   |none=>none
  |some (.bM ps)=>if i=0 then ja isAgg n j (ps.map .pv)else none
  |_=>none
 | .one (.ip e j)=>ja isAgg n j (e.map .pv)
 |_=>none
def ep (h:List Q0):V->Bool
 | .one (.ptr o _ _)=>match h[o]? with
  |some (.box _)=>true
  |some (.bM _)=>true
  |_=>false
 | .one (.ip _ _)=>true
 |_=>false
def oU :V->V->Bool
 | .one (.ptr o _ _), .one (.ptr o' _ _)=> !(o==o')
 | .one (.ip _ _), .one (.ptr _ _ _)=>true
 |_,_=>false
def putAt {α:Type}(cs:List α)(j:Nat)(ls:List α):List α:=cs.take j++ls++cs.drop (j+ls.length)
def plain :L->Bool
 | .own _ _=>false
 | .down _ _=>false
 | .tp _=>false
 | .sub _ _=>false
 | .cB _ _ _=>false
 | .bw=>false
 |_=>true
def L.bB (o:Nat):L->Bool
 | .arr o'=> !(o'==o)
 |_=>true
def dK (h:List Q0)(n:Nat)(a v:V):Option (List Q0):=
 let ls:=v.cells
 if ls.length=n then
  match a with
  | .one (.ptr o i j)=>match h[o]? with
   |some (.box cs)=>if i=0/\ j+n<=cs.length/\ ls.all plain=true then some (h.set o (.box (putAt cs j ls)))else none
   |some (.arr z es)=>match es[i]?,viewL h ls with
    |some e,some ps=>if j+n<=e.length/\ ls.all (L.bB o)=true then some ((freezeLs h ls).set o (.arr z (es.set i (putAt e j ps))))else none
    |_,_=>none
   |_=>none
  |_=>none
 else none
def fy (cs:List L):List (Nat×Nat×V)->Option (List L)
 |[]=>some cs
 |(off,n,v)::rest=>if v.cells.length=n/\ off+n<=cs.length/\ v.cells.all plain=true then fy (putAt cs off v.cells) rest else none
def asList (h:List Q0)(v:V):Option (List (List PV)):=
 match v with
 | .one l=>match l.view h with
  |some (.lst es)=>some es
  |_=>none
 |_=>none
def cN (h:List Q0)(z:Nat)(x:V)(i:Nat):Option V:=
 match x with
 | .one (.arr o)=>match h[o]? with
  |some (.arr z' es)=>if i<es.length/\ z'=z then some (.one (.ptr o i 0))else none
  |some (.bI z' es)=>if i<es.length/\ z'=z then some (.one (.ptr o i 0))else none
  |some (.bA z' es)=>if i<es.length/\ z'=z then some (.one (.ptr o i 0))else none
  |_=>none
 | .one (.pv (.lst es))=>match es[i]? with
  |some e=>if e.length=z then some (.one (.ip e 0))else none
  |none=>none
 |_=>none
def L.flat :L->Bool
 | .pv (.int _ _)=>true
 | .pv (.bool _)=>true
 | .pv (.str _)=>true
 |_=>false
def V.flat :V->Bool
 | .one l=>l.flat
 | .agg ls=>ls.all L.flat
 | .b8 xs=>xs.all fun x=>x.2.all L.flat
def wa :List (List PV)->Option (List UInt8)
 |[]=>some []
 |[.int .u8 n]::r=>match wa r with
  |some l=>some (UInt8.ofNat n.toNat::l)
  |none=>none
 |_=>none
def cC (s:List UInt8):List (List PV):=s.map fun b=>[.int .u8 b.toNat]
def thawL (h:List Q0):List L->List L×List Q0
 |[]=>([],h)
 | .own z es::ls=>let r:=thawL (h++[.arr z es]) ls;(.arr h.length::r.1,r.2)
 | .down z es::ls=>let r:=thawL (h++[.bA z es]) ls;(.arr h.length::r.1,r.2)
 |l::ls=>let r:=thawL h ls;(l::r.1,r.2)
def thawT (h:List Q0):List (Bool×List L)->List (Bool×List L)×List Q0
 |[]=>([],h)
 |(b,ls)::vs=>let r:=thawL h ls;let q:=thawT r.2 vs;((b,r.1)::q.1,q.2)
def thaw (h:List Q0):V->V×List Q0
 | .one l=>match thawL h [l]with
  |([l'],h')=>(.one l',h')
  |_=>(.one .bw,h)
 | .agg ls=>let r:=thawL h ls;(.agg r.1,r.2)
 | .b8 vs=>let r:=thawT h vs;(.b8 r.1,r.2)
def L.ow :L->L
 | .down z es=> .own z es
 |l=>l
def V.ow :V->V
 | .one l=> .one l.ow
 | .agg ls=> .agg (ls.map L.ow)
 | .b8 vs=> .b8 (vs.map fun x=>(x.1,x.2.map L.ow))
def fv :L->L
 | .own _ es=> .pv (.lst es)
 | .down _ es=> .pv (.lst es)
 |l=>l
def fe :V->V
 | .one l=> .one (fv l)
 | .agg ls=> .agg (ls.map fv)
 | .b8 vs=> .b8 (vs.map fun x=>(x.1,x.2.map fv))
def uj (h:List Q0):V->Option (List PV×List Q0)
 | .one (.ptr o i j)=>if i=0/\ j=0 then(match h[o]? with
  |some (.box cs)=>match viewL h cs with
   |some ps=>if cs.all (fun l=> !(L.mut h l))then some (ps,h.set o (.bM ps))else none
   |none=>none
  |some (.bM ps)=>some (ps,h)
  |_=>none)else none
 | .one (.ip e j)=>if j=0 then some (e,h)else none
 |_=>none
def nW (h:List Q0):List V->Option (List (List PV)×List Q0)
 |[]=>some ([],h)
 |v::vs=>match uj h v with
  |some (e,h1)=>match nW h1 vs with
   |some (es,h2)=>some (e::es,h2)
   |none=>none
  |none=>none
def xg (e:List PV):V:= .one (.ip e 0)
def UD :EK->L->L->Option Bool
 | .i, .pv (.int k a), .pv (.int k' b)=>if k=k' then some (a==b)else none
 | .b, .pv (.bool a), .pv (.bool b)=>some (a==b)
 | .s, .pv (.str a), .pv (.str b)=>some (a==b)
 |_,_,_=>none
def ul :List EK->List L->List L->Option Bool
 |[],_,_=>some true
 |k::ks,a::xz,b::bs=>match UD k a b,ul ks xz bs with
  |some x,some y=>some (x&&y)
  |_,_=>none
 |_,_,_=>none
def eH (Z:St)(d:Int):Option Opd->Option Int
 |none=>some d
 |some o=>match isInt (o.ev Z)with
  |some (_,n)=>some n
  |none=>none
def ej :List L->Option (List PV)
 |[]=>some []
 | .pv p::ls=>match ej ls with
  |some ps=>some (p::ps)
  |none=>none
 |_=>none
def fE :List V->Option (List (List PV))
 |[]=>some []
 |v::vs=>match ej v.cells,fE vs with
  |some e,some es=>some (e::es)
  |_,_=>none
def L.bL :L->L
 | .sub _ _=> .bw
 |l=>l
def Q0.ba :Q0->Q0
 | .bC z es=> .bA z es
 | .box cs=> .box (cs.map L.bL)
 |ob=>ob
def lent (h:List Q0):List Q0:=h.map Q0.ba
def Q0.zone :Q0->Q0
 | .arr z es=> .bC z es
 | .bA z es=> .bC z es
 |ob=>ob
def wv (h:List Q0)(r:V):V×List Q0:=((thaw h r).1,h++(thaw [] r).2.map Q0.zone)
def PV.flat :PV->Bool
 | .lst _=>false
 |_=>true
def wid :List (List PV)->Nat
 |[]=>1
 |e::_=>e.length
def BL (z:Nat)(es:List (List PV))(c:Nat):Option PV:=
 match es[c/z]? with
 |some e=>e[c%z]?
 |none=>none
def iU (z:Nat)(es:List (List PV))(c:Nat)(p:PV):List (List PV):=es.set (c/z) (((es[c/z]?).getD []).set (c%z) p)
def vB (h:List Q0)(isAgg:Bool)(n:Nat)(a:V):Option V:=
 match a with
 | .one (.ptr o i j)=>match h[o]? with
  |some (.bC z es)=>match es[i]? with
   |some e=>match e[j]? with
    |some (.lst _)=>if isAgg=false/\ n=1 then some (.one (.sub o (i*z+j)))else none
    |_=>none
   |none=>none
  |_=>dP h isAgg n a
 |_=>dP h isAgg n a
def yy (h:List Q0)(n:Nat)(a v:V):Option (List Q0):=
 match a with
 | .one (.ptr o i j)=>match h[o]? with
  |some (.bC z es)=>match es[i]?,v with
   |some e, .one (.pv p)=>match e[j]? with
    |some q=>if n=1/\ p.flat=true/\ q.flat=true then some (h.set o (.bC z (es.set i (e.set j p))))else none
    |none=>none
   |_,_=>none
  |_=>dK h n a v
 |_=>dK h n a v
def iT :Nat:=1048576
def PV.bare :PV->Bool
 | .lst []=>true
 | .lst _=>false
 |_=>true
def Bw (h:List Q0):L->Option L
 | .pv p=>if p.bare then some (.pv p)else none
 | .nil=>some (.pv (.lst []))
 | .arr o=>match h[o]? with
  |some (.bC z es)=>some (.down z es)
  |_=>none
 |_=>none
def pd (h:List Q0):List L->Option (List L)
 |[]=>some []
 |l::ls=>match Bw h l,pd h ls with
  |some x,some xs=>some (x::xs)
  |_,_=>none
def yI (h:List Q0):V->Option V
 | .one l=>match Bw h l with
  |some x=>some (.one x)
  |none=>none
 | .agg ls=>match pd h ls with
  |some xs=>some (.agg xs)
  |none=>none
 | .b8 _=>none
def nK (h:List Q0):List Nat->List (Bool×List L)->Option (List Q0)
 |[],[]=>some h
 |o::os,(false,[.down z es])::outs=>nK (h.set o (.bC z es)) os outs
 |_,_=>none
def iR (call:Nat->List V->Option V)(c:Nat)(caps:List V):List (List PV)->Option (List (List PV))
 |[]=>some []
 |e::es=>match call c (.agg (e.map .pv)::caps)with
  |some (.one (.pv (.bool b)))=>match iR call c caps es with
   |some r=>some (if b then r else e::r)
   |none=>none
  |_=>none
def dY (call:Nat->List V->Option V)(Z:St):AOp->Option V
 | .mv x=>some (x.ev Z)
 | .pick c a b=>match isBool (c.ev Z)with
  |some t=>some (if t then a.ev Z else b.ev Z)
  |none=>none
 | .load g n a=>dP Z.h g n (a.ev Z)
 | .build zero parts=>match fy zero (parts.map fun x=>(x.1,x.2.1,x.2.2.ev Z))with
  |some cs=>some (.agg cs)
  |none=>none
 | .bin op x y=>bin op (x.ev Z) (y.ev Z)
 | .cX neg x y=>match isBool (x.ev Z),isBool (y.ev Z)with
  |some a,some b=>some (cL (if neg then !(a==b)else a==b))
  |_,_=>none
 | .un op x=>un op (x.ev Z)
 | .conv k x=>match isInt (x.ev Z)with
  |some (_,n)=>some (ce k (k.wrap n))
  |none=>none
 | .cS x=>match asList Z.h (x.ev Z)with
  |some es=>match wa es with
   |some s=>some (fZ s)
   |none=>none
  |none=>none
 | .bo x off=>match x.ev Z with
  | .one (.ptr o i j)=>some (.one (.ptr o i (j+off)))
  | .one (.ip e j)=>some (.one (.ip e (j+off)))
  |_=>none
 | .bH z x i=>match isInt (i.ev Z)with
  |some (_,n)=>if 0<=n then cN Z.h z (x.ev Z) n.toNat else none
  |none=>none
 | .cD x i=>match isStr (x.ev Z),isInt (i.ev Z)with
  |some s,some (_,n)=>if 0<=n then(match s[n.toNat]? with
   |some b=>some (ce .u8 b.toNat)
   |none=>none)else none
  |_,_=>none
 | .extract x i=>match x.ev Z with
  | .b8 vs=>match vs[i]? with
   |some (true,ls)=>some (.agg ls)
   |some (false,[l])=>some (.one l)
   |_=>none
  |_=>none
 | .len x=>match asList Z.h (x.ev Z)with
  |some es=>some (ce .i64 es.length)
  |none=>none
 | .cN x=>match isStr (x.ev Z)with
  |some s=>some (ce .i64 s.length)
  |none=>none
 | .call f args fl fz=>
  if fl||fz then
   let vs:=args.map (Opd.ev Z)
   if fl|| !(vs.any (V.mut Z.h))then
    match cy Z.h vs with
    |some xz=>match call f xz with
     |some r=>if fl&& !r.flat then none else some (fe r)
     |none=>none
    |none=>none
   else none
  else none
 | .mm isMax x y=>match isInt (x.ev Z),isInt (y.ev Z)with
  |some (k,a),some (k',b)=>if k=k' then some (ce k (if isMax then(if a<b then b else a)else(if b<a then b else a)))else none
  |_,_=>none
 | .bp x args=>match x.ev Z with
  | .one (.fn k caps)=>match cy Z.h (args.map (Opd.ev Z))with
   |some xz=>match call k (xz++caps.map xg)with
    |some r=>if r.flat then some (fe r)else none
    |none=>none
   |none=>none
  |_=>none
 | .cM x=>match isStr (x.ev Z)with
  |some s=>some (eW (cC s))
  |none=>none
 | .cY neg ks x y=>match x.ev Z,y.ev Z with
  | .agg ls, .agg ls'=>match ul ks ls ls' with
   |some b=>some (cL (if neg then !b else b))
   |none=>none
  |_,_=>none
 | .c7 g n a=>if ep Z.h (a.ev Z)then dP Z.h g n (a.ev Z)else none
 | .bj g n a r=>if oU (a.ev Z) ((Opd.tmp (r%65536)).ev Z)&&(r/65536==0||oU (a.ev Z) ((Opd.tmp (r/65536)).ev Z))then dP Z.h g n (a.ev Z)else none
 | .bs g n a=>if ep Z.h (a.ev Z)then none else dP Z.h g n (a.ev Z)
 | .c8 z x lo hi=>match x.ev Z with
  | .one (.pv (.lst es))=>match eH Z 0 lo,eH Z (es.length:Int) hi with
   |some l,some r=>if 0<=l/\ l<=r/\ r<=es.length/\ es.all (fun e=>e.length==z)=true then some (eW ((es.drop l.toNat).take (r.toNat-l.toNat)))else none
   |_,_=>none
  |_=>none
 | .bc z parts=>match fE (parts.map (Opd.ev Z))with
  |some es=>if es.all (fun e=>e.length==z)=true/\ 0<z/\ es.length*z<=16777216 then some (match es with|[]=> .one .nil|_::_=>eW es)else none
  |none=>none
 | .c3 x=>match asList (lent Z.h) (x.ev Z)with
  |some es=>some (ce .i64 es.length)
  |none=>none
 | .bN z x i=>match isInt (i.ev Z)with
  |some (_,n)=>if 0<=n then cN (lent Z.h) z (x.ev Z) n.toNat else none
  |none=>none
 | .bq g n a=>vB Z.h g n (a.ev Z)
 | .bf f args=>match cy (lent Z.h) (args.map (Opd.ev Z))with
  |some xz=>match call f xz with
   |some r=>if r.flat then some (fe r)else none
   |none=>none
  |none=>none
 |_=>none
def cQ (h:List Q0):List V->Option (List (List PV))
 |[]=>some []
 |v::vs=>match viewL h v.cells,cQ h vs with
  |some p,some ps=>some (p::ps)
  |_,_=>none
def qY (es:List (List PV)):Bool:=es.all fun e=>e.all PV.flat
def jk (es:List (List PV)):Bool:=es.all fun e=>e.all PV.bare
def L.closed :L->Bool
 | .pv p=>p.bare
 | .nil=>true
 | .own _ es=>jk es
 | .down _ _=>true
 |_=>false
def V.closed :V->Bool
 | .one l=>l.closed
 | .agg ls=>ls.all L.closed
 | .b8 xs=>xs.all fun x=>x.2.all L.closed
def L.bG (h:List Q0):L->Bool
 | .pv p=>p.bare
 | .nil=>true
 | .arr o=>match h[o]? with
  |some (.arr _ es)=>jk es
  |some (.bA _ _)=>true
  |_=>false
 |_=>false
def cz (ls:List L):List Nat:=ls.filterMap fun| .arr o=>some o|_=>none
def dg (h:List Q0)(o:Nat):Option (Nat×List (List PV)):=
 match h[o]? with
 |some (.arr z es)=>if jk es then some (z,es)else none
 |some (.bA z es)=>some (z,es)
 |_=>none
def FW (h:List Q0)(o:Nat):Option (Nat×List (List PV)):=
 match h[o]? with
 |some (.arr z es)=>some (z,es)
 |some (.bA z es)=>some (z,es)
 |_=>none
def gZ (h:List Q0)(z:Nat):V->Option (Option (Nat×List (List PV)))
 | .one .nil=>some none
 | .one (.arr o)=>match dg h o with
  |some (z',es)=>if z'=z then some (some (o,es))else none
  |none=>none
 |_=>none
def cq :Option (Nat×List (List PV))->List (List PV)
 |some x=>x.2
 |none=>[]
def eK (src:Option (Nat×List (List PV)))(o:Nat):Bool:=
 match src with
 |some x=> !(x.1==o)
 |none=>true
def cJ (src:Option (Nat×List (List PV)))(h:List Q0):List Q0:=
 match src with
 |some x=>h.set x.1 .dead
 |none=>h
def nP (h:List Q0)(z:Nat)(src:Option (Nat×List (List PV))):V->Option (List (List PV))
 | .one (.arr o)=>match dg h o with
  |some (z',ys)=>if z'=z/\ eK src o=true then some ys else none
  |none=>none
 | .one (.pv (.lst ys))=>if qY ys then some ys else none
 | .one .nil=>some []
 |_=>none
def storeD (h:List Q0)(n:Nat)(a v:V):Option (List Q0):=
 match a with
 | .one (.ptr o i j)=>match dg h o with
  |some (z,es)=>match es[i]?,viewL h v.cells with
   |some e,some ps=>if v.cells.length=n/\ j+n<=e.length/\ v.cells.all (L.bB o)=true/\ v.cells.all (L.bG h)=true/\ (cz v.cells).Nodup then some ((freezeLs h v.cells).set o (.bA z (es.set i (putAt e j ps))))else none
   |_,_=>none
  |none=>dK h n a v
 |_=>none
def nV (call:Nat->List V->Option V)(h:List Q0)(f:Nat)(x:V)(n:Int):Option (V×List Q0):=
 match x with
 | .one (.sub o c)=>match h[o]? with
  |some (.bC z es)=>match BL z es c with
   |some (.lst [])=>match call (f+iT) [eW [],ce .i64 n]with
    |some (.b8 [(false,[l])])=>if l.flat then some (.one l,h)else none
    |_=>none
   |some (.lst l)=>match call (f+iT) [.one (.down (wid l) l),ce .i64 n]with
    |some (.b8 [(false,[l']),(false,[.down z' es'])])=>if l'.flat=true/\ z'=wid l then some (.one l',h.set o (.bC z (iU z es c (.lst es'))))else none
    |_=>none
   |_=>none
  |_=>none
 |v=>if(cz v.cells).Nodup then(match yI h v with
  |some a=>match call (f+iT) [a,ce .i64 n]with
   |some (.b8 ((false,[l])::outs))=>if l.flat then(match nK h (cz v.cells) outs with
    |some h'=>some (.one l,h')
    |none=>none)else none
   |_=>none
  |none=>none)else none
def Tg :L->Option PV
 | .pv p=>some (.lst [[.int .i64 0,p]])
 | .arr o=>some (.lst [[.int .i64 1, .int .i64 o]])
 | .nil=>some (.lst [])
 |_=>none
def ad8 :PV->Option L
 | .lst []=>some .nil
 | .lst [[.int .i64 0,p]]=>some (.pv p)
 | .lst [[.int .i64 1, .int .i64 n]]=>some (.arr n.toNat)
 |_=>none
def zo :List L->Option (List PV)
 |[]=>some []
 |l::ls=>match Tg l,zo ls with
  |some p,some ps=>some (p::ps)
  |_,_=>none
def Gn :List PV->Option (List L)
 |[]=>some []
 |p::ps=>match ad8 p,Gn ps with
  |some l,some ls=>some (l::ls)
  |_,_=>none
def pkO :Q0->Option (List PV)
 | .box cs=>match zo cs with
  |some ps=>some [.int .i64 0, .lst [ps]]
  |none=>none
 | .arr z es=>some [.int .i64 1, .int .i64 z, .lst es]
 | .bI z es=>some [.int .i64 2, .int .i64 z, .lst es]
 | .bA z es=>some [.int .i64 3, .int .i64 z, .lst es]
 | .dead=>some [.int .i64 4]
 | .res=>some [.int .i64 5]
 |_=>none
def upO :List PV->Option Q0
 |[.int .i64 0, .lst [ps]]=>match Gn ps with
  |some cs=>some (.box cs)
  |none=>none
 |[.int .i64 1, .int .i64 z, .lst es]=>some (.arr z.toNat es)
 |[.int .i64 2, .int .i64 z, .lst es]=>some (.bI z.toNat es)
 |[.int .i64 3, .int .i64 z, .lst es]=>some (.bA z.toNat es)
 |[.int .i64 4]=>some .dead
 |[.int .i64 5]=>some .res
 |_=>none
def CX :List Q0->Option (List (List PV))
 |[]=>some []
 |x::h=>match pkO x,CX h with
  |some e,some es=>some (e::es)
  |_,_=>none
def Np :List (List PV)->Option (List Q0)
 |[]=>some []
 |e::es=>match upO e,Np es with
  |some x,some h=>some (x::h)
  |_,_=>none
def aaW {l:L}{p:PV}(h:Tg l=some p):ad8 p=some l:=by cases l<;>simp only[Tg]at h<;>cases h<;>simp[ad8]
def Ay :∀{ls:List L}{ps:List PV},zo ls=some ps->Gn ps=some ls
 |[],_,h=>by cases h;rfl
 |l::ls,ps,h=>by unfold zo at h;split at h;rename_i h1 h2;cases h;simp only[Gn,aaW h1,Ay h2];cases h
def aeH {x:Q0}{e:List PV}(h:pkO x=some e):upO e=some x:=by
 cases x<;>simp only[pkO]at h;case box cs=>
  split at h
  ·rename_i ps h1;cases h;simp only[upO,Ay h1]
  ·cases h
 all_goals cases h
 all_goals simp[upO]
def zj :∀{h:List Q0}{e:List (List PV)},CX h=some e->Np e=some h
 |[],_,h=>by cases h;rfl
 |x::hs,e,h=>by unfold CX at h;split at h;rename_i h1 h2;cases h;simp only[Np,aeH h1,zj h2];cases h
def FV :Nat->List Q0
 |0=>[]
 |n+1=> .res::FV n
def fa (call:Nat->List V->Option V)(Z:St):AOp->Option (V×List Q0)
 | .alloc zero=>some (.one (.ptr Z.h.length 0 0),Z.h++[.box zero])
 | .bd zero=>some (.one (.ptr Z.h.length 0 0),Z.h++[.box zero, .res])
 | .bK i zero=>match Z.h[i]? with
  |some .res=>some (.one (.ptr i 0 0),Z.h.set i (.box zero))
  |_=>none
 | .box x=>if(x.ev Z).cells.all plain then some (.one (.ptr Z.h.length 0 0),Z.h++[.box (x.ev Z).cells])else none
 | .c5 n x=>if(x.ev Z).cells.all plain then some (.one (.ptr Z.h.length 0 0),Z.h++ .box (x.ev Z).cells::FV n)else none
 | .bO z parts=>
  let vs:=parts.map (Opd.ev Z)
  if vs.all (fun v=>v.cells.length==z)&&decide (0<z)&&decide (vs.length*z<=16777216)then
   match cQ Z.h vs with
   |some es=>some (.one (.arr (freezeVs Z.h vs).length),freezeVs Z.h vs++[.arr z es])
   |none=>none
  else none
 | .store n a v=>match dK Z.h n (a.ev Z) (v.ev Z)with
  |some h=>some (.b8 [],h)
  |none=>none
 | .bR n a v=>if ep Z.h (a.ev Z)then(match dK Z.h n (a.ev Z) (v.ev Z)with
  |some h=>some (.b8 [],h)
  |none=>none)else none
 | .storeAt i n a v=>match a.ev Z,Z.h[i]? with
  | .one (.ptr o 0 j),some (.box cs)=>if o=i/\ (v.ev Z).cells.length=n/\ j+n<=cs.length/\ (v.ev Z).cells.all plain=true then some (.b8 [],Z.h.set i (.box (putAt cs j (v.ev Z).cells)))else none
  |_,_=>none
 | .bX n=>some (.one (.tp n),Z.h++[.bU n])
 | .storeT n a v=>match a.ev Z with
  | .one (.tp m)=>if m=n/\ (v.ev Z).cells.length=n/\ (v.ev Z).cells.all plain=true then some (.b8 [],Z.h)else none
  |_=>none
 | .make bytes zero n=>match isInt (n.ev Z)with
  |some (_,m)=>if 0<=m/\ m*bytes<=140737488355328/\ m<=9223372036854775807/\ 0<zero.length then some (.one (.arr Z.h.length),Z.h++[.arr zero.length (List.replicate m.toNat zero)])else none
  |none=>none
 | .append z bytes x y=>match x.ev Z,asList Z.h (y.ev Z)with
  | .one .nil,some ys=>if ys.all (fun e=>e.length==z)&&decide (0<z)&&decide (ys.length*bytes<=140737488355328)&&decide (ys.length<=9223372036854775807)
   then some (.one (.arr Z.h.length),Z.h++[.arr z ys])else none
  | .one (.arr o),some ys=>match Z.h[o]? with
   |some (.arr z' es)=>if z'=z/\ ys.all (fun e=>e.length==z)=true/\ (es.length+ys.length)*bytes<=140737488355328/\ es.length+ys.length<=9223372036854775807/\ (y.ev Z).cells.all (L.bB o)=true
    then some (.one (.arr Z.h.length),Z.h.set o .dead++[.arr z (es++ys)])else none
   |_=>none
  |_,_=>none
 | .bT bytes x y=>match x.ev Z,isStr (y.ev Z)with
  | .one .nil,some s=>if s.length*bytes<=140737488355328/\ s.length<=9223372036854775807 then some (.one (.arr Z.h.length),Z.h++[.arr 1 (cC s)])else none
  | .one (.arr o),some s=>match Z.h[o]? with
   |some (.arr z' es)=>if z'=1/\ (es.length+s.length)*bytes<=140737488355328/\ es.length+s.length<=9223372036854775807
    then some (.one (.arr Z.h.length),Z.h.set o .dead++[.arr 1 (es++cC s)])else none
   |_=>none
  |_,_=>none
 | .c2 z x lo hi=>match asList Z.h (x.ev Z)with
  |some es=>match eH Z 0 lo,eH Z (es.length:Int) hi with
   |some l,some r=>if 0<=l/\ l<=r/\ r<=es.length/\ es.all (fun e=>e.length==z)=true then some (eW ((es.drop l.toNat).take (r.toNat-l.toNat)),freezeLs Z.h (x.ev Z).cells)else none
   |_,_=>none
  |none=>none
 | .bS f args=>
  let vs:=args.map (Opd.ev Z)
  match cy Z.h vs with
  |some xz=>match call f xz with
   |some r=>some (fe r,freezeVs Z.h vs)
   |none=>none
  |none=>none
 | .insert _ z bytes x i v=>match x.ev Z,isInt (i.ev Z),v.ev Z with
  | .one .nil,some (.i64,n), .one (.arr o2)=>match Z.h[o2]? with
   |some (.arr z2 vs)=>if z2=z/\ 0<vs.length/\ n=0/\ vs.length*bytes<=140737488355328/\ vs.length<=9223372036854775807
    then some (.one (.arr Z.h.length),Z.h++[.arr z vs])else none
   |some (.bA z2 vs)=>if z2=z/\ 0<vs.length/\ n=0/\ vs.length*bytes<=140737488355328/\ vs.length<=9223372036854775807
    then some (.one (.arr Z.h.length),Z.h.set o2 .dead++[.bA z vs])else none
   |_=>none
  | .one (.arr o),some (.i64,n), .one (.arr o2)=>match Z.h[o2]? with
   |some (.arr z2 vs)=>match Z.h[o]? with
    |some (.arr z1 es)=>if z1=z/\ z2=z/\ o≠o2/\ 0<vs.length/\ 0<=n/\ n<=es.length/\ (es.length+vs.length)*bytes<=140737488355328/\ es.length+vs.length<=9223372036854775807
     then some (.one (.arr Z.h.length),Z.h.set o .dead++[.arr z (es.take n.toNat++vs++es.drop n.toNat)])else none
    |_=>none
   |some (.bA z2 vs)=>match dg Z.h o with
    |some (z1,es)=>if z1=z/\ z2=z/\ o≠o2/\ 0<vs.length/\ 0<=n/\ n<=es.length/\ (es.length+vs.length)*bytes<=140737488355328/\ es.length+vs.length<=9223372036854775807
     then some (.one (.arr Z.h.length),(Z.h.set o .dead).set o2 .dead++[.bA z (es.take n.toNat++vs++es.drop n.toNat)])else none
    |none=>none
   |_=>none
  |_,_,_=>none
 | .c9 k z x f=>match x.ev Z,f.ev Z with
  | .one .nil, .one (.fn c cs)=>some (.one .nil,Z.h)
  | .one (.arr o), .one (.fn c cs)=>match FW Z.h o with
   |some (z',es)=>if z'=z then(match iR call c (cs.map xg) es with
    |some es'=>some (.one (.arr Z.h.length),Z.h.set o .dead++[.arr z es'])
    |none=>none)else none
   |none=>none
  |_,_=>none
 | .cE k caps=>match nW Z.h (caps.map (Opd.ev Z))with
  |some (cs,h)=>some (.one (.fn k cs),h)
  |none=>none
 | .bP f args=>
  let vs:=args.map (Opd.ev Z)
  match cy Z.h vs with
  |some xz=>match call f xz with
   |some r=>some (thaw (if r.closed then Z.h else freezeVs Z.h vs) r)
   |none=>none
  |none=>none
 | .storeD n a v=>match storeD Z.h n (a.ev Z) (v.ev Z)with
  |some h=>some (.b8 [],h)
  |none=>none
 | .bZ z parts=>
  let vs:=parts.map (Opd.ev Z)
  let ls:=vs.flatMap V.cells
  if vs.all (fun v=>v.cells.length==z)&&decide (0<z)&&decide (vs.length*z<=16777216)&&ls.all (L.bG Z.h)&&decide ((cz ls).Nodup)then
   match cQ Z.h vs with
   |some es=>some (.one (.arr (freezeVs Z.h vs).length),freezeVs Z.h vs++[.bA z es])
   |none=>none
  else none
 | .bJ z bytes x y=>
  match gZ Z.h z (x.ev Z)with
  |none=>none
  |some src=>match nP Z.h z src (y.ev Z)with
   |none=>none
   |some ys=>if ys.all (fun e=>e.length==z)=true/\ 0<z/\ ((cq src).length+ys.length)*bytes<=140737488355328/\ (cq src).length+ys.length<=9223372036854775807
    then some (.one (.arr Z.h.length),cJ src (freezeLs Z.h (y.ev Z).cells)++[.bA z (cq src++ys)])else none
 | .bY n a v=>match yy Z.h n (a.ev Z) (v.ev Z)with
  |some h=>some (.b8 [],h)
  |none=>none
 | .bg f args=>match cy (lent Z.h) (args.map (Opd.ev Z))with
  |some xz=>match call f xz with
   |some r=>if r.closed then some (wv Z.h r)else none
   |none=>none
  |none=>none
 | .bt f args=>match CX Z.h with
  |some e=>match call (f+2*iT) (eW e::args.map (Opd.ev Z))with
   |some (.b8 [(false,[.pv (.lst e')]),(false,[.pv (.lst [ps])])])=>match Np e',Gn ps with
    |some h',some ls=>some (.agg ls,h')
    |_,_=>none
   |_=>none
  |none=>none
 | .bh f x k=>match k.ev Z with
  | .one (.pv (.int .i64 n))=>nV call Z.h f (x.ev Z) n
  |_=>none
 | .call f args false false=>
  let vs:=args.map (Opd.ev Z)
  match cy Z.h vs with
  |some xz=>match call f xz with
   |some r=>some (thaw (freezeVs Z.h vs) r.ow)
   |none=>none
  |none=>none
 |_=>none
def put (t:List V)(d:Option Nat)(v:V):List V:=
 match d with
 |some d=>t.set d v
 |none=>t
def dG (Z:St):Option (Nat×Bool)->Option Bool
 |none=>some true
 |some (g,w)=>match Z.t.getD g (.b8 [])with
  | .one (.pv (.bool b))=>some (b==w)
  | .b8 []=>some false
  |_=>none
def cT (call:Nat->List V->Option V)(o:X2)(Z:St):Option St:=
 match dG Z o.guard with
 |some true=>match dY call Z o.op with
  |some v=>some ⟨put Z.t o.dst v,Z.h⟩
  |none=>match fa call Z o.op with
   |some (v,h)=>some ⟨put Z.t o.dst v,h⟩
   |none=>none
 |some false=>some ⟨put Z.t o.dst (.b8 []),Z.h⟩
 |none=>none
def cj (call:Nat->List V->Option V):List X2->St->Option St
 |[],Z=>some Z
 |o::r,Z=>match cT call o Z with
  |some Z'=>cj call r Z'
  |none=>none
def hZ :Nat->(St->Option (Ex×St))->St->Option (Ex×St)
 |0,_,_=>none
 |n+1,f,Z=>match f Z with
  |some (.normal,Z')=>hZ n f Z'
  |r=>r
def cD (call:Nat->List V->Option V)(lp:(St->Option (Ex×St))->St->Option (Ex×St)):Q7->St->Option (Ex×St)
 | .skip,Z=>some (.normal,Z)
 | .region ops,Z=>match cj call ops Z with
  |some Z'=>some (.normal,Z')
  |none=>none
 | .seq a b,Z=>match cD call lp a Z with
  |some (.normal,Z')=>cD call lp b Z'
  |r=>r
 | .cond c a b,Z=>match isBool (c.ev Z)with
  |some t=>if t then cD call lp a Z else cD call lp b Z
  |none=>none
 | .block id c,Z=>match cD call lp c Z with
  |some (.exit i,Z')=>if i=id then some (.normal,Z')else some (.exit i,Z')
  |r=>r
 | .loop c,Z=>lp (cD call lp c) Z
 | .exit id,Z=>some (.exit id,Z)
 | .ret,Z=>some (.ret,Z)
def dS (h:List Q0):L->Option L
 | .pv p=>some (.pv p)
 | .nil=>some .nil
 | .arr o=>match h[o]? with
  |some (.arr z es)=>some (.own z es)
  |some (.bI _ es)=>some (.pv (.lst es))
  |some (.bA z es)=>some (.down z es)
  |_=>none
 |_=>none
def cU (h:List Q0):List L->Option (List L)
 |[]=>some []
 |l::ls=>match dS h l,cU h ls with
  |some x,some xs=>some (x::xs)
  |_,_=>none
def fb (Z:St):Z9->Option V
 | .tmp t=>some (Z.t.getD t (.b8 []))
 | .cell t n=>dP Z.h true n (Z.t.getD t (.b8 []))
def cu (Z:St):List Z9->Option (List V)
 |[]=>some []
 |r::rs=>match fb Z r,cu Z rs with
  |some x,some xs=>some (x::xs)
  |_,_=>none
def comp (h:List Q0):V->Option (Bool×List L)
 | .one l=>match cU h [l]with
  |some xs=>some (false,xs)
  |none=>none
 | .agg ls=>match cU h ls with
  |some xs=>some (true,xs)
  |none=>none
 | .b8 _=>none
def eh (h:List Q0):List V->Option (List (Bool×List L))
 |[]=>some []
 |v::vs=>match comp h v,eh h vs with
  |some x,some xs=>some (x::xs)
  |_,_=>none
def dd (Z:St)(rs:List Z9):Option V:=
 match cu Z rs with
 |none=>none
 |some vs=>
  if(cz (vs.flatMap V.cells)).Nodup then
   match eh Z.h vs with
   |some [(true,ls)]=>some (.agg ls)
   |some [(false,[l])]=>some (.one l)
   |some xs=>if xs.length=1 then none else some (.b8 xs)
   |none=>none
  else none
def start (fn:AFn)(args:List V):St:=⟨args++List.replicate (fn.ntmps-args.length) (.b8 []),[]⟩
def done (fn:AFn):Option (Ex×St)->Option V
 |some (.normal,Z)=>dd Z fn.results
 |some (.ret,Z)=>dd Z fn.results
 |_=>none
def gP :List Q0->List V->List V×List Q0
 |h,[]=>([],h)
 |h,v::vs=>let q:=thaw h v;let r:=gP q.2 vs;(q.1::r.1,r.2)
def ml (fn:AFn)(args:List V):St:=⟨(gP [] args).1++List.replicate (fn.ntmps-args.length) (.b8 []),(gP [] args).2.map Q0.zone⟩
def kJ :List Q0->Option (List (Bool×List L))
 |[]=>some []
 | .bC z es::h=>match kJ h with
  |some xs=>some ((false,[.down z es])::xs)
  |none=>none
 |_=>none
def AOp.bb :AOp->Bool
 | .bg _ _=>false
 |_=>true
def Q7.bb :Q7->Bool
 | .region ops=>ops.all fun o=>o.op.bb
 | .seq a b=>a.bb&&b.bb
 | .cond _ a b=>a.bb&&b.bb
 | .block _ c=>c.bb
 | .loop c=>c.bb
 |_=>true
def LL (m:Nat)(fn:AFn)(Z:St):Option V:=
 match dd Z fn.results,kJ (Z.h.take m)with
 |some (.one l),some os=>if l.flat then some (.b8 ((false,[l])::os))else none
 |_,_=>none
def Bp (m:Nat)(fn:AFn):Option (Ex×St)->Option V
 |some (.normal,Z)=>LL m fn Z
 |some (.ret,Z)=>LL m fn Z
 |_=>none
def oq (fn:AFn)(args:List V)(h:List Q0):St:=⟨args++List.replicate (fn.ntmps-args.length) (.b8 []),h⟩
def Ts (fn:AFn)(Z:St):Option V:=
 match cu Z fn.results,CX Z.h with
 |some [.agg ls],some e=>match zo ls with
  |some ps=>some (.b8 [(false,[.pv (.lst e)]),(false,[.pv (.lst [ps])])])
  |none=>none
 |_,_=>none
def ID (fn:AFn):Option (Ex×St)->Option V
 |some (.normal,Z)=>Ts fn Z
 |some (.ret,Z)=>Ts fn Z
 |_=>none
def UM :List V->Option (List Q0×List V)
 | .one (.pv (.lst e))::xz=>match Np e with
  |some h=>some (h,xz)
  |none=>none
 |_=>none
def run (Φ:Nat->Option AFn)(ext:Nat->List V->Option V):Nat->Nat->List V->Option V
 |0,_,_=>none
 |n+1,k,args=>match Φ k with
  |none=>if iT<=k then(match Φ (k-iT)with
   |some fn=>if fn.body.bb then Bp (gP [] args).2.length fn (cD (run Φ ext n) (hZ n) fn.body (ml fn args))else none
   |none=>if 2*iT<=k then(match Φ (k-2*iT),UM args with
    |some fn,some (h,xz)=>if fn.body.bb then ID fn (cD (run Φ ext n) (hZ n) fn.body (oq fn xz h))else none
    |_,_=>none)else none)else ext k args
  |some fn=>done fn (cD (run Φ ext n) (hZ n) fn.body (start fn args))
end Gi
