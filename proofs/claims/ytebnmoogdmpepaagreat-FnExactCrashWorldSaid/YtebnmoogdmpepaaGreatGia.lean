/- Of this proof. -/
import Derived.WalkKit
set_option linter.unusedSimpArgs false
set_option linter.unusedVariables false
namespace Gi
open Go
theorem Za : type_of% @List.getElem?_set_ne := @List.getElem?_set_ne
theorem Zb : type_of% @List.getElem?_eq_some_iff := @List.getElem?_eq_some_iff
theorem Zc : type_of% @Nat.le_trans := @Nat.le_trans
theorem Zd : type_of% @List.getElem?_set_self := @List.getElem?_set_self
theorem Ze : type_of% @List.getElem?_append_left := @List.getElem?_append_left
theorem Zf : type_of% @List.cons_append := @List.cons_append
theorem Zg : type_of% @List.getElem_mem := @List.getElem_mem
theorem Zh : type_of% @List.getElem?_append_right := @List.getElem?_append_right
theorem Zi : type_of% @List.nil_append := @List.nil_append
theorem Zj : type_of% @Option.map_eq_some_iff := @Option.map_eq_some_iff
theorem Zk : type_of% @List.mem_of_getElem? := @List.mem_of_getElem?
theorem Zl : type_of% @Nat.le_refl := @Nat.le_refl
theorem Zm : type_of% @Bool.and_eq_true := @Bool.and_eq_true
theorem Zn : type_of% @List.length_cons := @List.length_cons
theorem Zo : type_of% @List.append_assoc := @List.append_assoc
theorem Zp : type_of% @List.getElem?_map := @List.getElem?_map
theorem Zq : type_of% @List.all_cons := @List.all_cons
theorem Zr : type_of% @List.getElem?_eq_getElem := @List.getElem?_eq_getElem
theorem Zs : type_of% @List.length_map := @List.length_map
theorem Zt : type_of% @List.take_of_length_le := @List.take_of_length_le
theorem Zu : type_of% @List.length_append := @List.length_append
theorem Zv : type_of% @List.map_cons := @List.map_cons
theorem Zw : type_of% @List.all_eq_true := @List.all_eq_true
theorem Zx : type_of% @Nat.mul_le_mul_right := @Nat.mul_le_mul_right
theorem Zy : type_of% @List.length_take := @List.length_take
theorem Zz : type_of% @List.append_nil := @List.append_nil
theorem Z0 : type_of% @Bool.false_eq_true := @Bool.false_eq_true
theorem Z3 : type_of% @Nat.lt_of_lt_of_le := @Nat.lt_of_lt_of_le
theorem Z4 : type_of% @List.getElem?_take := @List.getElem?_take
theorem Z5 : type_of% @List.take_succ_eq_append_getElem := @List.take_succ_eq_append_getElem
theorem Z6 : type_of% @List.length_singleton := @List.length_singleton
theorem Z7 : type_of% @Nat.add_mul := @Nat.add_mul
theorem Z8 : type_of% @List.length_nil := @List.length_nil
theorem Z9 : type_of% @List.mem_of_mem_take := @List.mem_of_mem_take
theorem Ya : type_of% @List.take_zero := @List.take_zero
theorem Yb : type_of% @List.map_nil := @List.map_nil
theorem Yc : type_of% @Nat.zero_add := @Nat.zero_add
theorem Yd : type_of% @List.set_cons_zero := @List.set_cons_zero
theorem Ye : type_of% @List.length_eq_one_iff := @List.length_eq_one_iff
theorem Yf : type_of% @List.map_congr_left := @List.map_congr_left
theorem Yg : type_of% @List.findIdx?_eq_some_iff_getElem := @List.findIdx?_eq_some_iff_getElem
theorem Yh : type_of% @List.mem_cons := @List.mem_cons
theorem Yi : type_of% @Nat.eq_of_mul_eq_mul_right := @Nat.eq_of_mul_eq_mul_right
theorem Yj : type_of% @Array.toList_map := @Array.toList_map
theorem Yk : type_of% @Bool.not_eq_true' := @Bool.not_eq_true'
theorem Yl : type_of% @List.flatMap_cons := @List.flatMap_cons
theorem Ym : type_of% @List.length_set := @List.length_set
theorem Yn : type_of% @Array.getElem?_append_left := @Array.getElem?_append_left
theorem Yo : type_of% @List.mem_map := @List.mem_map
theorem Yp : type_of% @List.getElem_of_mem := @List.getElem_of_mem
theorem Yq : type_of% @List.take_length := @List.take_length
theorem Yr : type_of% @Bool.and_self := @Bool.and_self
theorem Ys : type_of% @List.set_cons_succ := @List.set_cons_succ
theorem Yt : type_of% @List.getElem?_eq_none := @List.getElem?_eq_none
theorem Yu : type_of% @Array.length_toList := @Array.length_toList
theorem Yv : type_of% @Nat.one_mul := @Nat.one_mul
theorem Yw : type_of% @List.mem_append := @List.mem_append
theorem Yx : type_of% @List.nodup_cons := @List.nodup_cons
theorem Yy : type_of% @Nat.mul_comm := @Nat.mul_comm
theorem Yz : type_of% @List.getElem?_cons_zero := @List.getElem?_cons_zero
theorem Y0 : type_of% @List.getElem?_drop := @List.getElem?_drop
theorem Y1 : type_of% @Nat.add_zero := @Nat.add_zero
theorem Y2 : type_of% @Option.getD_some := @Option.getD_some
theorem Y3 : type_of% @List.set_append_right := @List.set_append_right
theorem Y4 : type_of% @Nat.sub_self := @Nat.sub_self
theorem Y5 : type_of% @List.mem_cons_of_mem := @List.mem_cons_of_mem
theorem Y6 : type_of% @Array.getElem?_eq_some_iff := @Array.getElem?_eq_some_iff
theorem Y7 : type_of% @Array.getElem?_eq_none := @Array.getElem?_eq_none
theorem Y8 : type_of% @List.getD_cons_zero := @List.getD_cons_zero
theorem Y9 : type_of% @List.findIdx?_eq_none_iff := @List.findIdx?_eq_none_iff
theorem Xa : type_of% @List.flatMap_nil := @List.flatMap_nil
theorem Xb : type_of% @Array.getElem?_setIfInBounds_self_of_lt := @Array.getElem?_setIfInBounds_self_of_lt
theorem Xc : type_of% @Nat.le_of_lt := @Nat.le_of_lt
theorem Xd : type_of% @List.mem_iff_getElem := @List.mem_iff_getElem
theorem Xe : type_of% @Bool.or_eq_false_iff := @Bool.or_eq_false_iff
theorem Xf : type_of% @List.ext_getElem? := @List.ext_getElem?
theorem Xg : type_of% @List.getElem?_cons_succ := @List.getElem?_cons_succ
theorem Xh : type_of% @Nat.min_eq_left := @Nat.min_eq_left
theorem Xi : type_of% @Bool.and_true := @Bool.and_true
theorem Xj : type_of% @Nat.add_assoc := @Nat.add_assoc
theorem Xk : type_of% @List.exists_cons_of_ne_nil := @List.exists_cons_of_ne_nil
theorem Xl : type_of% @Array.getElem?_toList := @Array.getElem?_toList
theorem Xm : type_of% @Nat.div_lt_iff_lt_mul := @Nat.div_lt_iff_lt_mul
theorem Xn : type_of% @List.mem_or_eq_of_mem_set := @List.mem_or_eq_of_mem_set
theorem Xo : type_of% @Bool.not_true := @Bool.not_true
theorem Xp : type_of% @Array.getElem?_setIfInBounds_ne := @Array.getElem?_setIfInBounds_ne
theorem Xq : type_of% @Nat.le_add_right := @Nat.le_add_right
theorem Xr : type_of% @List.find?_eq_some_iff_getElem := @List.find?_eq_some_iff_getElem
inductive PV where
 |int (k:IntKind) (n:Int)
 |bool (b:Bool)
 |str (s:List UInt8)
 |lst (es:List (List PV))
inductive L where
 |pv (p:PV)
 |ptr (o i j:Nat)
 |ip (e:List PV) (j:Nat)
 |arr (o:Nat)
 |nil
 |own (z:Nat) (es:List (List PV))
 |down (z:Nat) (es:List (List PV))
 |fn (k:Nat) (caps:List (List PV))
 |tp (n:Nat)
 |sub (o c:Nat)
 |win (o l r:Nat)
 |junk
inductive V where
 |one (l:L)
 |agg (ls:List L)
 |tup (vs:List (Bool×List L))
inductive AObj where
 |box (cs:List L)
 |arr (z:Nat) (es:List (List PV))
 |froz (z:Nat) (es:List (List PV))
 |darr (z:Nat) (es:List (List PV))
 |zarr (z:Nat) (es:List (List PV))
 |fbox (ps:List PV)
 |tbox (n:Nat)
 |dead
 |res
structure St where
 t:List V
 h:List AObj
inductive Opd where
 |tmp (n:Nat)
 |pv (p:PV)
 |nil
 |fn (k:Nat)
inductive EK where
 |b
 |i
 |s
inductive AOp where
 |mv (x:Opd)
 |pick (c a b:Opd)
 |alloc (zero:List L)
 |box (x:Opd)
 |build (zero:List L) (parts:List (Nat×Nat×Opd))
 |buildS (z:Nat) (parts:List Opd)
 |load (isAgg:Bool) (n:Nat) (a:Opd)
 |store (n:Nat) (a v:Opd)
 |bin (op:BinOp) (x y:Opd)
 |eqB (neg:Bool) (x y:Opd)
 |un (op:UnOp) (x:Opd)
 |conv (k:IntKind) (x:Opd)
 |b2s (x:Opd)
 |make (bytes:Nat) (zero:List PV) (n:Opd)
 |slcS (x:Opd) (lo hi:Option Opd)
 |fieldA (x:Opd) (off:Nat)
 |field (x:Opd) (isAgg:Bool) (off n:Nat)
 |indexA (z:Nat) (x i:Opd)
 |indexS (x i:Opd)
 |extract (x:Opd) (i:Nat)
 |len (x:Opd)
 |lenS (x:Opd)
 |append (z bytes:Nat) (x y:Opd)
 |appendS (bytes:Nat) (x y:Opd)
 |call (f:Nat) (args:List Opd) (fl fz:Bool)
 |mm (isMax:Bool) (x y:Opd)
 |mkfn (k:Nat) (caps:List Opd)
 |callV (x:Opd) (args:List Opd)
 |eqS (neg:Bool) (ks:List EK) (x y:Opd)
 |slcL (z:Nat) (x:Opd) (lo hi:Option Opd)
 |s2b (x:Opd)
 |callD (f:Nat) (args:List Opd)
 |insert (k z bytes:Nat) (x i v:Opd)
 |delF (k z:Nat) (x f:Opd)
 |loadB (isAgg:Bool) (n:Nat) (a:Opd)
 |slcF (z:Nat) (x:Opd) (lo hi:Option Opd)
 |buildF (z:Nat) (parts:List Opd)
 |loadA (isAgg:Bool) (n:Nat) (a:Opd)
 |storeB (n:Nat) (a v:Opd)
 |loadN (isAgg:Bool) (n:Nat) (a:Opd) (r:Nat)
 |allocT (n:Nat)
 |storeT (n:Nat) (a v:Opd)
 |storeD (n:Nat) (a v:Opd)
 |buildD (z:Nat) (parts:List Opd)
 |appendD (z bytes:Nat) (x y:Opd)
 |callC (f:Nat) (args:List Opd)
 |lenZ (x:Opd)
 |indexZ (z:Nat) (x i:Opd)
 |loadZ (isAgg:Bool) (n:Nat) (a:Opd)
 |storeZ (n:Nat) (a v:Opd)
 |callF (f:Nat) (args:List Opd)
 |callZ (f:Nat) (args:List Opd)
 |callM (f:Nat) (x k:Opd)
 |allocW (zero:List L)
 |allocAt (i:Nat) (zero:List L)
 |boxW (n:Nat) (x:Opd)
 |slcW (z:Nat) (x:Opd) (lo hi:Option Opd)
 |delW (z bytes:Nat) (x y:Opd)
 |delR (k z:Nat) (x i j:Opd)
structure AOper where
 dst:Option Nat
 op:AOp
 guard:Option (Nat×Bool)
inductive ACode where
 |skip
 |region (ops:List AOper)
 |seq (a b:ACode)
 |cond (c:Opd) (thn els:ACode)
 |block (id:Nat) (body:ACode)
 |loop (body:ACode)
 |exit (id:Nat)
 |ret
inductive Ex where
 |normal
 |exit (id:Nat)
 |ret
inductive ARes where
 |tmp (t:Nat)
 |cell (t:Nat) (n:Nat)
structure AFn where
 ntmps:Nat
 results:List ARes
 body:ACode
def V.cells :V→List L
 | .one l=>[l]
 | .agg ls=>ls
 | .tup _=>[.junk]
def Opd.ev (σ:St):Opd→V
 | .tmp n=>σ.t.getD n (.tup [])
 | .pv p=> .one (.pv p)
 | .nil=> .one .nil
 | .fn k=> .one (.fn k [])
def L.view (h:List AObj):L→Option PV
 | .pv p=>some p
 | .nil=>some (.lst [])
 | .arr o=>match h[o]? with
  |some (.arr _ es)=>some (.lst es)
  |some (.froz _ es)=>some (.lst es)
  |some (.darr _ es)=>some (.lst es)
  |_=>none
 |_=>none
def viewL (h:List AObj):List L→Option (List PV)
 |[]=>some []
 |l::ls=>match l.view h,viewL h ls with
  |some p,some ps=>some (p::ps)
  |_,_=>none
def V.view (h:List AObj):V→Option V
 | .one (.fn k caps)=>some (.one (.fn k caps))
 | .one l=>match l.view h with
  |some p=>some (.one (.pv p))
  |none=>none
 | .agg ls=>match viewL h ls with
  |some ps=>some (.agg (ps.map .pv))
  |none=>none
 | .tup _=>none
def am (h:List AObj):List V→Option (List V)
 |[]=>some []
 |v::vs=>match v.view h,am h vs with
  |some p,some ps=>some (p::ps)
  |_,_=>none
def freezeL (h:List AObj):L→List AObj
 | .arr o=>match h[o]? with
  |some (.arr z es)=>h.set o (.froz z es)
  |some (.darr z es)=>h.set o (.froz z es)
  |_=>h
 |_=>h
def freezeLs (h:List AObj)(ls:List L):List AObj:=ls.foldl freezeL h
def freezeVs (h:List AObj)(vs:List V):List AObj:=vs.foldl (fun h v=>freezeLs h v.cells) h
def L.mut (h:List AObj):L→Bool
 | .arr o=>match h[o]? with
  |some (.arr _ _)=>true
  |some (.darr _ _)=>true
  |_=>false
 |_=>false
def V.mut (h:List AObj)(v:V):Bool:=v.cells.any (L.mut h)
def isInt :V→Option (IntKind×Int)
 | .one (.pv (.int k n))=>some (k,n)
 |_=>none
def isStr :V→Option (List UInt8)
 | .one (.pv (.str s))=>some s
 |_=>none
def isBool :V→Option Bool
 | .one (.pv (.bool b))=>some b
 |_=>none
abbrev aa (k:IntKind)(n:Int):V:= .one (.pv (.int k n))
abbrev av (b:Bool):V:= .one (.pv (.bool b))
abbrev f9 (s:List UInt8):V:= .one (.pv (.str s))
abbrev ba (es:List (List PV)):V:= .one (.pv (.lst es))
def bV (op:BinOp)(k:IntKind)(a b:Int):Option V:=
 match op with
 | .add=>some (aa k (k.wrap (a+b)))
 | .sub=>some (aa k (k.wrap (a-b)))
 | .mul=>some (aa k (k.wrap (a*b)))
 | .quo=>if b=0 then none else some (aa k (k.wrap (a.tdiv b)))
 | .rem=>if b=0 then none else some (aa k (a.tmod b))
 | .and=>some (aa k (k.wrap ((BitVec.ofInt k.bits a&&&BitVec.ofInt k.bits b).toNat)))
 | .or=>some (aa k (k.wrap ((BitVec.ofInt k.bits a|||BitVec.ofInt k.bits b).toNat)))
 | .eql=>some (av (a==b))
 | .neq=>some (av (a !=b))
 | .lss=>some (av (decide (a<b)))
 | .leq=>some (av (decide (a≤b)))
 | .gtr=>some (av (decide (b<a)))
 | .geq=>some (av (decide (b≤a)))
 |_=>none
def jN (op:BinOp)(k:IntKind)(a b:Int):Option V:=
 if b<0 then none else
 match op with
 | .shl=>some (aa k (k.wrap (a*2^(min b.toNat k.bits))))
 | .shr=>some (aa k (a.fdiv (2^(min b.toNat k.bits))))
 |_=>none
def je (op:BinOp)(a b:List UInt8):Option V:=
 match op with
 | .add=>if a.length+b.length≤9223372036854775807 then some (f9 (a++b))else none
 | .eql=>some (av (a==b))
 | .neq=>some (av (!(a==b)))
 | .lss=>some (av (Op.bytesLess a b))
 | .leq=>some (av (Op.bytesLess a b||a==b))
 | .gtr=>some (av (!(Op.bytesLess a b||a==b)))
 | .geq=>some (av (!Op.bytesLess a b))
 |_=>none
def bin (op:BinOp)(x y:V):Option V:=
 match x,y with
 | .one (.pv (.int k a)), .one (.pv (.int k' b))=>
  match op with
  | .shl| .shr=>jN op k a b
  |_=>if k=k' then bV op k a b else none
 | .one (.pv (.str a)), .one (.pv (.str b))=>je op a b
 |_,_=>none
def un (op:UnOp)(x:V):Option V:=
 match op,x with
 | .not, .one (.pv (.bool b))=>some (av (!b))
 | .neg, .one (.pv (.int k n))=>some (aa k (k.wrap (0-n)))
 |_,_=>none
def gn (isAgg:Bool)(n j:Nat)(cs:List L):Option V:=
 if j+n≤cs.length then
  if isAgg then some (.agg ((cs.drop j).take n))
  else if n=1 then(match cs[j]? with
   |some l=>some (.one l)
   |none=>none)else none
 else none
def bo (h:List AObj)(isAgg:Bool)(n:Nat)(a:V):Option V:=
 match a with
 | .one (.ptr o i j)=>match h[o]? with
  |some (.box cs)=>if i=0 then gn isAgg n j cs else none
  |some (.arr _ es)=>match es[i]? with
   |some e=>gn isAgg n j (e.map .pv)
   |none=>none
  |some (.froz _ es)=>match es[i]? with
   |some e=>gn isAgg n j (e.map .pv)
   |none=>none
  |some (.darr _ es)=>match es[i]? with
   |some e=>gn isAgg n j (e.map .pv)
   |none=>none
  |some (.fbox ps)=>if i=0 then gn isAgg n j (ps.map .pv)else none
  |_=>none
 | .one (.ip e j)=>gn isAgg n j (e.map .pv)
 |_=>none
def bO (h:List AObj):V→Bool
 | .one (.ptr o _ _)=>match h[o]? with
  |some (.box _)=>true
  |some (.fbox _)=>true
  |_=>false
 | .one (.ip _ _)=>true
 |_=>false
def zR :V→V→Bool
 | .one (.ptr o _ _), .one (.ptr o' _ _)=> !(o==o')
 | .one (.ip _ _), .one (.ptr _ _ _)=>true
 |_,_=>false
def putAt {α:Type}(cs:List α)(j:Nat)(ls:List α):List α:=cs.take j++ls++cs.drop (j+ls.length)
def plain :L→Bool
 | .own _ _=>false
 | .down _ _=>false
 | .tp _=>false
 | .sub _ _=>false
 | .win _ _ _=>false
 | .junk=>false
 |_=>true
def L.notArr (o:Nat):L→Bool
 | .arr o'=> !(o'==o)
 |_=>true
def bv (h:List AObj)(n:Nat)(a v:V):Option (List AObj):=
 let ls:=v.cells
 if ls.length=n then
  match a with
  | .one (.ptr o i j)=>match h[o]? with
   |some (.box cs)=>if i=0∧j+n≤cs.length∧ls.all plain=true then some (h.set o (.box (putAt cs j ls)))else none
   |some (.arr z es)=>match es[i]?,viewL h ls with
    |some e,some ps=>if j+n≤e.length∧ls.all (L.notArr o)=true then some ((freezeLs h ls).set o (.arr z (es.set i (putAt e j ps))))else none
    |_,_=>none
   |_=>none
  |_=>none
 else none
def dA (cs:List L):List (Nat×Nat×V)→Option (List L)
 |[]=>some cs
 |(off,n,v)::rest=>if v.cells.length=n∧off+n≤cs.length∧v.cells.all plain=true then dA (putAt cs off v.cells) rest else none
def asList (h:List AObj)(v:V):Option (List (List PV)):=
 match v with
 | .one l=>match l.view h with
  |some (.lst es)=>some es
  |_=>none
 |_=>none
def aG (h:List AObj)(z:Nat)(x:V)(i:Nat):Option V:=
 match x with
 | .one (.arr o)=>match h[o]? with
  |some (.arr z' es)=>if i<es.length∧z'=z then some (.one (.ptr o i 0))else none
  |some (.froz z' es)=>if i<es.length∧z'=z then some (.one (.ptr o i 0))else none
  |some (.darr z' es)=>if i<es.length∧z'=z then some (.one (.ptr o i 0))else none
  |_=>none
 | .one (.pv (.lst es))=>match es[i]? with
  |some e=>if e.length=z then some (.one (.ip e 0))else none
  |none=>none
 |_=>none
def L.flat :L→Bool
 | .pv (.int _ _)=>true
 | .pv (.bool _)=>true
 | .pv (.str _)=>true
 |_=>false
def V.flat :V→Bool
 | .one l=>l.flat
 | .agg ls=>ls.all L.flat
 | .tup xs=>xs.all fun x=>x.2.all L.flat
def qB :List (List PV)→Option (List UInt8)
 |[]=>some []
 |[.int .u8 n]::r=>match qB r with
  |some l=>some (UInt8.ofNat n.toNat::l)
  |none=>none
 |_=>none
def ag (s:List UInt8):List (List PV):=s.map fun b=>[.int .u8 b.toNat]
def thawL (h:List AObj):List L→List L×List AObj
 |[]=>([],h)
 | .own z es::ls=>let r:=thawL (h++[.arr z es]) ls;(.arr h.length::r.1,r.2)
 | .down z es::ls=>let r:=thawL (h++[.darr z es]) ls;(.arr h.length::r.1,r.2)
 |l::ls=>let r:=thawL h ls;(l::r.1,r.2)
def thawT (h:List AObj):List (Bool×List L)→List (Bool×List L)×List AObj
 |[]=>([],h)
 |(b,ls)::vs=>let r:=thawL h ls;let q:=thawT r.2 vs;((b,r.1)::q.1,q.2)
def thaw (h:List AObj):V→V×List AObj
 | .one l=>match thawL h [l]with
  |([l'],h')=>(.one l',h')
  |_=>(.one .junk,h)
 | .agg ls=>let r:=thawL h ls;(.agg r.1,r.2)
 | .tup vs=>let r:=thawT h vs;(.tup r.1,r.2)
def L.ow :L→L
 | .down z es=> .own z es
 |l=>l
def V.ow :V→V
 | .one l=> .one l.ow
 | .agg ls=> .agg (ls.map L.ow)
 | .tup vs=> .tup (vs.map fun x=>(x.1,x.2.map L.ow))
def di :L→L
 | .own _ es=> .pv (.lst es)
 | .down _ es=> .pv (.lst es)
 |l=>l
def dO :V→V
 | .one l=> .one (di l)
 | .agg ls=> .agg (ls.map di)
 | .tup vs=> .tup (vs.map fun x=>(x.1,x.2.map di))
def rH (h:List AObj):V→Option (List PV×List AObj)
 | .one (.ptr o i j)=>if i=0∧j=0 then(match h[o]? with
  |some (.box cs)=>match viewL h cs with
   |some ps=>if cs.all (fun l=> !(L.mut h l))then some (ps,h.set o (.fbox ps))else none
   |none=>none
  |some (.fbox ps)=>some (ps,h)
  |_=>none)else none
 | .one (.ip e j)=>if j=0 then some (e,h)else none
 |_=>none
def mc (h:List AObj):List V→Option (List (List PV)×List AObj)
 |[]=>some ([],h)
 |v::vs=>match rH h v with
  |some (e,h1)=>match mc h1 vs with
   |some (es,h2)=>some (e::es,h2)
   |none=>none
  |none=>none
def ww (e:List PV):V:= .one (.ip e 0)
def QD :EK→L→L→Option Bool
 | .i, .pv (.int k a), .pv (.int k' b)=>if k=k' then some (a==b)else none
 | .b, .pv (.bool a), .pv (.bool b)=>some (a==b)
 | .s, .pv (.str a), .pv (.str b)=>some (a==b)
 |_,_,_=>none
def qw :List EK→List L→List L→Option Bool
 |[],_,_=>some true
 |k::ks,a::xz,b::bs=>match QD k a b,qw ks xz bs with
  |some x,some y=>some (x&&y)
  |_,_=>none
 |_,_,_=>none
def bh (σ:St)(d:Int):Option Opd→Option Int
 |none=>some d
 |some o=>match isInt (o.ev σ)with
  |some (_,n)=>some n
  |none=>none
def ce :List L→Option (List PV)
 |[]=>some []
 | .pv p::ls=>match ce ls with
  |some ps=>some (p::ps)
  |none=>none
 |_=>none
def dM :List V→Option (List (List PV))
 |[]=>some []
 |v::vs=>match ce v.cells,dM vs with
  |some e,some es=>some (e::es)
  |_,_=>none
def L.unsub :L→L
 | .sub _ _=> .junk
 |l=>l
def AObj.unz :AObj→AObj
 | .zarr z es=> .darr z es
 | .box cs=> .box (cs.map L.unsub)
 |ob=>ob
def lent (h:List AObj):List AObj:=h.map AObj.unz
def AObj.zone :AObj→AObj
 | .arr z es=> .zarr z es
 | .darr z es=> .zarr z es
 |ob=>ob
def m8 (h:List AObj)(r:V):V×List AObj:=((thaw h r).1,h++(thaw [] r).2.map AObj.zone)
def PV.flat :PV→Bool
 | .lst _=>false
 |_=>true
def wid :List (List PV)→Nat
 |[]=>1
 |e::_=>e.length
def wz (z:Nat)(es:List (List PV))(c:Nat):Option PV:=
 match es[c/z]? with
 |some e=>e[c%z]?
 |none=>none
def ff (z:Nat)(es:List (List PV))(c:Nat)(p:PV):List (List PV):=es.set (c/z) (((es[c/z]?).getD []).set (c%z) p)
def qc (h:List AObj)(isAgg:Bool)(n:Nat)(a:V):Option V:=
 match a with
 | .one (.ptr o i j)=>match h[o]? with
  |some (.zarr z es)=>match es[i]? with
   |some e=>match e[j]? with
    |some (.lst _)=>if isAgg=false∧n=1 then some (.one (.sub o (i*z+j)))else none
    |_=>none
   |none=>none
  |_=>bo h isAgg n a
 |_=>bo h isAgg n a
def tf (h:List AObj)(n:Nat)(a v:V):Option (List AObj):=
 match a with
 | .one (.ptr o i j)=>match h[o]? with
  |some (.zarr z es)=>match es[i]?,v with
   |some e, .one (.pv p)=>match e[j]? with
    |some q=>if n=1∧p.flat=true∧q.flat=true then some (h.set o (.zarr z (es.set i (e.set j p))))else none
    |none=>none
   |_,_=>none
  |_=>bv h n a v
 |_=>bv h n a v
def hZ :Nat:=1048576
def PV.bare :PV→Bool
 | .lst []=>true
 | .lst _=>false
 |_=>true
def wg (h:List AObj):L→Option L
 | .pv p=>if p.bare then some (.pv p)else none
 | .nil=>some (.pv (.lst []))
 | .arr o=>match h[o]? with
  |some (.zarr z es)=>some (.down z es)
  |_=>none
 |_=>none
def kH (h:List AObj):List L→Option (List L)
 |[]=>some []
 |l::ls=>match wg h l,kH h ls with
  |some x,some xs=>some (x::xs)
  |_,_=>none
def tw (h:List AObj):V→Option V
 | .one l=>match wg h l with
  |some x=>some (.one x)
  |none=>none
 | .agg ls=>match kH h ls with
  |some xs=>some (.agg xs)
  |none=>none
 | .tup _=>none
def jK (h:List AObj):List Nat→List (Bool×List L)→Option (List AObj)
 |[],[]=>some h
 |o::os,(false,[.down z es])::outs=>jK (h.set o (.zarr z es)) os outs
 |_,_=>none
def gm (call:Nat→List V→Option V)(c:Nat)(caps:List V):List (List PV)→Option (List (List PV))
 |[]=>some []
 |e::es=>match call c (.agg (e.map .pv)::caps)with
  |some (.one (.pv (.bool b)))=>match gm call c caps es with
   |some r=>some (if b then r else e::r)
   |none=>none
  |_=>none
def tA (h:List AObj)(o:Nat):Option (Nat×List (List PV)):=
 match h[o]? with
 |some (.arr z es)=>some (z,es)
 |some (.froz z es)=>some (z,es)
 |some (.darr z es)=>some (z,es)
 |_=>none
def bj (call:Nat→List V→Option V)(σ:St):AOp→Option V
 | .mv x=>some (x.ev σ)
 | .pick c a b=>match isBool (c.ev σ)with
  |some t=>some (if t then a.ev σ else b.ev σ)
  |none=>none
 | .load g n a=>bo σ.h g n (a.ev σ)
 | .build zero parts=>match dA zero (parts.map fun x=>(x.1,x.2.1,x.2.2.ev σ))with
  |some cs=>some (.agg cs)
  |none=>none
 | .bin op x y=>bin op (x.ev σ) (y.ev σ)
 | .eqB neg x y=>match isBool (x.ev σ),isBool (y.ev σ)with
  |some a,some b=>some (av (if neg then !(a==b)else a==b))
  |_,_=>none
 | .un op x=>un op (x.ev σ)
 | .conv k x=>match isInt (x.ev σ)with
  |some (_,n)=>some (aa k (k.wrap n))
  |none=>none
 | .b2s x=>match asList σ.h (x.ev σ)with
  |some es=>match qB es with
   |some s=>some (f9 s)
   |none=>none
  |none=>none
 | .slcS x lo hi=>match isStr (x.ev σ)with
  |some s=>match bh σ 0 lo,bh σ (s.length:Int) hi with
   |some l,some r=>if 0≤l∧l≤r∧r≤s.length then some (f9 ((s.drop l.toNat).take (r.toNat-l.toNat)))else none
   |_,_=>none
  |none=>none
 | .fieldA x off=>match x.ev σ with
  | .one (.ptr o i j)=>some (.one (.ptr o i (j+off)))
  | .one (.ip e j)=>some (.one (.ip e (j+off)))
  |_=>none
 | .field x g off n=>match x.ev σ with
  | .agg ls=>gn g n off ls
  |_=>none
 | .indexA z x i=>match isInt (i.ev σ)with
  |some (_,n)=>if 0≤n then aG σ.h z (x.ev σ) n.toNat else none
  |none=>none
 | .indexS x i=>match isStr (x.ev σ),isInt (i.ev σ)with
  |some s,some (_,n)=>if 0≤n then(match s[n.toNat]? with
   |some b=>some (aa .u8 b.toNat)
   |none=>none)else none
  |_,_=>none
 | .extract x i=>match x.ev σ with
  | .tup vs=>match vs[i]? with
   |some (true,ls)=>some (.agg ls)
   |some (false,[l])=>some (.one l)
   |_=>none
  |_=>none
 | .len x=>match asList σ.h (x.ev σ)with
  |some es=>some (aa .i64 es.length)
  |none=>none
 | .lenS x=>match isStr (x.ev σ)with
  |some s=>some (aa .i64 s.length)
  |none=>none
 | .call f args fl fz=>
  if fl||fz then
   let vs:=args.map (Opd.ev σ)
   if fl|| !(vs.any (V.mut σ.h))then
    match am σ.h vs with
    |some xz=>match call f xz with
     |some r=>if fl&& !r.flat then none else some (dO r)
     |none=>none
    |none=>none
   else none
  else none
 | .mm isMax x y=>match isInt (x.ev σ),isInt (y.ev σ)with
  |some (k,a),some (k',b)=>if k=k' then some (aa k (if isMax then(if a<b then b else a)else(if b<a then b else a)))else none
  |_,_=>none
 | .callV x args=>match x.ev σ with
  | .one (.fn k caps)=>match am σ.h (args.map (Opd.ev σ))with
   |some xz=>match call k (xz++caps.map ww)with
    |some r=>if r.flat then some (dO r)else none
    |none=>none
   |none=>none
  |_=>none
 | .s2b x=>match isStr (x.ev σ)with
  |some s=>some (ba (ag s))
  |none=>none
 | .eqS neg ks x y=>match x.ev σ,y.ev σ with
  | .agg ls, .agg ls'=>match qw ks ls ls' with
   |some b=>some (av (if neg then !b else b))
   |none=>none
  |_,_=>none
 | .loadB g n a=>if bO σ.h (a.ev σ)then bo σ.h g n (a.ev σ)else none
 | .loadN g n a r=>if zR (a.ev σ) ((Opd.tmp r).ev σ)then bo σ.h g n (a.ev σ)else none
 | .loadA g n a=>if bO σ.h (a.ev σ)then none else bo σ.h g n (a.ev σ)
 | .slcF z x lo hi=>match x.ev σ with
  | .one (.pv (.lst es))=>match bh σ 0 lo,bh σ (es.length:Int) hi with
   |some l,some r=>if 0≤l∧l≤r∧r≤es.length∧es.all (fun e=>e.length==z)=true then some (ba ((es.drop l.toNat).take (r.toNat-l.toNat)))else none
   |_,_=>none
  |_=>none
 | .buildF z parts=>match dM (parts.map (Opd.ev σ))with
  |some es=>if es.all (fun e=>e.length==z)=true∧0<z∧es.length*z≤16777216 then some (match es with|[]=> .one .nil|_::_=>ba es)else none
  |none=>none
 | .slcW z x lo hi=>match x.ev σ with
  | .one (.arr o)=>match tA σ.h o with
   |some (z',es)=>match bh σ 0 lo,bh σ (es.length:Int) hi with
    |some l,some r=>if z'=z∧0≤l∧l≤r∧r≤es.length then some (.one (.win o l.toNat r.toNat))else none
    |_,_=>none
   |none=>none
  |_=>none
 | .lenZ x=>match asList (lent σ.h) (x.ev σ)with
  |some es=>some (aa .i64 es.length)
  |none=>none
 | .indexZ z x i=>match isInt (i.ev σ)with
  |some (_,n)=>if 0≤n then aG (lent σ.h) z (x.ev σ) n.toNat else none
  |none=>none
 | .loadZ g n a=>qc σ.h g n (a.ev σ)
 | .callF f args=>match am (lent σ.h) (args.map (Opd.ev σ))with
  |some xz=>match call f xz with
   |some r=>if r.flat then some (dO r)else none
   |none=>none
  |none=>none
 |_=>none
def aV (h:List AObj):List V→Option (List (List PV))
 |[]=>some []
 |v::vs=>match viewL h v.cells,aV h vs with
  |some p,some ps=>some (p::ps)
  |_,_=>none
def mL (es:List (List PV)):Bool:=es.all fun e=>e.all PV.flat
def eS (es:List (List PV)):Bool:=es.all fun e=>e.all PV.bare
def L.closed :L→Bool
 | .pv p=>p.bare
 | .nil=>true
 | .own _ es=>eS es
 | .down _ _=>true
 |_=>false
def V.closed :V→Bool
 | .one l=>l.closed
 | .agg ls=>ls.all L.closed
 | .tup xs=>xs.all fun x=>x.2.all L.closed
def L.mov (h:List AObj):L→Bool
 | .pv p=>p.bare
 | .nil=>true
 | .arr o=>match h[o]? with
  |some (.arr _ es)=>eS es
  |some (.darr _ _)=>true
  |_=>false
 |_=>false
def al (ls:List L):List Nat:=ls.filterMap fun| .arr o=>some o|_=>none
def aX (h:List AObj)(o:Nat):Option (Nat×List (List PV)):=
 match h[o]? with
 |some (.arr z es)=>if eS es then some (z,es)else none
 |some (.darr z es)=>some (z,es)
 |_=>none
def FE (h:List AObj)(o:Nat):Option (Nat×List (List PV)):=
 match h[o]? with
 |some (.arr z es)=>some (z,es)
 |some (.darr z es)=>some (z,es)
 |_=>none
def fD (h:List AObj)(z:Nat):V→Option (Option (Nat×List (List PV)))
 | .one .nil=>some none
 | .one (.arr o)=>match aX h o with
  |some (z',es)=>if z'=z then some (some (o,es))else none
  |none=>none
 |_=>none
def br :Option (Nat×List (List PV))→List (List PV)
 |some x=>x.2
 |none=>[]
def ct (src:Option (Nat×List (List PV)))(o:Nat):Bool:=
 match src with
 |some x=> !(x.1==o)
 |none=>true
def bd (src:Option (Nat×List (List PV)))(h:List AObj):List AObj:=
 match src with
 |some x=>h.set x.1 .dead
 |none=>h
def m9 (h:List AObj)(z:Nat)(src:Option (Nat×List (List PV))):V→Option (List (List PV))
 | .one (.arr o)=>match aX h o with
  |some (z',ys)=>if z'=z∧ct src o=true then some ys else none
  |none=>none
 | .one (.pv (.lst ys))=>if mL ys then some ys else none
 | .one .nil=>some []
 |_=>none
def storeD (h:List AObj)(n:Nat)(a v:V):Option (List AObj):=
 match a with
 | .one (.ptr o i j)=>match aX h o with
  |some (z,es)=>match es[i]?,viewL h v.cells with
   |some e,some ps=>if v.cells.length=n∧j+n≤e.length∧v.cells.all (L.notArr o)=true∧v.cells.all (L.mov h)=true∧(al v.cells).Nodup then some ((freezeLs h v.cells).set o (.darr z (es.set i (putAt e j ps))))else none
   |_,_=>none
  |none=>bv h n a v
 |_=>none
def jO (call:Nat→List V→Option V)(h:List AObj)(f:Nat)(x:V)(n:Int):Option (V×List AObj):=
 match x with
 | .one (.sub o c)=>match h[o]? with
  |some (.zarr z es)=>match wz z es c with
   |some (.lst [])=>match call (f+hZ) [ba [],aa .i64 n]with
    |some (.tup [(false,[l])])=>if l.flat then some (.one l,h)else none
    |_=>none
   |some (.lst l)=>match call (f+hZ) [.one (.down (wid l) l),aa .i64 n]with
    |some (.tup [(false,[l']),(false,[.down z' es'])])=>if l'.flat=true∧z'=wid l then some (.one l',h.set o (.zarr z (ff z es c (.lst es'))))else none
    |_=>none
   |_=>none
  |_=>none
 |v=>if(al v.cells).Nodup then(match tw h v with
  |some a=>match call (f+hZ) [a,aa .i64 n]with
   |some (.tup ((false,[l])::outs))=>if l.flat then(match jK h (al v.cells) outs with
    |some h'=>some (.one l,h')
    |none=>none)else none
   |_=>none
  |none=>none)else none
def P7 :Nat→List AObj
 |0=>[]
 |n+1=> .res::P7 n
def cf (call:Nat→List V→Option V)(σ:St):AOp→Option (V×List AObj)
 | .alloc zero=>some (.one (.ptr σ.h.length 0 0),σ.h++[.box zero])
 | .allocW zero=>some (.one (.ptr σ.h.length 0 0),σ.h++[.box zero, .res])
 | .allocAt i zero=>match σ.h[i]? with
  |some .res=>some (.one (.ptr i 0 0),σ.h.set i (.box zero))
  |_=>none
 | .box x=>if(x.ev σ).cells.all plain then some (.one (.ptr σ.h.length 0 0),σ.h++[.box (x.ev σ).cells])else none
 | .boxW n x=>if(x.ev σ).cells.all plain then some (.one (.ptr σ.h.length 0 0),σ.h++ .box (x.ev σ).cells::P7 n)else none
 | .buildS z parts=>
  let vs:=parts.map (Opd.ev σ)
  if vs.all (fun v=>v.cells.length==z)&&decide (0<z)&&decide (vs.length*z≤16777216)then
   match aV σ.h vs with
   |some es=>some (.one (.arr (freezeVs σ.h vs).length),freezeVs σ.h vs++[.arr z es])
   |none=>none
  else none
 | .store n a v=>match bv σ.h n (a.ev σ) (v.ev σ)with
  |some h=>some (.tup [],h)
  |none=>none
 | .storeB n a v=>if bO σ.h (a.ev σ)then(match bv σ.h n (a.ev σ) (v.ev σ)with
  |some h=>some (.tup [],h)
  |none=>none)else none
 | .allocT n=>some (.one (.tp n),σ.h++[.tbox n])
 | .storeT n a v=>match a.ev σ with
  | .one (.tp m)=>if m=n∧(v.ev σ).cells.length=n∧(v.ev σ).cells.all plain=true then some (.tup [],σ.h)else none
  |_=>none
 | .make bytes zero n=>match isInt (n.ev σ)with
  |some (_,m)=>if 0≤m∧m*bytes≤140737488355328∧m≤9223372036854775807∧0<zero.length then some (.one (.arr σ.h.length),σ.h++[.arr zero.length (List.replicate m.toNat zero)])else none
  |none=>none
 | .append z bytes x y=>match x.ev σ,asList σ.h (y.ev σ)with
  | .one .nil,some ys=>if ys.all (fun e=>e.length==z)&&decide (0<z)&&decide (ys.length*bytes≤140737488355328)&&decide (ys.length≤9223372036854775807)
   then some (.one (.arr σ.h.length),σ.h++[.arr z ys])else none
  | .one (.arr o),some ys=>match σ.h[o]? with
   |some (.arr z' es)=>if z'=z∧ys.all (fun e=>e.length==z)=true∧(es.length+ys.length)*bytes≤140737488355328∧es.length+ys.length≤9223372036854775807∧(y.ev σ).cells.all (L.notArr o)=true
    then some (.one (.arr σ.h.length),σ.h.set o .dead++[.arr z (es++ys)])else none
   |_=>none
  |_,_=>none
 | .appendS bytes x y=>match x.ev σ,isStr (y.ev σ)with
  | .one .nil,some s=>if s.length*bytes≤140737488355328∧s.length≤9223372036854775807 then some (.one (.arr σ.h.length),σ.h++[.arr 1 (ag s)])else none
  | .one (.arr o),some s=>match σ.h[o]? with
   |some (.arr z' es)=>if z'=1∧(es.length+s.length)*bytes≤140737488355328∧es.length+s.length≤9223372036854775807
    then some (.one (.arr σ.h.length),σ.h.set o .dead++[.arr 1 (es++ag s)])else none
   |_=>none
  |_,_=>none
 | .slcL z x lo hi=>match asList σ.h (x.ev σ)with
  |some es=>match bh σ 0 lo,bh σ (es.length:Int) hi with
   |some l,some r=>if 0≤l∧l≤r∧r≤es.length∧es.all (fun e=>e.length==z)=true then some (ba ((es.drop l.toNat).take (r.toNat-l.toNat)),freezeLs σ.h (x.ev σ).cells)else none
   |_,_=>none
  |none=>none
 | .callD f args=>
  let vs:=args.map (Opd.ev σ)
  match am σ.h vs with
  |some xz=>match call f xz with
   |some r=>some (dO r,freezeVs σ.h vs)
   |none=>none
  |none=>none
 | .insert _ z bytes x i v=>match x.ev σ,isInt (i.ev σ),v.ev σ with
  | .one .nil,some (.i64,n), .one (.arr o2)=>match σ.h[o2]? with
   |some (.arr z2 vs)=>if z2=z∧0<vs.length∧n=0∧vs.length*bytes≤140737488355328∧vs.length≤9223372036854775807
    then some (.one (.arr σ.h.length),σ.h++[.arr z vs])else none
   |_=>none
  | .one (.arr o),some (.i64,n), .one (.arr o2)=>match σ.h[o]?,σ.h[o2]? with
   |some (.arr z1 es),some (.arr z2 vs)=>if z1=z∧z2=z∧o≠o2∧0<vs.length∧0≤n∧n≤es.length∧(es.length+vs.length)*bytes≤140737488355328∧es.length+vs.length≤9223372036854775807
    then some (.one (.arr σ.h.length),σ.h.set o .dead++[.arr z (es.take n.toNat++vs++es.drop n.toNat)])else none
   |_,_=>none
  |_,_,_=>none
 | .delF k z x f=>match x.ev σ,f.ev σ with
  | .one .nil, .one (.fn c cs)=>some (.one .nil,σ.h)
  | .one (.arr o), .one (.fn c cs)=>match FE σ.h o with
   |some (z',es)=>if z'=z then(match gm call c (cs.map ww) es with
    |some es'=>some (.one (.arr σ.h.length),σ.h.set o .dead++[.arr z es'])
    |none=>none)else none
   |none=>none
  |_,_=>none
 | .delW z bytes x y=>match x.ev σ,y.ev σ with
  | .one (.win o l i), .one (.win o' j r)=>match aX σ.h o with
   |some (z',es)=>if o'=o∧z'=z∧l=0∧i<j∧j≤r∧r=es.length∧r*bytes≤140737488355328∧r≤9223372036854775807
    then some (.one (.arr σ.h.length),σ.h.set o .dead++[.darr z (es.take i++es.drop j)])else none
   |none=>none
  |_,_=>none
 | .delR _ z x i j=>match x.ev σ,isInt (i.ev σ),isInt (j.ev σ)with
  | .one (.arr o),some (.i64,a),some (.i64,b)=>match aX σ.h o with
   |some (z',es)=>if z'=z∧0≤a∧a<b∧b≤es.length
    then some (.one (.arr σ.h.length),σ.h.set o .dead++[.darr z (es.take a.toNat++es.drop b.toNat)])else none
   |none=>none
  |_,_,_=>none
 | .mkfn k caps=>match mc σ.h (caps.map (Opd.ev σ))with
  |some (cs,h)=>some (.one (.fn k cs),h)
  |none=>none
 | .callC f args=>
  let vs:=args.map (Opd.ev σ)
  match am σ.h vs with
  |some xz=>match call f xz with
   |some r=>some (thaw (if r.closed then σ.h else freezeVs σ.h vs) r)
   |none=>none
  |none=>none
 | .storeD n a v=>match storeD σ.h n (a.ev σ) (v.ev σ)with
  |some h=>some (.tup [],h)
  |none=>none
 | .buildD z parts=>
  let vs:=parts.map (Opd.ev σ)
  let ls:=vs.flatMap V.cells
  if vs.all (fun v=>v.cells.length==z)&&decide (0<z)&&decide (vs.length*z≤16777216)&&ls.all (L.mov σ.h)&&decide ((al ls).Nodup)then
   match aV σ.h vs with
   |some es=>some (.one (.arr (freezeVs σ.h vs).length),freezeVs σ.h vs++[.darr z es])
   |none=>none
  else none
 | .appendD z bytes x y=>
  match fD σ.h z (x.ev σ)with
  |none=>none
  |some src=>match m9 σ.h z src (y.ev σ)with
   |none=>none
   |some ys=>if ys.all (fun e=>e.length==z)=true∧0<z∧((br src).length+ys.length)*bytes≤140737488355328∧(br src).length+ys.length≤9223372036854775807
    then some (.one (.arr σ.h.length),bd src (freezeLs σ.h (y.ev σ).cells)++[.darr z (br src++ys)])else none
 | .storeZ n a v=>match tf σ.h n (a.ev σ) (v.ev σ)with
  |some h=>some (.tup [],h)
  |none=>none
 | .callZ f args=>match am (lent σ.h) (args.map (Opd.ev σ))with
  |some xz=>match call f xz with
   |some r=>if r.closed then some (m8 σ.h r)else none
   |none=>none
  |none=>none
 | .callM f x k=>match k.ev σ with
  | .one (.pv (.int .i64 n))=>jO call σ.h f (x.ev σ) n
  |_=>none
 | .call f args false false=>
  let vs:=args.map (Opd.ev σ)
  match am σ.h vs with
  |some xz=>match call f xz with
   |some r=>some (thaw (freezeVs σ.h vs) r.ow)
   |none=>none
  |none=>none
 |_=>none
def put (t:List V)(d:Option Nat)(v:V):List V:=
 match d with
 |some d=>t.set d v
 |none=>t
def aK (σ:St):Option (Nat×Bool)→Option Bool
 |none=>some true
 |some (g,w)=>match σ.t.getD g (.tup [])with
  | .one (.pv (.bool b))=>some (b==w)
  | .tup []=>some false
  |_=>none
def az (call:Nat→List V→Option V)(o:AOper)(σ:St):Option St:=
 match aK σ o.guard with
 |some true=>match bj call σ o.op with
  |some v=>some ⟨put σ.t o.dst v,σ.h⟩
  |none=>match cf call σ o.op with
   |some (v,h)=>some ⟨put σ.t o.dst v,h⟩
   |none=>none
 |some false=>some ⟨put σ.t o.dst (.tup []),σ.h⟩
 |none=>none
def ai (call:Nat→List V→Option V):List AOper→St→Option St
 |[],σ=>some σ
 |o::r,σ=>match az call o σ with
  |some σ'=>ai call r σ'
  |none=>none
def eI :Nat→(St→Option (Ex×St))→St→Option (Ex×St)
 |0,_,_=>none
 |n+1,f,σ=>match f σ with
  |some (.normal,σ')=>eI n f σ'
  |r=>r
def aq (call:Nat→List V→Option V)(lp:(St→Option (Ex×St))→St→Option (Ex×St)):ACode→St→Option (Ex×St)
 | .skip,σ=>some (.normal,σ)
 | .region ops,σ=>match ai call ops σ with
  |some σ'=>some (.normal,σ')
  |none=>none
 | .seq a b,σ=>match aq call lp a σ with
  |some (.normal,σ')=>aq call lp b σ'
  |r=>r
 | .cond c a b,σ=>match isBool (c.ev σ)with
  |some t=>if t then aq call lp a σ else aq call lp b σ
  |none=>none
 | .block id c,σ=>match aq call lp c σ with
  |some (.exit i,σ')=>if i=id then some (.normal,σ')else some (.exit i,σ')
  |r=>r
 | .loop c,σ=>lp (aq call lp c) σ
 | .exit id,σ=>some (.exit id,σ)
 | .ret,σ=>some (.ret,σ)
def bH (h:List AObj):L→Option L
 | .pv p=>some (.pv p)
 | .nil=>some .nil
 | .arr o=>match h[o]? with
  |some (.arr z es)=>some (.own z es)
  |some (.froz _ es)=>some (.pv (.lst es))
  |some (.darr z es)=>some (.down z es)
  |_=>none
 |_=>none
def aJ (h:List AObj):List L→Option (List L)
 |[]=>some []
 |l::ls=>match bH h l,aJ h ls with
  |some x,some xs=>some (x::xs)
  |_,_=>none
def bQ (σ:St):ARes→Option V
 | .tmp t=>some (σ.t.getD t (.tup []))
 | .cell t n=>bo σ.h true n (σ.t.getD t (.tup []))
def ar (σ:St):List ARes→Option (List V)
 |[]=>some []
 |r::rs=>match bQ σ r,ar σ rs with
  |some x,some xs=>some (x::xs)
  |_,_=>none
def comp (h:List AObj):V→Option (Bool×List L)
 | .one l=>match aJ h [l]with
  |some xs=>some (false,xs)
  |none=>none
 | .agg ls=>match aJ h ls with
  |some xs=>some (true,xs)
  |none=>none
 | .tup _=>none
def bM (h:List AObj):List V→Option (List (Bool×List L))
 |[]=>some []
 |v::vs=>match comp h v,bM h vs with
  |some x,some xs=>some (x::xs)
  |_,_=>none
def aY (σ:St)(rs:List ARes):Option V:=
 match ar σ rs with
 |none=>none
 |some vs=>
  if(al (vs.flatMap V.cells)).Nodup then
   match bM σ.h vs with
   |some [(true,ls)]=>some (.agg ls)
   |some [(false,[l])]=>some (.one l)
   |some xs=>if xs.length=1 then none else some (.tup xs)
   |none=>none
  else none
def start (fn:AFn)(args:List V):St:=⟨args++List.replicate (fn.ntmps-args.length) (.tup []),[]⟩
def done (fn:AFn):Option (Ex×St)→Option V
 |some (.normal,σ)=>aY σ fn.results
 |some (.ret,σ)=>aY σ fn.results
 |_=>none
def dE :List AObj→List V→List V×List AObj
 |h,[]=>([],h)
 |h,v::vs=>let q:=thaw h v;let r:=dE q.2 vs;(q.1::r.1,r.2)
def ij (fn:AFn)(args:List V):St:=⟨(dE [] args).1++List.replicate (fn.ntmps-args.length) (.tup []),(dE [] args).2.map AObj.zone⟩
def gM :List AObj→Option (List (Bool×List L))
 |[]=>some []
 | .zarr z es::h=>match gM h with
  |some xs=>some ((false,[.down z es])::xs)
  |none=>none
 |_=>none
def AOp.noZ :AOp→Bool
 | .callZ _ _=>false
 |_=>true
def ACode.noZ :ACode→Bool
 | .region ops=>ops.all fun o=>o.op.noZ
 | .seq a b=>a.noZ&&b.noZ
 | .cond _ a b=>a.noZ&&b.noZ
 | .block _ c=>c.noZ
 | .loop c=>c.noZ
 |_=>true
def ET (m:Nat)(fn:AFn)(σ:St):Option V:=
 match aY σ fn.results,gM (σ.h.take m)with
 |some (.one l),some os=>if l.flat then some (.tup ((false,[l])::os))else none
 |_,_=>none
def ul (m:Nat)(fn:AFn):Option (Ex×St)→Option V
 |some (.normal,σ)=>ET m fn σ
 |some (.ret,σ)=>ET m fn σ
 |_=>none
def run (Φ:Nat→Option AFn)(ext:Nat→List V→Option V):Nat→Nat→List V→Option V
 |0,_,_=>none
 |n+1,k,args=>match Φ k with
  |none=>if hZ≤k then(match Φ (k-hZ)with
   |some fn=>if fn.body.noZ then ul (dE [] args).2.length fn (aq (run Φ ext n) (eI n) fn.body (ij fn args))else none
   |none=>none)else ext k args
  |some fn=>done fn (aq (run Φ ext n) (eI n) fn.body (start fn args))
end Gi
