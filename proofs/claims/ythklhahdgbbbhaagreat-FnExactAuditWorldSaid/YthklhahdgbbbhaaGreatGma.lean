/- Of this proof. -/
import Derived.WalkKit
import Derived.Deep.MidRow
import Derived.Maps.Own
import Derived.Maps.OwnSet
import Derived.Maps.Views
import Derived.Maps.Keyed
import Derived.Orders
namespace Gi
open Go
inductive PV where
 | int (k : IntKind) (n : Int)
 | bool (b : Bool)
 | str (s : List UInt8)
 | lst (es : List (List PV))
inductive L where
 | pv (p : PV)
 | ptr (o i j : Nat)
 | ip (e : List PV) (j : Nat)
 | arr (o : Nat)
 | nil
 | own (z : Nat) (es : List (List PV))
 | fn (k : Nat) (caps : List (List PV))
 | mp (o : Nat)
 | tp (n : Nat)
 | junk
inductive V where
 | one (l : L)
 | agg (ls : List L)
 | tup (vs : List (Bool × List L))
inductive AObj where
 | box (cs : List L)
 | arr (z : Nat) (es : List (List PV))
 | froz (z : Nat) (es : List (List PV))
 | fbox (ps : List PV)
 | imap (kvs : List (Int × Int))
 | tbox (n : Nat)
 | dead
structure St where
 t : List V
 h : List AObj
inductive Opd where
 | tmp (n : Nat)
 | pv (p : PV)
 | nil
 | fn (k : Nat)
inductive EK where
 | b
 | i
 | s
inductive AOp where
 | mv (x : Opd)
 | pick (c a b : Opd)
 | alloc (zero : List L)
 | box (x : Opd)
 | build (zero : List L) (parts : List (Nat × Nat × Opd))
 | buildS (z : Nat) (parts : List Opd)
 | load (isAgg : Bool) (n : Nat) (a : Opd)
 | store (n : Nat) (a v : Opd)
 | bin (op : BinOp) (x y : Opd)
 | eqB (neg : Bool) (x y : Opd)
 | un (op : UnOp) (x : Opd)
 | conv (k : IntKind) (x : Opd)
 | b2s (x : Opd)
 | make (bytes : Nat) (zero : List PV) (n : Opd)
 | slcS (x : Opd) (lo hi : Option Opd)
 | fieldA (x : Opd) (off : Nat)
 | field (x : Opd) (isAgg : Bool) (off n : Nat)
 | indexA (z : Nat) (x i : Opd)
 | indexS (x i : Opd)
 | extract (x : Opd) (i : Nat)
 | len (x : Opd)
 | lenS (x : Opd)
 | append (z bytes : Nat) (x y : Opd)
 | appendS (bytes : Nat) (x y : Opd)
 | call (f : Nat) (args : List Opd) (fl fz : Bool)
 | mm (isMax : Bool) (x y : Opd)
 | mkfn (k : Nat) (caps : List Opd)
 | callV (x : Opd) (args : List Opd)
 | eqS (neg : Bool) (ks : List EK) (x y : Opd)
 | slcL (z : Nat) (x : Opd) (lo hi : Option Opd)
 | s2b (x : Opd)
 | callD (f : Nat) (args : List Opd)
 | mkmap
 | mget (x k : Opd)
 | mset (x k v : Opd)
 | insert (k z bytes : Nat) (x i v : Opd)
 | loadB (isAgg : Bool) (n : Nat) (a : Opd)
 | slcF (z : Nat) (x : Opd) (lo hi : Option Opd)
 | buildF (z : Nat) (parts : List Opd)
 | loadA (isAgg : Bool) (n : Nat) (a : Opd)
 | storeB (n : Nat) (a v : Opd)
 | allocT (n : Nat)
 | storeT (n : Nat) (a v : Opd)
structure AOper where
 dst : Option Nat
 op : AOp
 guard : Option (Nat × Bool)
inductive ACode where
 | skip
 | region (ops : List AOper)
 | seq (a b : ACode)
 | cond (c : Opd) (thn els : ACode)
 | block (id : Nat) (body : ACode)
 | loop (body : ACode)
 | exit (id : Nat)
 | ret
inductive Ex where
 | normal
 | exit (id : Nat)
 | ret
inductive ARes where
 | tmp (t : Nat)
 | cell (t : Nat) (n : Nat)
structure AFn where
 ntmps : Nat
 results : List ARes
 body : ACode
def V.cells : V → List L
 | .one l => [l]
 | .agg ls => ls
 | .tup _ => [.junk]
def Opd.ev (σ : St) : Opd → V
 | .tmp n => σ.t.getD n (.tup [])
 | .pv p => .one (.pv p)
 | .nil => .one .nil
 | .fn k => .one (.fn k [])
def L.view (h : List AObj) : L → Option PV
 | .pv p => some p
 | .nil => some (.lst [])
 | .arr o => match h[o]? with
  | some (.arr _ es) => some (.lst es)
  | some (.froz _ es) => some (.lst es)
  | _ => none
 | _ => none
def viewL (h : List AObj) : List L → Option (List PV)
 | [] => some []
 | l :: ls => match l.view h, viewL h ls with
  | some p, some ps => some (p :: ps)
  | _, _ => none
def V.view (h : List AObj) : V → Option V
 | .one (.fn k caps) => some (.one (.fn k caps))
 | .one l => match l.view h with
  | some p => some (.one (.pv p))
  | none => none
 | .agg ls => match viewL h ls with
  | some ps => some (.agg (ps.map .pv))
  | none => none
 | .tup _ => none
def aB (h : List AObj) : List V → Option (List V)
 | [] => some []
 | v :: vs => match v.view h, aB h vs with
  | some p, some ps => some (p :: ps)
  | _, _ => none
def freezeL (h : List AObj) : L → List AObj
 | .arr o => match h[o]? with
  | some (.arr z es) => h.set o (.froz z es)
  | _ => h
 | _ => h
def freezeLs (h : List AObj) (ls : List L) : List AObj := ls.foldl freezeL h
def freezeVs (h : List AObj) (vs : List V) : List AObj := vs.foldl (fun h v => freezeLs h v.cells) h
def L.mut (h : List AObj) : L → Bool
 | .arr o => match h[o]? with
  | some (.arr _ _) => true
  | _ => false
 | _ => false
def V.mut (h : List AObj) (v : V) : Bool := v.cells.any (L.mut h)
def isInt : V → Option (IntKind × Int)
 | .one (.pv (.int k n)) => some (k, n)
 | _ => none
def isStr : V → Option (List UInt8)
 | .one (.pv (.str s)) => some s
 | _ => none
def isBool : V → Option Bool
 | .one (.pv (.bool b)) => some b
 | _ => none
abbrev ae (k : IntKind) (n : Int) : V := .one (.pv (.int k n))
abbrev aj (b : Bool) : V := .one (.pv (.bool b))
abbrev eX (s : List UInt8) : V := .one (.pv (.str s))
abbrev bJ (es : List (List PV)) : V := .one (.pv (.lst es))
def bf (op : BinOp) (k : IntKind) (a b : Int) : Option V :=
 match op with
 | .add => some (ae k (k.wrap (a + b)))
 | .sub => some (ae k (k.wrap (a - b)))
 | .mul => some (ae k (k.wrap (a * b)))
 | .quo => if b = 0 then none else some (ae k (k.wrap (a.tdiv b)))
 | .rem => if b = 0 then none else some (ae k (a.tmod b))
 | .and => some (ae k (k.wrap ((BitVec.ofInt k.bits a &&& BitVec.ofInt k.bits b).toNat)))
 | .or => some (ae k (k.wrap ((BitVec.ofInt k.bits a ||| BitVec.ofInt k.bits b).toNat)))
 | .eql => some (aj (a == b))
 | .neq => some (aj (a != b))
 | .lss => some (aj (decide (a < b)))
 | .leq => some (aj (decide (a ≤ b)))
 | .gtr => some (aj (decide (b < a)))
 | .geq => some (aj (decide (b ≤ a)))
 | _ => none
def ie (op : BinOp) (k : IntKind) (a b : Int) : Option V :=
 if b < 0 then none else
 match op with
 | .shl => some (ae k (k.wrap (a * 2 ^ (min b.toNat k.bits))))
 | .shr => some (ae k (a.fdiv (2 ^ (min b.toNat k.bits))))
 | _ => none
def fE (op : BinOp) (a b : List UInt8) : Option V :=
 match op with
 | .add => if a.length + b.length ≤ 9223372036854775807 then some (eX (a ++ b)) else none
 | .eql => some (aj (a == b))
 | .neq => some (aj (!(a == b)))
 | .lss => some (aj (Op.bytesLess a b))
 | .leq => some (aj (Op.bytesLess a b || a == b))
 | .gtr => some (aj (!(Op.bytesLess a b || a == b)))
 | .geq => some (aj (!Op.bytesLess a b))
 | _ => none
def bin (op : BinOp) (x y : V) : Option V :=
 match x, y with
 | .one (.pv (.int k a)), .one (.pv (.int k' b)) =>
  match op with
  | .shl | .shr => ie op k a b
  | _ => if k = k' then bf op k a b else none
 | .one (.pv (.str a)), .one (.pv (.str b)) => fE op a b
 | _, _ => none
def un (op : UnOp) (x : V) : Option V :=
 match op, x with
 | .not, .one (.pv (.bool b)) => some (aj (!b))
 | .neg, .one (.pv (.int k n)) => some (ae k (k.wrap (0 - n)))
 | _, _ => none
def hJ (isAgg : Bool) (n j : Nat) (cs : List L) : Option V :=
 if j + n ≤ cs.length then
  if isAgg then some (.agg ((cs.drop j).take n))
  else if n = 1 then (match cs[j]? with
   | some l => some (.one l)
   | none => none) else none
 else none
def bz (h : List AObj) (isAgg : Bool) (n : Nat) (a : V) : Option V :=
 match a with
 | .one (.ptr o i j) => match h[o]? with
  | some (.box cs) => if i = 0 then hJ isAgg n j cs else none
  | some (.arr _ es) => match es[i]? with
   | some e => hJ isAgg n j (e.map .pv)
   | none => none
  | some (.froz _ es) => match es[i]? with
   | some e => hJ isAgg n j (e.map .pv)
   | none => none
  | some (.fbox ps) => if i = 0 then hJ isAgg n j (ps.map .pv) else none
  | _ => none
 | .one (.ip e j) => hJ isAgg n j (e.map .pv)
 | _ => none
def bG (h : List AObj) : V → Bool
 | .one (.ptr o _ _) => match h[o]? with
  | some (.box _) => true
  | some (.fbox _) => true
  | _ => false
 | .one (.ip _ _) => true
 | _ => false
def putAt {α : Type} (cs : List α) (j : Nat) (ls : List α) : List α := cs.take j ++ ls ++ cs.drop (j + ls.length)
def plain : L → Bool
 | .own _ _ => false
 | .mp _ => false
 | .tp _ => false
 | .junk => false
 | _ => true
def L.notArr (o : Nat) : L → Bool
 | .arr o' => !(o' == o)
 | _ => true
def bS (h : List AObj) (n : Nat) (a v : V) : Option (List AObj) :=
 let ls := v.cells
 if ls.length = n then
  match a with
  | .one (.ptr o i j) => match h[o]? with
   | some (.box cs) => if i = 0 ∧ j + n ≤ cs.length ∧ ls.all plain = true then some (h.set o (.box (putAt cs j ls))) else none
   | some (.arr z es) => match es[i]?, viewL h ls with
    | some e, some ps => if j + n ≤ e.length ∧ ls.all (L.notArr o) = true then some ((freezeLs h ls).set o (.arr z (es.set i (putAt e j ps)))) else none
    | _, _ => none
   | _ => none
  | _ => none
 else none
def bB (cs : List L) : List (Nat × Nat × V) → Option (List L)
 | [] => some cs
 | (off, n, v) :: rest => if v.cells.length = n ∧ off + n ≤ cs.length ∧ v.cells.all plain = true then bB (putAt cs off v.cells) rest else none
def asList (h : List AObj) (v : V) : Option (List (List PV)) :=
 match v with
 | .one l => match l.view h with
  | some (.lst es) => some es
  | _ => none
 | _ => none
def bm (h : List AObj) (z : Nat) (x : V) (i : Nat) : Option V :=
 match x with
 | .one (.arr o) => match h[o]? with
  | some (.arr z' es) => if i < es.length ∧ z' = z then some (.one (.ptr o i 0)) else none
  | some (.froz z' es) => if i < es.length ∧ z' = z then some (.one (.ptr o i 0)) else none
  | _ => none
 | .one (.pv (.lst es)) => match es[i]? with
  | some e => if e.length = z then some (.one (.ip e 0)) else none
  | none => none
 | _ => none
def L.flat : L → Bool
 | .pv (.int _ _) => true
 | .pv (.bool _) => true
 | .pv (.str _) => true
 | _ => false
def V.flat : V → Bool
 | .one l => l.flat
 | .agg ls => ls.all L.flat
 | .tup xs => xs.all fun x => x.2.all L.flat
def oN : List (List PV) → Option (List UInt8)
 | [] => some []
 | [.int .u8 n] :: r => match oN r with
  | some l => some (UInt8.ofNat n.toNat :: l)
  | none => none
 | _ => none
def aU (s : List UInt8) : List (List PV) := s.map fun b => [.int .u8 b.toNat]
def thawL (h : List AObj) : List L → List L × List AObj
 | [] => ([], h)
 | .own z es :: ls => let r := thawL (h ++ [.arr z es]) ls; (.arr h.length :: r.1, r.2)
 | l :: ls => let r := thawL h ls; (l :: r.1, r.2)
def thawT (h : List AObj) : List (Bool × List L) → List (Bool × List L) × List AObj
 | [] => ([], h)
 | (b, ls) :: vs => let r := thawL h ls; let q := thawT r.2 vs; ((b, r.1) :: q.1, q.2)
def thaw (h : List AObj) : V → V × List AObj
 | .one l => match thawL h [l] with
  | ([l'], h') => (.one l', h')
  | _ => (.one .junk, h)
 | .agg ls => let r := thawL h ls; (.agg r.1, r.2)
 | .tup vs => let r := thawT h vs; (.tup r.1, r.2)
def dJ : L → L
 | .own _ es => .pv (.lst es)
 | l => l
def dX : V → V
 | .one l => .one (dJ l)
 | .agg ls => .agg (ls.map dJ)
 | .tup vs => .tup (vs.map fun x => (x.1, x.2.map dJ))
def o9 (h : List AObj) : V → Option (List PV × List AObj)
 | .one (.ptr o i j) => if i = 0 ∧ j = 0 then (match h[o]? with
  | some (.box cs) => match viewL h cs with
   | some ps => if cs.all (fun l => !(L.mut h l)) then some (ps, h.set o (.fbox ps)) else none
   | none => none
  | some (.fbox ps) => some (ps, h)
  | _ => none) else none
 | .one (.ip e j) => if j = 0 then some (e, h) else none
 | _ => none
def kT (h : List AObj) : List V → Option (List (List PV) × List AObj)
 | [] => some ([], h)
 | v :: vs => match o9 h v with
  | some (e, h1) => match kT h1 vs with
   | some (es, h2) => some (e :: es, h2)
   | none => none
  | none => none
def qL (e : List PV) : V := .one (.ip e 0)
def GP : EK → L → L → Option Bool
 | .i, .pv (.int k a), .pv (.int k' b) => if k = k' then some (a == b) else none
 | .b, .pv (.bool a), .pv (.bool b) => some (a == b)
 | .s, .pv (.str a), .pv (.str b) => some (a == b)
 | _, _, _ => none
def kF : List EK → List L → List L → Option Bool
 | [], _, _ => some true
 | k :: ks, a :: xz, b :: bs => match GP k a b, kF ks xz bs with
  | some x, some y => some (x && y)
  | _, _ => none
 | _, _, _ => none
def bA (σ : St) (d : Int) : Option Opd → Option Int
 | none => some d
 | some o => match isInt (o.ev σ) with
  | some (_, n) => some n
  | none => none
def vV : List (Int × Int) → Int → Int
 | [], _ => 0
 | (a, b) :: r, x => if x = a then b else vV r x
def Nd (n : Int) : Bool := decide (-9223372036854775808 ≤ n) && decide (n ≤ 9223372036854775807)
def bw : List L → Option (List PV)
 | [] => some []
 | .pv p :: ls => match bw ls with
  | some ps => some (p :: ps)
  | none => none
 | _ => none
def cd : List V → Option (List (List PV))
 | [] => some []
 | v :: vs => match bw v.cells, cd vs with
  | some e, some es => some (e :: es)
  | _, _ => none
def cF (call : Nat → List V → Option V) (σ : St) : AOp → Option V
 | .mv x => some (x.ev σ)
 | .pick c a b => match isBool (c.ev σ) with
  | some t => some (if t then a.ev σ else b.ev σ)
  | none => none
 | .load g n a => bz σ.h g n (a.ev σ)
 | .build zero parts => match bB zero (parts.map fun x => (x.1, x.2.1, x.2.2.ev σ)) with
  | some cs => some (.agg cs)
  | none => none
 | .bin op x y => bin op (x.ev σ) (y.ev σ)
 | .eqB neg x y => match isBool (x.ev σ), isBool (y.ev σ) with
  | some a, some b => some (aj (if neg then !(a == b) else a == b))
  | _, _ => none
 | .un op x => un op (x.ev σ)
 | .conv k x => match isInt (x.ev σ) with
  | some (_, n) => some (ae k (k.wrap n))
  | none => none
 | .b2s x => match asList σ.h (x.ev σ) with
  | some es => match oN es with
   | some s => some (eX s)
   | none => none
  | none => none
 | .slcS x lo hi => match isStr (x.ev σ) with
  | some s => match bA σ 0 lo, bA σ (s.length : Int) hi with
   | some l, some r => if 0 ≤ l ∧ l ≤ r ∧ r ≤ s.length then some (eX ((s.drop l.toNat).take (r.toNat - l.toNat))) else none
   | _, _ => none
  | none => none
 | .fieldA x off => match x.ev σ with
  | .one (.ptr o i j) => some (.one (.ptr o i (j + off)))
  | .one (.ip e j) => some (.one (.ip e (j + off)))
  | _ => none
 | .field x g off n => match x.ev σ with
  | .agg ls => hJ g n off ls
  | _ => none
 | .indexA z x i => match isInt (i.ev σ) with
  | some (_, n) => if 0 ≤ n then bm σ.h z (x.ev σ) n.toNat else none
  | none => none
 | .indexS x i => match isStr (x.ev σ), isInt (i.ev σ) with
  | some s, some (_, n) => if 0 ≤ n then (match s[n.toNat]? with
   | some b => some (ae .u8 b.toNat)
   | none => none) else none
  | _, _ => none
 | .extract x i => match x.ev σ with
  | .tup vs => match vs[i]? with
   | some (true, ls) => some (.agg ls)
   | some (false, [l]) => some (.one l)
   | _ => none
  | _ => none
 | .len x => match asList σ.h (x.ev σ) with
  | some es => some (ae .i64 es.length)
  | none => none
 | .lenS x => match isStr (x.ev σ) with
  | some s => some (ae .i64 s.length)
  | none => none
 | .call f args fl fz =>
  if fl || fz then
   let vs := args.map (Opd.ev σ)
   if fl || !(vs.any (V.mut σ.h)) then
    match aB σ.h vs with
    | some xz => match call f xz with
     | some r => if fl && !r.flat then none else some (dX r)
     | none => none
    | none => none
   else none
  else none
 | .mm isMax x y => match isInt (x.ev σ), isInt (y.ev σ) with
  | some (k, a), some (k', b) => if k = k' then some (ae k (if isMax then (if a < b then b else a) else (if b < a then b else a))) else none
  | _, _ => none
 | .callV x args => match x.ev σ with
  | .one (.fn k caps) => match aB σ.h (args.map (Opd.ev σ)) with
   | some xz => match call k (xz ++ caps.map qL) with
    | some r => if r.flat then some (dX r) else none
    | none => none
   | none => none
  | _ => none
 | .s2b x => match isStr (x.ev σ) with
  | some s => some (bJ (aU s))
  | none => none
 | .eqS neg ks x y => match x.ev σ, y.ev σ with
  | .agg ls, .agg ls' => match kF ks ls ls' with
   | some b => some (aj (if neg then !b else b))
   | none => none
  | _, _ => none
 | .mget x k => match x.ev σ, k.ev σ with
  | .one (.mp o), .one (.pv (.int .i64 n)) => match σ.h[o]? with
   | some (.imap kvs) => if Nd n then some (ae .i64 (vV kvs n)) else none
   | _ => none
  | _, _ => none
 | .loadB g n a => if bG σ.h (a.ev σ) then bz σ.h g n (a.ev σ) else none
 | .loadA g n a => if bG σ.h (a.ev σ) then none else bz σ.h g n (a.ev σ)
 | .slcF z x lo hi => match x.ev σ with
  | .one (.pv (.lst es)) => match bA σ 0 lo, bA σ (es.length : Int) hi with
   | some l, some r => if 0 ≤ l ∧ l ≤ r ∧ r ≤ es.length ∧ es.all (fun e => e.length == z) = true then some (bJ ((es.drop l.toNat).take (r.toNat - l.toNat))) else none
   | _, _ => none
  | _ => none
 | .buildF z parts => match cd (parts.map (Opd.ev σ)) with
  | some es => if 0 < es.length ∧ es.all (fun e => e.length == z) = true ∧ 0 < z ∧ es.length * z ≤ 16777216 then some (bJ es) else none
  | none => none
 | _ => none
def aZ (h : List AObj) : List V → Option (List (List PV))
 | [] => some []
 | v :: vs => match viewL h v.cells, aZ h vs with
  | some p, some ps => some (p :: ps)
  | _, _ => none
def dN (call : Nat → List V → Option V) (σ : St) : AOp → Option (V × List AObj)
 | .alloc zero => some (.one (.ptr σ.h.length 0 0), σ.h ++ [.box zero])
 | .box x => if (x.ev σ).cells.all plain then some (.one (.ptr σ.h.length 0 0), σ.h ++ [.box (x.ev σ).cells]) else none
 | .buildS z parts =>
  let vs := parts.map (Opd.ev σ)
  if vs.all (fun v => v.cells.length == z) && decide (0 < z) && decide (vs.length * z ≤ 16777216) then
   match aZ σ.h vs with
   | some es => some (.one (.arr (freezeVs σ.h vs).length), freezeVs σ.h vs ++ [.arr z es])
   | none => none
  else none
 | .store n a v => match bS σ.h n (a.ev σ) (v.ev σ) with
  | some h => some (.tup [], h)
  | none => none
 | .storeB n a v => if bG σ.h (a.ev σ) then (match bS σ.h n (a.ev σ) (v.ev σ) with
  | some h => some (.tup [], h)
  | none => none) else none
 | .allocT n => some (.one (.tp n), σ.h ++ [.tbox n])
 | .storeT n a v => match a.ev σ with
  | .one (.tp m) => if m = n ∧ (v.ev σ).cells.length = n ∧ (v.ev σ).cells.all plain = true then some (.tup [], σ.h) else none
  | _ => none
 | .make bytes zero n => match isInt (n.ev σ) with
  | some (_, m) => if 0 ≤ m ∧ m * bytes ≤ 140737488355328 ∧ m ≤ 9223372036854775807 ∧ 0 < zero.length then some (.one (.arr σ.h.length), σ.h ++ [.arr zero.length (List.replicate m.toNat zero)]) else none
  | none => none
 | .append z bytes x y => match x.ev σ, asList σ.h (y.ev σ) with
  | .one .nil, some ys => if ys.all (fun e => e.length == z) && decide (0 < z) && decide (ys.length * bytes ≤ 140737488355328) && decide (ys.length ≤ 9223372036854775807)
   then some (.one (.arr σ.h.length), σ.h ++ [.arr z ys]) else none
  | .one (.arr o), some ys => match σ.h[o]? with
   | some (.arr z' es) => if z' = z ∧ ys.all (fun e => e.length == z) = true ∧ (es.length + ys.length) * bytes ≤ 140737488355328 ∧ es.length + ys.length ≤ 9223372036854775807 ∧ (y.ev σ).cells.all (L.notArr o) = true
    then some (.one (.arr σ.h.length), σ.h.set o .dead ++ [.arr z (es ++ ys)]) else none
   | _ => none
  | _, _ => none
 | .appendS bytes x y => match x.ev σ, isStr (y.ev σ) with
  | .one .nil, some s => if s.length * bytes ≤ 140737488355328 ∧ s.length ≤ 9223372036854775807 then some (.one (.arr σ.h.length), σ.h ++ [.arr 1 (aU s)]) else none
  | .one (.arr o), some s => match σ.h[o]? with
   | some (.arr z' es) => if z' = 1 ∧ (es.length + s.length) * bytes ≤ 140737488355328 ∧ es.length + s.length ≤ 9223372036854775807
    then some (.one (.arr σ.h.length), σ.h.set o .dead ++ [.arr 1 (es ++ aU s)]) else none
   | _ => none
  | _, _ => none
 | .slcL z x lo hi => match asList σ.h (x.ev σ) with
  | some es => match bA σ 0 lo, bA σ (es.length : Int) hi with
   | some l, some r => if 0 ≤ l ∧ l ≤ r ∧ r ≤ es.length ∧ es.all (fun e => e.length == z) = true then some (bJ ((es.drop l.toNat).take (r.toNat - l.toNat)), freezeLs σ.h (x.ev σ).cells) else none
   | _, _ => none
  | none => none
 | .callD f args =>
  let vs := args.map (Opd.ev σ)
  match aB σ.h vs with
  | some xz => match call f xz with
   | some r => some (dX r, freezeVs σ.h vs)
   | none => none
  | none => none
 | .mkmap => some (.one (.mp σ.h.length), σ.h ++ [.imap []])
 | .mset x k v => match x.ev σ, k.ev σ, v.ev σ with
  | .one (.mp o), .one (.pv (.int .i64 n)), .one (.pv (.int .i64 m)) => match σ.h[o]? with
   | some (.imap kvs) => if Nd n ∧ Nd m ∧ kvs.length < 9223372036854775806 then some (.tup [], σ.h.set o (.imap ((n, m) :: kvs))) else none
   | _ => none
  | _, _, _ => none
 | .insert _ z bytes x i v => match x.ev σ, isInt (i.ev σ), v.ev σ with
  | .one .nil, some (.i64, n), .one (.arr o2) => match σ.h[o2]? with
   | some (.arr z2 vs) => if z2 = z ∧ 0 < vs.length ∧ n = 0 ∧ vs.length * bytes ≤ 140737488355328 ∧ vs.length ≤ 9223372036854775807
    then some (.one (.arr σ.h.length), σ.h ++ [.arr z vs]) else none
   | _ => none
  | .one (.arr o), some (.i64, n), .one (.arr o2) => match σ.h[o]?, σ.h[o2]? with
   | some (.arr z1 es), some (.arr z2 vs) => if z1 = z ∧ z2 = z ∧ o ≠ o2 ∧ 0 < vs.length ∧ 0 ≤ n ∧ n ≤ es.length ∧ (es.length + vs.length) * bytes ≤ 140737488355328 ∧ es.length + vs.length ≤ 9223372036854775807
    then some (.one (.arr σ.h.length), σ.h.set o .dead ++ [.arr z (es.take n.toNat ++ vs ++ es.drop n.toNat)]) else none
   | _, _ => none
  | _, _, _ => none
 | .mkfn k caps => match kT σ.h (caps.map (Opd.ev σ)) with
  | some (cs, h) => some (.one (.fn k cs), h)
  | none => none
 | .call f args false false =>
  let vs := args.map (Opd.ev σ)
  match aB σ.h vs with
  | some xz => match call f xz with
   | some r => some (thaw (freezeVs σ.h vs) r)
   | none => none
  | none => none
 | _ => none
def put (t : List V) (d : Option Nat) (v : V) : List V :=
 match d with
 | some d => t.set d v
 | none => t
def bt (σ : St) : Option (Nat × Bool) → Option Bool
 | none => some true
 | some (g, w) => match σ.t.getD g (.tup []) with
  | .one (.pv (.bool b)) => some (b == w)
  | .tup [] => some false
  | _ => none
def bg (call : Nat → List V → Option V) (o : AOper) (σ : St) : Option St :=
 match bt σ o.guard with
 | some true => match cF call σ o.op with
  | some v => some ⟨put σ.t o.dst v, σ.h⟩
  | none => match dN call σ o.op with
   | some (v, h) => some ⟨put σ.t o.dst v, h⟩
   | none => none
 | some false => some ⟨put σ.t o.dst (.tup []), σ.h⟩
 | none => none
def am (call : Nat → List V → Option V) : List AOper → St → Option St
 | [], σ => some σ
 | o :: r, σ => match bg call o σ with
  | some σ' => am call r σ'
  | none => none
def gE : Nat → (St → Option (Ex × St)) → St → Option (Ex × St)
 | 0, _, _ => none
 | n + 1, f, σ => match f σ with
  | some (.normal, σ') => gE n f σ'
  | r => r
def aq (call : Nat → List V → Option V) (lp : (St → Option (Ex × St)) → St → Option (Ex × St)) : ACode → St → Option (Ex × St)
 | .skip, σ => some (.normal, σ)
 | .region ops, σ => match am call ops σ with
  | some σ' => some (.normal, σ')
  | none => none
 | .seq a b, σ => match aq call lp a σ with
  | some (.normal, σ') => aq call lp b σ'
  | r => r
 | .cond c a b, σ => match isBool (c.ev σ) with
  | some t => if t then aq call lp a σ else aq call lp b σ
  | none => none
 | .block id c, σ => match aq call lp c σ with
  | some (.exit i, σ') => if i = id then some (.normal, σ') else some (.exit i, σ')
  | r => r
 | .loop c, σ => lp (aq call lp c) σ
 | .exit id, σ => some (.exit id, σ)
 | .ret, σ => some (.ret, σ)
def bZ (h : List AObj) : L → Option L
 | .pv p => some (.pv p)
 | .nil => some .nil
 | .arr o => match h[o]? with
  | some (.arr z es) => some (.own z es)
  | some (.froz _ es) => some (.pv (.lst es))
  | _ => none
 | _ => none
def bq (h : List AObj) : List L → Option (List L)
 | [] => some []
 | l :: ls => match bZ h l, bq h ls with
  | some x, some xs => some (x :: xs)
  | _, _ => none
def a8 (ls : List L) : List Nat := ls.filterMap fun | .arr o => some o | _ => none
def aT (σ : St) : ARes → Option V
 | .tmp t => some (σ.t.getD t (.tup []))
 | .cell t n => bz σ.h true n (σ.t.getD t (.tup []))
def aC (σ : St) : List ARes → Option (List V)
 | [] => some []
 | r :: rs => match aT σ r, aC σ rs with
  | some x, some xs => some (x :: xs)
  | _, _ => none
def comp (h : List AObj) : V → Option (Bool × List L)
 | .one l => match bq h [l] with
  | some xs => some (false, xs)
  | none => none
 | .agg ls => match bq h ls with
  | some xs => some (true, xs)
  | none => none
 | .tup _ => none
def cj (h : List AObj) : List V → Option (List (Bool × List L))
 | [] => some []
 | v :: vs => match comp h v, cj h vs with
  | some x, some xs => some (x :: xs)
  | _, _ => none
def bC (σ : St) (rs : List ARes) : Option V :=
 match aC σ rs with
 | none => none
 | some vs =>
  if (a8 (vs.flatMap V.cells)).Nodup then
   match cj σ.h vs with
   | some [(true, ls)] => some (.agg ls)
   | some [(false, [l])] => some (.one l)
   | some xs => if xs.length = 1 then none else some (.tup xs)
   | none => none
  else none
def bW (fn : AFn) (args : List V) : St := ⟨args ++ List.replicate (fn.ntmps - args.length) (.tup []), []⟩
def done (fn : AFn) : Option (Ex × St) → Option V
 | some (.normal, σ) => bC σ fn.results
 | some (.ret, σ) => bC σ fn.results
 | _ => none
def run (Φ : Nat → Option AFn) (ext : Nat → List V → Option V) : Nat → Nat → List V → Option V
 | 0, _, _ => none
 | n + 1, k, args => match Φ k with
  | none => ext k args
  | some fn => done fn (aq (run Φ ext n) (gE n) fn.body (bW fn args))
end Gi
namespace Gi
open Go
class KF where
 kf : FuncId → Option Nat
 pr : Program
abbrev kf [KF] : FuncId → Option Nat := KF.kf
variable {KI : KF}
mutual
def aV (M : Nat → Prop) (w : World) : PV → Value → Prop
 | .int k n, v => v = .int k n
 | .bool b, v => v = .bool b
 | .str s, v => v = .string ⟨s.toArray⟩
 | .lst es, v => (es = [] ∧ ∃ a c, v = .slice a 0 c) ∨
  ∃ b o c z, v = .slice (some ⟨b, o, none⟩) es.length c ∧ ¬ M b ∧ b < w.heap.size ∧ ep M w z es b o ∧ es.length ≤ c
def fQ (M : Nat → Prop) (w : World) : List PV → Nat → Nat → Prop
 | [], _, _ => True
 | p :: ps, b, o => (∃ v, w.cell? ⟨b, o, none⟩ = some v ∧ aV M w p v) ∧ fQ M w ps b (o + 1)
def ep (M : Nat → Prop) (w : World) (z : Nat) : List (List PV) → Nat → Nat → Prop
 | [], _, _ => True
 | e :: es, b, o => e.length = z ∧ fQ M w e b o ∧ ep M w z es b (o + z)
end
theorem aV.one {M : Nat → Prop} {w : World} {p : PV} {v : Value} (h : aV M w p v) : v.oneCell' = true := by
 cases p with
 | int k n => simp only [aV] at h; subst h; rfl
 | bool b => simp only [aV] at h; subst h; rfl
 | str s => simp only [aV] at h; subst h; rfl
 | lst es =>
  simp only [aV] at h
  rcases h with ⟨_, a, c, rfl⟩ | ⟨b, o, c, z, rfl, _⟩ <;> rfl
structure Go' (M M' : Nat → Prop) (w w' : World) : Prop where
 size : w.heap.size ≤ w'.heap.size
 cls : ∀ b, b < w.heap.size → M' b → M b
 block : ∀ b, b < w.heap.size → ¬ M b → w'.heap[b]? = w.heap[b]?
theorem Go'.cell {M M' : Nat → Prop} {w w' : World} (h : Go' M M' w w') {b o : Nat} {v : Value} (hb : ¬ M b) (hlt : b < w.heap.size) (hc : w.cell? ⟨b, o, none⟩ = some v) : w'.cell? ⟨b, o, none⟩ = some v := by
 unfold World.cell? at *
 rw [h.block b hlt hb]
 exact hc
mutual
theorem aV.go {M M' : Nat → Prop} {w w' : World} (h : Go' M M' w w') : ∀ (p : PV) (v : Value), aV M w p v → aV M' w' p v
 | .int _ _, _, r => by simpa only [aV] using r
 | .bool _, _, r => by simpa only [aV] using r
 | .str _, _, r => by simpa only [aV] using r
 | .lst es, v, r => by
  simp only [aV] at r ⊢
  rcases r with r | ⟨b, o, c, z, e, hb, hlt, r, hcap⟩
  ·exact .inl r
  ·exact .inr ⟨b, o, c, z, e, fun k => hb (h.cls b hlt k), Nat.lt_of_lt_of_le hlt h.size, ep.go h z es b o hb hlt r, hcap⟩
theorem fQ.go {M M' : Nat → Prop} {w w' : World} (h : Go' M M' w w') : ∀ (ps : List PV) (b o : Nat), ¬ M b → b < w.heap.size → fQ M w ps b o → fQ M' w' ps b o
 | [], _, _, _, _, _ => by simp only [fQ]
 | p :: ps, b, o, hb, hlt, r => by
  simp only [fQ] at r ⊢
  obtain ⟨⟨v, hc, hv⟩, r⟩ := r
  exact ⟨⟨v, h.cell hb hlt hc, aV.go h p v hv⟩, fQ.go h ps b (o + 1) hb hlt r⟩
theorem ep.go {M M' : Nat → Prop} {w w' : World} (h : Go' M M' w w') (z : Nat) : ∀ (es : List (List PV)) (b o : Nat), ¬ M b → b < w.heap.size → ep M w z es b o → ep M' w' z es b o
 | [], _, _, _, _, _ => by simp only [ep]
 | e :: es, b, o, hb, hlt, r => by
  simp only [ep] at r ⊢
  exact ⟨r.1, fQ.go h e b o hb hlt r.2.1, ep.go h z es b (o + z) hb hlt r.2.2⟩
end
theorem fQ.at {M : Nat → Prop} {w : World} : ∀ {ps : List PV} {b o j : Nat} {p : PV}, fQ M w ps b o → ps[j]? = some p → ∃ v, w.cell? ⟨b, o + j, none⟩ = some v ∧ aV M w p v
 | [], _, _, _, _, _, hp => by simp at hp
 | q :: ps, b, o, 0, p, h, hp => by
  simp only [fQ] at h
  simp at hp; subst hp
  simpa using h.1
 | q :: ps, b, o, j + 1, p, h, hp => by
  simp only [fQ] at h
  have := fQ.at h.2 (j := j) (p := p) (by simpa using hp)
  rwa [show o + 1 + j = o + (j + 1) by omega] at this
theorem fQ.of {M : Nat → Prop} {w : World} : ∀ {ps : List PV} {b o : Nat}, (∀ (j : Nat) (p : PV), ps[j]? = some p → ∃ v, w.cell? ⟨b, o + j, none⟩ = some v ∧ aV M w p v) → fQ M w ps b o
 | [], _, _, _ => by simp only [fQ]
 | p :: ps, b, o, h => by
  simp only [fQ]
  refine ⟨by simpa using h 0 p rfl, fQ.of fun j q hq => ?_⟩
  have := h (j + 1) q (by simpa using hq)
  rwa [show o + (j + 1) = o + 1 + j by omega] at this
theorem ep.at {M : Nat → Prop} {w : World} {z : Nat} : ∀ {es : List (List PV)} {b o i : Nat} {e : List PV}, ep M w z es b o → es[i]? = some e → e.length = z ∧ fQ M w e b (o + i * z)
 | [], _, _, _, _, _, he => by simp at he
 | q :: es, b, o, 0, e, h, he => by
  simp only [ep] at h
  simp at he; subst he
  simpa using ⟨h.1, h.2.1⟩
 | q :: es, b, o, i + 1, e, h, he => by
  simp only [ep] at h
  have := ep.at h.2.2 (i := i) (e := e) (by simpa using he)
  rwa [show o + z + i * z = o + (i + 1) * z by rw [Nat.add_mul, Nat.one_mul]; omega] at this
theorem ep.of {M : Nat → Prop} {w : World} {z : Nat} : ∀ {es : List (List PV)} {b o : Nat}, (∀ (i : Nat) (e : List PV), es[i]? = some e → e.length = z ∧ fQ M w e b (o + i * z)) → ep M w z es b o
 | [], _, _, _ => by simp only [ep]
 | e :: es, b, o, h => by
  simp only [ep]
  have h0 := h 0 e rfl
  refine ⟨h0.1, by simpa using h0.2, ep.of fun i q hq => ?_⟩
  have := h (i + 1) q (by simpa using hq)
  rwa [show o + (i + 1) * z = o + z + i * z by rw [Nat.add_mul, Nat.one_mul]; omega] at this
def jS (w : World) (b : Nat) (cur : Array Value) : Prop := ∃ T, w.heap[b]? = some (.cells cur T (0, 0))
theorem jS.lt {w : World} {b : Nat} {cur : Array Value} (h : jS w b cur) : b < w.heap.size := by
 obtain ⟨T, h⟩ := h
 exact (Array.getElem?_eq_some_iff.1 h).1
theorem jS.cell {w : World} {b : Nat} {cur : Array Value} (h : jS w b cur) (i : Nat) : w.cell? ⟨b, i, none⟩ = cur[i]? := by
 obtain ⟨T, h⟩ := h
 simp [World.cell?, h]
theorem jS.free {w : World} {b : Nat} {cur : Array Value} (h : jS w b cur) (i : Nat) : w.frozen? ⟨b, i, none⟩ = false := by
 obtain ⟨T, h⟩ := h
 simp [World.frozen?, h]
theorem jS.inj {w : World} {b : Nat} {c d : Array Value} (h : jS w b c) (k : jS w b d) : c = d := by
 obtain ⟨T, h⟩ := h
 obtain ⟨U, k⟩ := k
 rw [h] at k
 cases k
 rfl
def AObj.z : AObj → Nat
 | .arr z _ => z
 | .froz z _ => z
 | _ => 0
def AObj.mut : AObj → Bool
 | .box _ => true
 | .imap _ => true
 | .tbox _ => true
 | .arr _ _ => true
 | _ => false
def sL (w : World) (ob : AObj) (r : Option Nat) (v : Value) : Prop :=
 match ob with
 | .arr z es => match r with
  | none => v = .slice none 0 0
  | some b => ∃ cur cap, jS w b cur ∧ cur.size = cap * z ∧ es.length ≤ cap ∧ cap ≤ maxLen ∧ v = .slice (some ⟨b, 0, none⟩) es.length cap
 | .froz z es => match r with
  | none => v = .slice none 0 0
  | some b => ∃ cur cap, jS w b cur ∧ cur.size = cap * z ∧ es.length ≤ cap ∧ cap ≤ maxLen ∧ v = .slice (some ⟨b, 0, none⟩) es.length cap
 | _ => v.oneCell' = true
def zC (ob : AObj) (r : Option Nat) (i j : Nat) (v : Value) : Prop :=
 match ob with
 | .dead => ∃ b o, v = .pointer (some ⟨b, o, none⟩)
 | ob => ∃ b, r = some b ∧ v = .pointer (some ⟨b, i * ob.z + j, none⟩)
def pD (P : Program) (t : TypeId) : Option (TypeId × TypeId) :=
 match P.underlying t with
 | some (.map k e) => match P.underlying k, P.underlying e with
  | some (.int .i64), some (.int .i64) => some (k, e)
  | _, _ => none
 | _ => none
def Ml (P : Program) : Option TypeId := (List.range P.types.size).find? fun t => (pD P t).isSome
theorem ve {P : Program} {t k e : TypeId} (h : pD P t = some (k, e)) : P.underlying t = some (.map k e) ∧ P.underlying k = some (.int .i64) ∧ P.underlying e = some (.int .i64) := by
 unfold pD at h
 split at h
 ·rename_i k' e' h1
  split at h
  ·rename_i h2 h3
   cases h
   exact ⟨h1, h2, h3⟩
  ·cases h
 ·cases h
theorem Fy {n : Int} (h : Nd n = true) : (Lit.int .i64 n).wf = true := by
 simp only [Nd, Bool.and_eq_true, decide_eq_true_eq] at h
 simp [Lit.wf, IntKind.min, IntKind.max, IntKind.signed, IntKind.bits]
 omega
def JS [KF] (w : World) (b : Nat) (kvs : List (Int × Int)) : Prop :=
 ∃ t k e, ∃ D : DataW Unit, Ml KF.pr = some t ∧ pD KF.pr t = some (k, e) ∧ w.ownsMap KF.pr k (plainElem KF.pr e) b kvs.length D ∧
  ∀ x, (Lit.int .i64 x).wf = true → D.atKey (.int .i64 x) (.lit (.int .i64 0)) = .lit (.int .i64 (vV kvs x))
theorem JS.go {w w' : World} {b : Nat} {kvs : List (Int × Int)} (h : JS w b kvs) (e : w'.heap[b]? = w.heap[b]?) : JS w' b kvs := by
 obtain ⟨t, k, el, D, h1, h2, ⟨es, clock, hb, F, hs, hD⟩, h4⟩ := h
 exact ⟨t, k, el, D, h1, h2, ⟨es, clock, e.trans hb, F, hs, hD⟩, h4⟩
theorem JS.lt {w : World} {b : Nat} {kvs : List (Int × Int)} (h : JS w b kvs) : b < w.heap.size := by
 obtain ⟨t, k, el, D, h1, h2, h3, h4⟩ := h
 exact h3.lt
def wq (M : Nat → Prop) (w : World) (e : List PV) (v : Value) : Prop := ∃ b o, v = .pointer (some ⟨b, o, none⟩) ∧ ¬ M b ∧ b < w.heap.size ∧ fQ M w e b o
theorem wq.go {M M' : Nat → Prop} {w w' : World} (h : Go' M M' w w') {e : List PV} {v : Value} (r : wq M w e v) : wq M' w' e v := by
 obtain ⟨b, o, rfl, hb, hlt, hr⟩ := r
 exact ⟨b, o, rfl, fun k => hb (h.cls b hlt k), Nat.lt_of_lt_of_le hlt h.size, fQ.go h e b o hb hlt hr⟩
def LR [KF] (M : Nat → Prop) (w : World) (ρ : List (Option Nat)) (h : List AObj) : L → Value → Prop
 | .pv p, v => aV M w p v
 | .ptr o i j, v => ∃ r ob, ρ[o]? = some r ∧ h[o]? = some ob ∧ zC ob r i j v
 | .ip e j, v => ∃ b o, v = .pointer (some ⟨b, o + j, none⟩) ∧ ¬ M b ∧ b < w.heap.size ∧ fQ M w e b o
 | .arr o, v => ∃ r ob, ρ[o]? = some r ∧ h[o]? = some ob ∧ sL w ob r v
 | .nil, v => v = .slice none 0 0
 | .own _ _, _ => False
 | .fn k caps, v => ∃ f cs, v = .func (.func f) #[] cs ∧ kf f = some k ∧ caps.length = cs.size ∧ ∀ (i : Nat) (e : List PV) (u : Value), caps[i]? = some e → cs[i]? = some u → wq M w e u
 | .mp o, v => ∃ b kvs, ρ[o]? = some (some b) ∧ h[o]? = some (.imap kvs) ∧ v = .map (some b)
 | .tp n, v => ∃ (o b : Nat), ρ[o]? = some (some b) ∧ h[o]? = some (AObj.tbox n) ∧ v = .pointer (some ⟨b, 0, none⟩)
 | .junk, v => v.oneCell' = true
def uW [KF] (M : Nat → Prop) (w : World) (ρ : List (Option Nat)) (h : List AObj) (ls : List L) (vs : List Value) : Prop :=
 ls.length = vs.length ∧ ∀ (i : Nat) (l : L) (v : Value), ls[i]? = some l → vs[i]? = some v → LR M w ρ h l v
def VR [KF] (M : Nat → Prop) (w : World) (ρ : List (Option Nat)) (h : List AObj) : V → Value → Prop
 | .one l, v => LR M w ρ h l v
 | .agg ls, v => ∃ cs, v = .agg cs ∧ uW M w ρ h ls cs.toList
 | .tup xs, v => ∃ vs, v = .tuple vs ∧ xs.length = vs.size ∧ ∀ (i : Nat) (x : Bool × List L) (u : Value), xs[i]? = some x → vs[i]? = some u →
  match x with
  | (true, ls) => ∃ cs, u = .agg cs ∧ uW M w ρ h ls cs.toList
  | (false, [l]) => LR M w ρ h l u
  | _ => False
def Lq [KF] (M : Nat → Prop) (base : Nat) (w : World) (ρ : List (Option Nat)) (h : List AObj) (r : Option Nat) : AObj → Prop
 | .box cs => ∃ b cur, r = some b ∧ base ≤ b ∧ jS w b cur ∧ uW M w ρ h cs cur.toList
 | .arr z es => 0 < z ∧ (∀ e ∈ es, e.length = z) ∧ match r with
  | none => es = []
  | some b => base ≤ b ∧ ∃ cur cap, jS w b cur ∧ cur.size = cap * z ∧ es.length ≤ cap ∧ cap ≤ maxLen ∧
   ∀ (i : Nat) (e : List PV) (j : Nat) (p : PV), es[i]? = some e → e[j]? = some p → ∃ v, cur[i * z + j]? = some v ∧ aV M w p v
 | .froz z es => 0 < z ∧ (∀ e ∈ es, e.length = z) ∧ match r with
  | none => es = []
  | some b => ¬ M b ∧ ∃ cur cap, jS w b cur ∧ cur.size = cap * z ∧ es.length ≤ cap ∧ cap ≤ maxLen ∧
   ∀ (i : Nat) (e : List PV) (j : Nat) (p : PV), es[i]? = some e → e[j]? = some p → ∃ v, cur[i * z + j]? = some v ∧ aV M w p v
 | .fbox ps => ∃ b cur, r = some b ∧ ¬ M b ∧ jS w b cur ∧ ps.length = cur.size ∧ ∀ (j : Nat) (p : PV), ps[j]? = some p → ∃ v, cur[j]? = some v ∧ aV M w p v
 | .imap kvs => ∃ b, r = some b ∧ base ≤ b ∧ JS w b kvs
 | .tbox n => ∃ b cur, r = some b ∧ base ≤ b ∧ jS w b cur ∧ cur.size = n
 | .dead => True
def Mu (M0 : Nat → Prop) (ρ : List (Option Nat)) (h : List AObj) (b : Nat) : Prop :=
 M0 b ∨ ∃ (o : Nat) (ob : AObj), h[o]? = some ob ∧ ob.mut = true ∧ ρ[o]? = some (some b)
structure HR [KF] (M0 : Nat → Prop) (base : Nat) (w : World) (ρ : List (Option Nat)) (h : List AObj) : Prop where
 len : ρ.length = h.length
 old : ∀ b, M0 b → b < base
 le : base ≤ w.heap.size
 objs : ∀ (o : Nat) (ob : AObj) (r : Option Nat), h[o]? = some ob → ρ[o]? = some r → Lq (Mu M0 ρ h) base w ρ h r ob
 apart : ∀ (o o' : Nat) (ob ob' : AObj) (b : Nat), h[o]? = some ob → h[o']? = some ob' → ob.mut = true → ob'.mut = true → ρ[o]? = some (some b) → ρ[o']? = some (some b) → o = o'
structure FR [KF] (M : Nat → Prop) (w : World) (ρ : List (Option Nat)) (h : List AObj) (t : List V) (a : Act) : Prop where
 defers : a.defers = []
 size : a.tmps.size = t.length
 tmps : ∀ (i : Nat) (v : V) (u : Value), t[i]? = some v → a.tmps[i]? = some u → VR M w ρ h v u
structure Ctx where
 G : World → Prop
 B0 : Nat
 keep : ∀ w w', G w → Go.RowKit.Below B0 w w' → G w'
 size : ∀ w, G w → B0 ≤ w.heap.size
structure SR [KF] (Γ : Ctx) (M0 : Nat → Prop) (base : Nat) (σ : St) (a : Act) (w : World) (ρ : List (Option Nat)) : Prop where
 hr : HR M0 base w ρ σ.h
 fr : FR (Mu M0 ρ σ.h) w ρ σ.h σ.t a
 inv : Γ.G w
 b0 : Γ.B0 ≤ base
theorem LR.one {M : Nat → Prop} {w : World} {ρ : List (Option Nat)} {h : List AObj} {l : L} {v : Value} (r : LR M w ρ h l v) : v.oneCell' = true := by
 cases l with
 | pv p => exact aV.one r
 | ptr o i j =>
  obtain ⟨r, ob, _, _, hs⟩ := r
  unfold zC at hs
  split at hs
  ·obtain ⟨b, _, rfl⟩ := hs; rfl
  ·obtain ⟨b, _, rfl⟩ := hs; rfl
 | ip e j => obtain ⟨b, o, rfl, _⟩ := r; rfl
 | arr o =>
  obtain ⟨r, ob, _, _, hs⟩ := r
  unfold sL at hs
  split at hs
  ·split at hs
   ·subst hs; rfl
   ·obtain ⟨_, _, _, _, _, _, rfl⟩ := hs; rfl
  ·split at hs
   ·subst hs; rfl
   ·obtain ⟨_, _, _, _, _, _, rfl⟩ := hs; rfl
  ·exact hs
 | nil => simp only [LR] at r; subst r; rfl
 | own z es => exact r.elim
 | fn k caps => obtain ⟨f, cs, rfl, _⟩ := r; rfl
 | mp o => obtain ⟨b, kvs, _, _, rfl⟩ := r; rfl
 | tp n => obtain ⟨o, b, _, _, rfl⟩ := r; rfl
 | junk => exact r
def C8 : AObj → AObj → Prop
 | .imap _, .imap _ => True
 | .imap _, _ => False
 | .tbox n, .tbox m => n = m
 | .tbox _, _ => False
 | _, .dead => True
 | .box _, .box _ => True
 | .box _, .fbox _ => True
 | .fbox _, .fbox _ => True
 | .arr z es, .arr z' es' => z = z' ∧ es.length = es'.length
 | .arr z es, .froz z' es' => z = z' ∧ es.length = es'.length
 | .froz z es, .froz z' es' => z = z' ∧ es.length = es'.length
 | _, _ => False
theorem C8.refl (ob : AObj) : C8 ob ob := by cases ob <;> simp [C8]
theorem C8.trans {a b c : AObj} (h : C8 a b) (k : C8 b c) : C8 a c := by
 cases a <;> cases b <;> cases c <;> simp_all [C8]
structure Ch (M M' : Nat → Prop) (w w' : World) (ρ ρ' : List (Option Nat)) (h h' : List AObj) : Prop where
 go : Go' M M' w w'
 row : ∀ b cur, jS w b cur → ∃ cur', jS w' b cur' ∧ cur'.size = cur.size
 obj : ∀ (o : Nat) (r : Option Nat) (ob : AObj), ρ[o]? = some r → h[o]? = some ob → ∃ ob', ρ'[o]? = some r ∧ h'[o]? = some ob' ∧ C8 ob ob'
theorem Go'.refl (M : Nat → Prop) (w : World) : Go' M M w w := ⟨Nat.le_refl _, fun _ _ h => h, fun _ _ _ => rfl⟩
theorem Ch.refl (M : Nat → Prop) (w : World) (ρ : List (Option Nat)) (h : List AObj) : Ch M M w w ρ ρ h h :=
 ⟨Go'.refl M w, fun _ cur r => ⟨cur, r, rfl⟩, fun _ _ ob hr ho => ⟨ob, hr, ho, C8.refl ob⟩⟩
theorem Go'.trans {M M' M'' : Nat → Prop} {w w' w'' : World} (h : Go' M M' w w') (k : Go' M' M'' w' w'') : Go' M M'' w w'' :=
 ⟨Nat.le_trans h.size k.size, fun b hb hm => h.cls b hb (k.cls b (Nat.lt_of_lt_of_le hb h.size) hm),
  fun b hb hm => (k.block b (Nat.lt_of_lt_of_le hb h.size) (fun hm' => hm (h.cls b hb hm'))).trans (h.block b hb hm)⟩
theorem Ch.trans {M M' M'' : Nat → Prop} {w w' w'' : World} {ρ ρ' ρ'' : List (Option Nat)} {h h' h'' : List AObj} (c : Ch M M' w w' ρ ρ' h h') (d : Ch M' M'' w' w'' ρ' ρ'' h' h'') : Ch M M'' w w'' ρ ρ'' h h'' :=
 ⟨c.go.trans d.go, fun b cur r => by
  obtain ⟨c1, r1, e1⟩ := c.row b cur r
  obtain ⟨c2, r2, e2⟩ := d.row b c1 r1
  exact ⟨c2, r2, e2.trans e1⟩,
  fun o r ob hr ho => by
   obtain ⟨ob1, hr1, ho1, s1⟩ := c.obj o r ob hr ho
   obtain ⟨ob2, hr2, ho2, s2⟩ := d.obj o r ob1 hr1 ho1
   exact ⟨ob2, hr2, ho2, s1.trans s2⟩⟩
theorem sL.sim {M M' : Nat → Prop} {w w' : World} {ρ ρ' : List (Option Nat)} {h h' : List AObj} (c : Ch M M' w w' ρ ρ' h h') {ob ob' : AObj} {r : Option Nat} {v : Value} (s : C8 ob ob') (hv : sL w ob r v) (h1 : v.oneCell' = true) : sL w' ob' r v := by
 cases ob' with
 | dead => exact h1
 | box cs => cases ob <;> simp_all [C8, sL]
 | fbox ps => exact h1
 | imap kvs => exact h1
 | tbox n => exact h1
 | arr z es =>
  cases ob <;> simp only [C8] at s
  obtain ⟨rfl, e⟩ := s
  cases r with
  | none => simpa only [sL] using hv
  | some b =>
   obtain ⟨cur, cap, hr, hs, hl, hc, rfl⟩ := hv
   obtain ⟨cur', hr', hs'⟩ := c.row b cur hr
   exact ⟨cur', cap, hr', hs'.trans hs, e ▸ hl, hc, by rw [e]⟩
 | froz z es =>
  cases ob <;> simp only [C8] at s
  all_goals
   obtain ⟨rfl, e⟩ := s
   cases r with
   | none => simpa only [sL] using hv
   | some b =>
    obtain ⟨cur, cap, hr, hs, hl, hc, rfl⟩ := hv
    obtain ⟨cur', hr', hs'⟩ := c.row b cur hr
    exact ⟨cur', cap, hr', hs'.trans hs, e ▸ hl, hc, by rw [e]⟩
theorem zC.sim {ob ob' : AObj} {r : Option Nat} {i j : Nat} {v : Value} (s : C8 ob ob') (hv : zC ob r i j v) : zC ob' r i j v := by
 cases ob' <;> cases ob <;> simp_all [C8, zC, AObj.z]
 all_goals
  obtain ⟨b, _, rfl⟩ := hv
  exact ⟨_, _, rfl⟩
theorem LR.ch {M M' : Nat → Prop} {w w' : World} {ρ ρ' : List (Option Nat)} {h h' : List AObj} (c : Ch M M' w w' ρ ρ' h h') {l : L} {v : Value} (r : LR M w ρ h l v) : LR M' w' ρ' h' l v := by
 have h1 := r.one
 cases l with
 | pv p => exact aV.go c.go p v r
 | ptr o i j =>
  obtain ⟨r, ob, hr, ho, hs⟩ := r
  obtain ⟨ob', hr', ho', s⟩ := c.obj o r ob hr ho
  exact ⟨r, ob', hr', ho', hs.sim s⟩
 | ip e j =>
  obtain ⟨b, o, rfl, hb, hlt, hr⟩ := r
  exact ⟨b, o, rfl, fun k => hb (c.go.cls b hlt k), Nat.lt_of_lt_of_le hlt c.go.size, fQ.go c.go e b o hb hlt hr⟩
 | arr o =>
  obtain ⟨r, ob, hr, ho, hs⟩ := r
  obtain ⟨ob', hr', ho', s⟩ := c.obj o r ob hr ho
  exact ⟨r, ob', hr', ho', sL.sim c s hs h1⟩
 | nil => exact r
 | own z es => exact r
 | fn k caps =>
  obtain ⟨f, cs, rfl, hk, hl, hc⟩ := r
  exact ⟨f, cs, rfl, hk, hl, fun i e u he hu => (hc i e u he hu).go c.go⟩
 | mp o =>
  obtain ⟨b, kvs, hr, ho, rfl⟩ := r
  obtain ⟨ob', hr', ho', s⟩ := c.obj o _ _ hr ho
  cases ob' with
  | imap kvs' => exact ⟨b, kvs', hr', ho', rfl⟩
  | _ => exact s.elim
 | tp n =>
  obtain ⟨o, b, hr, ho, rfl⟩ := r
  obtain ⟨ob', hr', ho', s⟩ := c.obj o _ _ hr ho
  cases ob' with
  | tbox m => obtain rfl : n = m := s; exact ⟨o, b, hr', ho', rfl⟩
  | _ => exact s.elim
 | junk => exact r
theorem uW.ch {M M' : Nat → Prop} {w w' : World} {ρ ρ' : List (Option Nat)} {h h' : List AObj} (c : Ch M M' w w' ρ ρ' h h') {ls : List L} {vs : List Value} (r : uW M w ρ h ls vs) : uW M' w' ρ' h' ls vs :=
 ⟨r.1, fun i l v hl hv => (r.2 i l v hl hv).ch c⟩
theorem VR.ch {M M' : Nat → Prop} {w w' : World} {ρ ρ' : List (Option Nat)} {h h' : List AObj} (c : Ch M M' w w' ρ ρ' h h') {x : V} {v : Value} (r : VR M w ρ h x v) : VR M' w' ρ' h' x v := by
 cases x with
 | one l => exact LR.ch c r
 | agg ls => obtain ⟨cs, rfl, hl⟩ := r; exact ⟨cs, rfl, hl.ch c⟩
 | tup xs =>
  obtain ⟨vs, rfl, hl, hr⟩ := r
  refine ⟨vs, rfl, hl, fun i x u hx hu => ?_⟩
  have := hr i x u hx hu
  split at this
  ·obtain ⟨cs, rfl, hl⟩ := this; exact ⟨cs, rfl, hl.ch c⟩
  ·exact LR.ch c this
  ·exact this
theorem FR.ch {M M' : Nat → Prop} {w w' : World} {ρ ρ' : List (Option Nat)} {h h' : List AObj} (c : Ch M M' w w' ρ ρ' h h') {t : List V} {a : Act} (r : FR M w ρ h t a) : FR M' w' ρ' h' t a :=
 ⟨r.defers, r.size, fun i v u hv hu => (r.tmps i v u hv hu).ch c⟩
theorem FR.put {M : Nat → Prop} {w : World} {ρ : List (Option Nat)} {h : List AObj} {t : List V} {a : Act} (r : FR M w ρ h t a) (d : Option Nat) {x : V} {u : Value} (hx : VR M w ρ h x u) : FR M w ρ h (Gi.put t d x) (a.put d u) := by
 cases d with
 | none => exact r
 | some d =>
  refine ⟨r.defers, by simp [Gi.put, Act.put, r.size], fun i v u' hv hu => ?_⟩
  simp only [Gi.put, Act.put] at hv hu
  by_cases e : d = i
  ·subst e
   by_cases hd : d < t.length
   ·rw [List.getElem?_set_self hd] at hv
    rw [Array.getElem?_setIfInBounds_self_of_lt (by rw [r.size]; exact hd)] at hu
    cases hv; cases hu
    exact hx
   ·rw [List.getElem?_eq_none (by simp; omega)] at hv
    cases hv
  ·rw [List.getElem?_set_ne e] at hv
   rw [Array.getElem?_setIfInBounds_ne e] at hu
   exact r.tmps i v u' hv hu
theorem VR.undef {M : Nat → Prop} {w : World} {ρ : List (Option Nat)} {h : List AObj} : VR M w ρ h (.tup []) Go.undef := ⟨#[], rfl, rfl, fun i x u hx => by simp at hx⟩
theorem FR.eval {M : Nat → Prop} {w : World} {ρ : List (Option Nat)} {h : List AObj} {t : List V} {a : Act} (r : FR M w ρ h t a) (n : Nat) : VR M w ρ h (t.getD n (.tup [])) (a.eval (.tmp n)) := by
 by_cases hn : n < t.length
 ·have h1 : t[n]? = some (t.getD n (.tup [])) := by simp [List.getD, hn]
  have h2 : a.tmps[n]? = some (a.eval (.tmp n)) := by simp [Act.eval, r.size, hn]
  exact r.tmps n _ _ h1 h2
 ·have h1 : t.getD n (.tup []) = .tup [] := by simp [List.getD, List.getElem?_eq_none (Nat.le_of_not_lt hn)]
  have h2 : a.eval (.tmp n) = undef := by simp [Act.eval, r.size, hn]
  rw [h1, h2]
  exact VR.undef
end Gi
namespace Gi
open Go
variable {KI : KF}
theorem Lq.keep {M M' : Nat → Prop} {base : Nat} {w w' : World} {ρ ρ' : List (Option Nat)} {h h' : List AObj} {r : Option Nat} {ob : AObj}
 (k : Lq M base w ρ h r ob) (c : Ch M M' w w' ρ ρ' h h') (hb : ∀ b, r = some b → ob ≠ .dead → w'.heap[b]? = w.heap[b]?) : Lq M' base w' ρ' h' r ob := by
 have row : ∀ {b cur}, r = some b → ob ≠ .dead → jS w b cur → jS w' b cur := fun e hd ⟨T, hr⟩ => ⟨T, by rw [hb _ e hd]; exact hr⟩
 cases ob with
 | box cs =>
  obtain ⟨b, cur, rfl, hbase, hr, hl⟩ := k
  exact ⟨b, cur, rfl, hbase, row rfl (by simp) hr, hl.ch c⟩
 | arr z es =>
  obtain ⟨hz, hes, k⟩ := k
  refine ⟨hz, hes, ?_⟩
  cases r with
  | none => exact k
  | some b =>
   obtain ⟨hbase, cur, cap, hr, h1, h2, h3, h4⟩ := k
   refine ⟨hbase, cur, cap, row rfl (by simp) hr, h1, h2, h3, fun i e j p he hp => ?_⟩
   obtain ⟨v, hv, hr⟩ := h4 i e j p he hp
   exact ⟨v, hv, aV.go c.go p v hr⟩
 | froz z es =>
  obtain ⟨hz, hes, k⟩ := k
  refine ⟨hz, hes, ?_⟩
  cases r with
  | none => exact k
  | some b =>
   obtain ⟨hm, cur, cap, hr, h1, h2, h3, h4⟩ := k
   refine ⟨fun hm' => hm (c.go.cls b hr.lt hm'), cur, cap, row rfl (by simp) hr, h1, h2, h3, fun i e j p he hp => ?_⟩
   obtain ⟨v, hv, hr⟩ := h4 i e j p he hp
   exact ⟨v, hv, aV.go c.go p v hr⟩
 | fbox ps =>
  obtain ⟨b, cur, rfl, hm, hr, hl, h4⟩ := k
  refine ⟨b, cur, rfl, fun hm' => hm (c.go.cls b hr.lt hm'), row rfl (by simp) hr, hl, fun j p hp => ?_⟩
  obtain ⟨v, hv, hr⟩ := h4 j p hp
  exact ⟨v, hv, aV.go c.go p v hr⟩
 | imap kvs =>
  obtain ⟨b, rfl, hbase, hm⟩ := k
  exact ⟨b, rfl, hbase, hm.go (hb b rfl (by simp))⟩
 | tbox n =>
  obtain ⟨b, cur, rfl, hbase, hr, hn⟩ := k
  exact ⟨b, cur, rfl, hbase, row rfl (by simp) hr, hn⟩
 | dead => trivial
theorem Lq.lt {M : Nat → Prop} {base : Nat} {w : World} {ρ : List (Option Nat)} {h : List AObj} {b : Nat} {ob : AObj}
 (k : Lq M base w ρ h (some b) ob) (hd : ob ≠ .dead) : b < w.heap.size := by
 cases ob with
 | box cs => obtain ⟨b', cur, e, _, hr, _⟩ := k; cases e; exact hr.lt
 | arr z es => obtain ⟨_, _, _, cur, cap, hr, _⟩ := k; exact hr.lt
 | froz z es => obtain ⟨_, _, _, cur, cap, hr, _⟩ := k; exact hr.lt
 | fbox ps => obtain ⟨b', cur, e, _, hr, _⟩ := k; cases e; exact hr.lt
 | imap kvs => obtain ⟨b', e, _, hm⟩ := k; cases e; exact hm.lt
 | tbox n => obtain ⟨b', cur, e, _, hr, _⟩ := k; cases e; exact hr.lt
 | dead => exact absurd rfl hd
theorem Lq.base {M : Nat → Prop} {base : Nat} {w : World} {ρ : List (Option Nat)} {h : List AObj} {b : Nat} {ob : AObj}
 (k : Lq M base w ρ h (some b) ob) (hd : ob.mut = true) : base ≤ b := by
 cases ob with
 | box cs => obtain ⟨b', cur, e, hb, hr, _⟩ := k; cases e; exact hb
 | arr z es => obtain ⟨_, _, hb, _⟩ := k; exact hb
 | froz z es => cases hd
 | fbox ps => cases hd
 | imap kvs => obtain ⟨b', e, hb, _⟩ := k; cases e; exact hb
 | tbox n => obtain ⟨b', cur, e, hb, _⟩ := k; cases e; exact hb
 | dead => cases hd
theorem AObj.mut_live {ob : AObj} (h : ob.mut = true) : ob ≠ .dead := by rintro rfl; cases h
theorem HR.mem {M0 : Nat → Prop} {base : Nat} {w : World} {ρ : List (Option Nat)} {h : List AObj} (k : HR M0 base w ρ h) {o : Nat} {ob : AObj} (ho : h[o]? = some ob) : ∃ r, ρ[o]? = some r := by
 have : o < h.length := (List.getElem?_eq_some_iff.1 ho).1
 exact ⟨ρ[o]'(by rw [k.len]; exact this), by simp [k.len, this]⟩
theorem HR.world {M0 : Nat → Prop} {base : Nat} {w w' : World} {ρ : List (Option Nat)} {h : List AObj} (k : HR M0 base w ρ h)
 (hs : w.heap.size ≤ w'.heap.size) (hb : ∀ b, b < w.heap.size → w'.heap[b]? = w.heap[b]?) :
 HR M0 base w' ρ h ∧ Ch (Mu M0 ρ h) (Mu M0 ρ h) w w' ρ ρ h h := by
 have c : Ch (Mu M0 ρ h) (Mu M0 ρ h) w w' ρ ρ h h :=
  ⟨⟨hs, fun _ _ x => x, fun b hlt _ => hb b hlt⟩, fun b cur hr => ⟨cur, by obtain ⟨T, hr'⟩ := hr; exact ⟨T, by rw [hb b (jS.lt ⟨T, hr'⟩)]; exact hr'⟩, rfl⟩,
    fun o r ob h1 h2 => ⟨ob, h1, h2, C8.refl ob⟩⟩
 refine ⟨⟨k.len, k.old, Nat.le_trans k.le hs, fun o ob r ho hr => ?_, k.apart⟩, c⟩
 have := k.objs o ob r ho hr
 exact this.keep c (fun b e hd => hb b (by subst e; exact this.lt hd))
theorem HR.push {M0 : Nat → Prop} {base : Nat} {w w' : World} {ρ : List (Option Nat)} {h : List AObj} (k : HR M0 base w ρ h)
 (hs : w.heap.size ≤ w'.heap.size) (hb : ∀ b, b < w.heap.size → w'.heap[b]? = w.heap[b]?) (r : Option Nat) (ob : AObj) (hr : ∀ b, r = some b → w.heap.size ≤ b)
 (hob : Ch (Mu M0 ρ h) (Mu M0 (ρ ++ [r]) (h ++ [ob])) w w' ρ (ρ ++ [r]) h (h ++ [ob]) → Lq (Mu M0 (ρ ++ [r]) (h ++ [ob])) base w' (ρ ++ [r]) (h ++ [ob]) r ob) :
 HR M0 base w' (ρ ++ [r]) (h ++ [ob]) ∧ Ch (Mu M0 ρ h) (Mu M0 (ρ ++ [r]) (h ++ [ob])) w w' ρ (ρ ++ [r]) h (h ++ [ob]) := by
 have old : ∀ {o : Nat} {x : AObj}, (h ++ [ob])[o]? = some x → o < h.length → h[o]? = some x := fun e hlt => by rwa [List.getElem?_append_left hlt] at e
 have oldr : ∀ {o : Nat} {x : Option Nat}, (ρ ++ [r])[o]? = some x → o < h.length → ρ[o]? = some x := fun e hlt => by rwa [List.getElem?_append_left (by rw [k.len]; exact hlt)] at e
 have new : ∀ {o : Nat} {x : AObj}, (h ++ [ob])[o]? = some x → ¬ o < h.length → o = h.length ∧ x = ob := fun {o x} e hlt => by
  rw [List.getElem?_append_right (by omega)] at e
  have : o - h.length = 0 := by
   have := (List.getElem?_eq_some_iff.1 e).1
   simp at this; omega
  rw [this] at e
  simp at e
  exact ⟨by omega, e.symm⟩
 have newr : ∀ {x : Option Nat}, (ρ ++ [r])[h.length]? = some x → x = r := fun e => by
  rw [← k.len, List.getElem?_append_right (Nat.le_refl _)] at e
  simpa using e.symm
 have c : Ch (Mu M0 ρ h) (Mu M0 (ρ ++ [r]) (h ++ [ob])) w w' ρ (ρ ++ [r]) h (h ++ [ob]) := by
  refine ⟨⟨hs, fun b hlt hm => ?_, fun b hlt _ => hb b hlt⟩, fun b cur hr => ⟨cur, by obtain ⟨T, hr'⟩ := hr; exact ⟨T, by rw [hb b (jS.lt ⟨T, hr'⟩)]; exact hr'⟩, rfl⟩, fun o r' ob' h1 h2 => ?_⟩
  ·rcases hm with hm | ⟨o, x, ho, hmut, hro⟩
   ·exact .inl hm
   ·by_cases hlt' : o < h.length
    ·exact .inr ⟨o, x, old ho hlt', hmut, oldr hro hlt'⟩
    ·obtain ⟨rfl, rfl⟩ := new ho hlt'
     have := hr b (newr hro).symm
     omega
  ·have hlt : o < h.length := (List.getElem?_eq_some_iff.1 h2).1
   exact ⟨ob', by rw [List.getElem?_append_left (by rw [k.len]; exact hlt)]; exact h1, by rw [List.getElem?_append_left hlt]; exact h2, C8.refl _⟩
 refine ⟨⟨by simp [k.len], k.old, Nat.le_trans k.le hs, fun o x r' ho hr' => ?_, fun o o' x x' b h1 h2 m1 m2 r1 r2 => ?_⟩, c⟩
 ·by_cases hlt : o < h.length
  ·have := k.objs o x r' (old ho hlt) (oldr hr' hlt)
   exact this.keep c (fun b e hd => hb b (by subst e; exact this.lt hd))
  ·obtain ⟨rfl, rfl⟩ := new ho hlt
   rw [newr hr']
   exact hob c
 ·by_cases l1 : o < h.length <;> by_cases l2 : o' < h.length
  ·exact k.apart o o' x x' b (old h1 l1) (old h2 l2) m1 m2 (oldr r1 l1) (oldr r2 l2)
  ·obtain ⟨rfl, rfl⟩ := new h2 l2
   have hb1 := hr b (newr r2).symm
   have := (k.objs o x _ (old h1 l1) (oldr r1 l1)).lt (AObj.mut_live m1)
   omega
  ·obtain ⟨rfl, rfl⟩ := new h1 l1
   have hb1 := hr b (newr r1).symm
   have := (k.objs o' x' _ (old h2 l2) (oldr r2 l2)).lt (AObj.mut_live m2)
   omega
  ·exact (new h1 l1).1.trans (new h2 l2).1.symm
theorem HR.upd {M0 : Nat → Prop} {base : Nat} {w w' : World} {ρ : List (Option Nat)} {h : List AObj} (k : HR M0 base w ρ h) {o : Nat} {ob ob' : AObj} {r : Option Nat}
 (ho : h[o]? = some ob) (hr : ρ[o]? = some r) (hmut : ob.mut = true) (hsim : C8 ob ob')
 (hs : w.heap.size = w'.heap.size) (hb : ∀ b, r ≠ some b → w'.heap[b]? = w.heap[b]?)
 (hrow : ∀ b cur, r = some b → jS w b cur → ∃ cur', jS w' b cur' ∧ cur'.size = cur.size)
 (hob : Ch (Mu M0 ρ h) (Mu M0 ρ (h.set o ob')) w w' ρ ρ h (h.set o ob') → Lq (Mu M0 ρ (h.set o ob')) base w' ρ (h.set o ob') r ob') :
 HR M0 base w' ρ (h.set o ob') ∧ Ch (Mu M0 ρ h) (Mu M0 ρ (h.set o ob')) w w' ρ ρ h (h.set o ob') := by
 have hlt : o < h.length := (List.getElem?_eq_some_iff.1 ho).1
 have get : ∀ {i : Nat} {x : AObj}, (h.set o ob')[i]? = some x → (i = o ∧ x = ob') ∨ (i ≠ o ∧ h[i]? = some x) := fun {i x} e => by
  by_cases hi : o = i
  ·subst hi
   rw [List.getElem?_set_self hlt] at e
   cases e
   exact .inl ⟨rfl, rfl⟩
  ·rw [List.getElem?_set_ne hi] at e
   exact .inr ⟨fun e' => hi e'.symm, e⟩
 have mu : ∀ b, Mu M0 ρ (h.set o ob') b → Mu M0 ρ h b := fun b hm => by
  rcases hm with hm | ⟨i, x, hi, hx, hri⟩
  ·exact .inl hm
  ·rcases get hi with ⟨rfl, rfl⟩ | ⟨_, hi'⟩
   ·exact .inr ⟨_, ob, ho, hmut, hri⟩
   ·exact .inr ⟨i, x, hi', hx, hri⟩
 have inM : ∀ b, r = some b → Mu M0 ρ h b := fun b e => .inr ⟨o, ob, ho, hmut, by rw [hr, e]⟩
 have c : Ch (Mu M0 ρ h) (Mu M0 ρ (h.set o ob')) w w' ρ ρ h (h.set o ob') := by
  refine ⟨⟨by omega, fun b _ hm => mu b hm, fun b _ hm => hb b (fun e => hm (inM b e))⟩, fun b cur hrw => ?_, fun i r' x h1 h2 => ?_⟩
  ·by_cases e : r = some b
   ·exact hrow b cur e hrw
   ·obtain ⟨T, hr'⟩ := hrw
    exact ⟨cur, ⟨T, by rw [hb b e]; exact hr'⟩, rfl⟩
  ·by_cases hi : o = i
   ·subst hi
    rw [ho] at h2; cases h2
    exact ⟨ob', h1, List.getElem?_set_self hlt, hsim⟩
   ·exact ⟨x, h1, by rw [List.getElem?_set_ne hi]; exact h2, C8.refl x⟩
 refine ⟨⟨by simp [k.len], k.old, by rw [← hs]; exact k.le, fun i x r' hi hri => ?_, fun i i' x x' b h1 h2 m1 m2 r1 r2 => ?_⟩, c⟩
 ·rcases get hi with ⟨rfl, rfl⟩ | ⟨hne, hi'⟩
  ·rw [hr] at hri; cases hri
   exact hob c
  ·have kx := k.objs i x r' hi' hri
   refine kx.keep c (fun b e hd => hb b (fun e' => ?_))
   subst e
   by_cases hxm : x.mut = true
   ·exact hne (k.apart i o x ob b hi' ho hxm hmut hri (by rw [hr, e']))
   ·cases x with
    | box cs => exact hxm rfl
    | arr z es => exact hxm rfl
    | imap kvs => exact hxm rfl
    | tbox n => exact hxm rfl
    | froz z es => obtain ⟨_, _, hm, _⟩ := kx; exact hm (inM b e')
    | fbox ps => obtain ⟨b1, cur1, e1, hm, _⟩ := kx; cases e1; exact hm (inM b e')
    | dead => exact hd rfl
 ·have lift : ∀ {i : Nat} {x : AObj}, (h.set o ob')[i]? = some x → x.mut = true → ∃ y, h[i]? = some y ∧ y.mut = true := fun {i x} e m => by
   rcases get e with ⟨rfl, rfl⟩ | ⟨_, e'⟩
   ·exact ⟨ob, ho, hmut⟩
   ·exact ⟨x, e', m⟩
  obtain ⟨y, hy, my⟩ := lift h1 m1
  obtain ⟨y', hy', my'⟩ := lift h2 m2
  exact k.apart i i' y y' b hy hy' my my' r1 r2
theorem HR.freeze {M0 : Nat → Prop} {base : Nat} {w : World} {ρ : List (Option Nat)} {h : List AObj} (k : HR M0 base w ρ h) {o z : Nat} {es : List (List PV)}
 (ho : h[o]? = some (.arr z es)) : HR M0 base w ρ (h.set o (.froz z es)) ∧ Ch (Mu M0 ρ h) (Mu M0 ρ (h.set o (.froz z es))) w w ρ ρ h (h.set o (.froz z es)) := by
 have hlt : o < h.length := (List.getElem?_eq_some_iff.1 ho).1
 obtain ⟨r, hr⟩ := k.mem ho
 refine k.upd ho hr rfl ⟨rfl, rfl⟩ rfl (fun _ _ => rfl) (fun b cur _ hr => ⟨cur, hr, rfl⟩) (fun c => ?_)
 obtain ⟨hz, hes, kx⟩ := k.objs o _ r ho hr
 refine ⟨hz, hes, ?_⟩
 cases r with
 | none => exact kx
 | some b =>
  obtain ⟨hbase, cur, cap, hrw, h1, h2, h3, h4⟩ := kx
  refine ⟨fun hm => ?_, cur, cap, hrw, h1, h2, h3, fun i e j p he hp => ?_⟩
  ·rcases hm with hm | ⟨i, x, hi, hx, hri⟩
   ·have := k.old b hm; omega
   ·by_cases e : o = i
    ·subst e
     rw [List.getElem?_set_self hlt] at hi
     cases hi; cases hx
    ·rw [List.getElem?_set_ne e] at hi
     exact e (k.apart o i _ x b ho hi rfl hx hr hri)
  ·obtain ⟨v, hv, hrd⟩ := h4 i e j p he hp
   exact ⟨v, hv, aV.go c.go p v hrd⟩
theorem HR.fbox {M0 : Nat → Prop} {base : Nat} {w : World} {ρ : List (Option Nat)} {h : List AObj} (k : HR M0 base w ρ h) {o : Nat} {cs : List L} {ps : List PV}
 (ho : h[o]? = some (.box cs)) (hv : ∀ us, uW (Mu M0 ρ h) w ρ h cs us → ps.length = us.length ∧ ∀ (j : Nat) p, ps[j]? = some p → ∃ v, us[j]? = some v ∧ aV (Mu M0 ρ h) w p v) :
 HR M0 base w ρ (h.set o (.fbox ps)) ∧ Ch (Mu M0 ρ h) (Mu M0 ρ (h.set o (.fbox ps))) w w ρ ρ h (h.set o (.fbox ps)) := by
 have hlt : o < h.length := (List.getElem?_eq_some_iff.1 ho).1
 obtain ⟨r, hr⟩ := k.mem ho
 refine k.upd ho hr rfl trivial rfl (fun _ _ => rfl) (fun b cur _ hr => ⟨cur, hr, rfl⟩) (fun c => ?_)
 obtain ⟨b, cur, rfl, hbase, hrow, hls⟩ := k.objs o _ r ho hr
 obtain ⟨hl, hrd⟩ := hv _ hls
 refine ⟨b, cur, rfl, fun hm => ?_, hrow, by simpa using hl, fun j p hp => ?_⟩
 ·rcases hm with hm | ⟨i, x, hi, hx, hri⟩
  ·have := k.old b hm; omega
  ·by_cases e : o = i
   ·subst e
    rw [List.getElem?_set_self hlt] at hi
    cases hi; cases hx
   ·rw [List.getElem?_set_ne e] at hi
    exact e (k.apart o i _ x b ho hi rfl hx hr hri)
 ·obtain ⟨v, hv, hrd⟩ := hrd j p hp
  exact ⟨v, by simpa using hv, aV.go c.go p v hrd⟩
theorem HR.freezeL {M0 : Nat → Prop} {base : Nat} {w : World} {ρ : List (Option Nat)} {h : List AObj} (k : HR M0 base w ρ h) (l : L) :
 HR M0 base w ρ (freezeL h l) ∧ Ch (Mu M0 ρ h) (Mu M0 ρ (freezeL h l)) w w ρ ρ h (freezeL h l) := by
 cases l with
 | arr o =>
  simp only [Gi.freezeL]
  split
  ·rename_i z es ho
   exact k.freeze ho
  ·exact ⟨k, Ch.refl _ _ _ _⟩
 | _ => exact ⟨k, Ch.refl _ _ _ _⟩
theorem HR.freezeLs {M0 : Nat → Prop} {base : Nat} {w : World} {ρ : List (Option Nat)} : ∀ {h : List AObj} (_ : HR M0 base w ρ h) (ls : List L),
 HR M0 base w ρ (freezeLs h ls) ∧ Ch (Mu M0 ρ h) (Mu M0 ρ (freezeLs h ls)) w w ρ ρ h (freezeLs h ls)
 | _, k, [] => ⟨k, Ch.refl _ _ _ _⟩
 | h, k, l :: ls => by
  obtain ⟨k1, c1⟩ := k.freezeL l
  obtain ⟨k2, c2⟩ := HR.freezeLs k1 ls
  exact ⟨k2, c1.trans c2⟩
theorem HR.freezeVs {M0 : Nat → Prop} {base : Nat} {w : World} {ρ : List (Option Nat)} : ∀ {h : List AObj} (_ : HR M0 base w ρ h) (vs : List V),
 HR M0 base w ρ (freezeVs h vs) ∧ Ch (Mu M0 ρ h) (Mu M0 ρ (freezeVs h vs)) w w ρ ρ h (freezeVs h vs)
 | _, k, [] => ⟨k, Ch.refl _ _ _ _⟩
 | h, k, v :: vs => by
  obtain ⟨k1, c1⟩ := k.freezeLs v.cells
  obtain ⟨k2, c2⟩ := HR.freezeVs k1 vs
  exact ⟨k2, c1.trans c2⟩
end Gi
namespace Gi
open Go
def O8 : Value → Option L
 | .int k n => some (.pv (.int k n))
 | .bool b => some (.pv (.bool b))
 | .string s => some (.pv (.str s.data.toList))
 | .slice none 0 0 => some .nil
 | _ => none
def PG : Value → Option PV
 | .int k n => some (.int k n)
 | .bool b => some (.bool b)
 | .string s => some (.str s.data.toList)
 | .slice none 0 0 => some (.lst [])
 | _ => none
def iu : Operand → Option Opd
 | .tmp t => some (.tmp t)
 | .const (.int k n) => some (.pv (.int k n))
 | .const (.bool b) => some (.pv (.bool b))
 | .const (.string s) => some (.pv (.str s.data.toList))
 | .const (.slice none 0 0) => some .nil
 | _ => none
def tq (kf : FuncId → Option Nat) : Operand → Option Opd
 | .func f => (kf f).map .fn
 | x => iu x
def iO {α β : Type} (f : α → Option β) : List α → Option (List β)
 | [] => some []
 | x :: xs => match f x, iO f xs with
  | some y, some ys => some (y :: ys)
  | _, _ => none
def jZ (P : Program) (t : TypeId) : Option Bool :=
 match P.underlying t with
 | some (.struct _) => some true
 | some (.array _ _) => some true
 | some _ => some false
 | none => none
def t9 (P : Program) (t : TypeId) : Option Nat := (P.info? t).map (·.size)
def J2 (P : Program) (t : TypeId) : Option Nat := (P.info? t).map (·.bytes)
def oM (P : Program) (t : TypeId) : Option Value := (P.info? t).bind (·.zero)
def m8 (P : Program) (t : TypeId) : Option TypeId :=
 match P.underlying t with
 | some (.slice e) => some e
 | _ => none
def yP (P : Program) (t : TypeId) (f : Nat) : Option Field :=
 match P.underlying t with
 | some (.struct fs) => fs[f]?
 | _ => none
def Iz (P : Program) : Nat → TypeId → Bool
 | 0, _ => false
 | n + 1, t => match P.underlying t with
  | some .bool => true
  | some (.int _) => true
  | some .string => true
  | some (.struct fs) => fs.toList.all fun f => Iz P n f.type
  | _ => false
def Kl (P : Program) (g : TypeId → Option (List EK)) : List Field → Nat → Option (List EK)
 | [], _ => some []
 | f :: fs, off => if f.name ≠ "_" ∧ f.offset = off then (match g f.type with
  | some m => if t9 P f.type = some m.length ∧ 0 < m.length then (match Kl P g fs (off + m.length) with
   | some ks => some (m ++ ks)
   | none => none) else none
  | none => none) else none
def No (P : Program) : Nat → TypeId → Option (List EK)
 | 0, _ => none
 | n + 1, t => match P.underlying t with
  | some .bool => some [.b]
  | some (.int _) => some [.i]
  | some .string => some [.s]
  | some (.struct fs) => if P.stoodInHeld t then none else Kl P (No P n) fs.toList 0
  | _ => none
structure Md where
 draw : Bool
 dt : Bool
 st : Bool
 sb : Bool
 tr : List Nat
def iS (P : Program) (kf : FuncId → Option Nat) (md : Md) : Op → Option AOp
 | .move x => (iu x).map .mv
 | .assign x => (iu x).map .mv
 | .pick c a b => match iu c, iu a, iu b with
  | some c, some a, some b => some (.pick c a b)
  | _, _, _ => none
 | .alloc t => match oM P t with
  | some v => match iO O8 v.cells.toList with
   | some cs => some (.alloc cs)
   | none => none
  | none => none
 | .box _ x => (iu x).map .box
 | .build t parts => match P.underlying t, oM P t, iO (fun x => match yP P t x.1, iu x.2 with
  | some f, some y => (t9 P f.type).map fun n => (f.offset, n, y)
  | _, _ => none) parts.toList with
  | some (.struct fs), some v, some ps => match iO O8 v.cells.toList with
   | some cs => if fs.toList.all (fun f => (t9 P f.type).isSome) then some (.build cs ps) else none
   | none => none
  | _, _, _ => none
 | .buildSlice t n parts => match m8 P t, iO (fun x => iu x.2) parts.toList with
  | some e, some ps => match t9 P e, oM P e with
   | some z, some v => if (parts.toList.map (·.1) == List.range n) && v.cells.size == z then some (if md.st && !ps.isEmpty then .buildF z ps else .buildS z ps) else none
   | _, _ => none
  | _, _ => none
 | .load t a => match jZ P t, t9 P t, iu a with
  | some g, some n, some a => some (if md.st then .loadB g n a else .load g n a)
  | _, _, _ => none
 | .store t a v => match t9 P t, iu a, iu v with
  | some n, some a, some v => some (.store n a v)
  | _, _, _ => none
 | .binOp op t x y _ => match P.underlying t, iu x, iu y with
  | some .bool, some x, some y => match op with
   | .eql => some (.eqB false x y)
   | .neq => some (.eqB true x y)
   | _ => none
  | some (.int _), some x, some y => some (.bin op x y)
  | some .string, some x, some y => some (.bin op x y)
  | some (.struct _), some x, some y => match No P 6 t, P.eqGuardType P.depth t with
   | some n, false => match op with
    | .eql => some (.eqS false n x y)
    | .neq => some (.eqS true n x y)
    | _ => none
   | _, _ => none
  | _, _, _ => none
 | .unOp op _ x => (iu x).map (.un op)
 | .convert s d x => match P.underlying s, P.underlying d, iu x with
  | some (.int _), some (.int k), some x => some (.conv k x)
  | some (.slice e), some .string, some x => match P.underlying e with
   | some (.int .u8) => some (.b2s x)
   | _ => none
  | some .string, some (.slice e), some x => match P.underlying e, t9 P e with
   | some (.int .u8), some 1 => some (.s2b x)
   | _, _ => none
  | _, _, _ => none
 | .makeSlice t n m => match m8 P t, iu n, iu m with
  | some e, some (.tmp a), some (.tmp b) => if a = b then (match J2 P e, t9 P e, oM P e with
   | some by', some z, some v => match iO PG v.cells.toList with
    | some zs => if zs.length = z then some (.make by' zs (.tmp a)) else none
    | none => none
   | _, _, _ => none) else none
  | _, _, _ => none
 | .slice t x lo hi mx => match P.underlying t, iu x, iO iu lo.toList, iO iu hi.toList, mx with
  | some .string, some x, some lo, some hi, none => some (.slcS x lo.head? hi.head?)
  | some (.slice e), some x, some lo, some hi, none => match t9 P e with
   | some z => if z = 0 then none else some (if md.st then .slcF z x lo.head? hi.head? else .slcL z x lo.head? hi.head?)
   | none => none
  | _, _, _, _, _ => none
 | .fieldAddr t x f => match yP P t f, iu x with
  | some fd, some x => match t9 P fd.type with
   | some n => if n = 0 then none else some (.fieldA x fd.offset)
   | none => none
  | _, _ => none
 | .field t x f => match yP P t f, iu x with
  | some fd, some x => match jZ P fd.type, t9 P fd.type with
   | some g, some n => some (.field x g fd.offset n)
   | _, _ => none
  | _, _ => none
 | .indexAddr t x i => match m8 P t, iu x, iu i with
  | some e, some x, some i => match t9 P e with
   | some z => some (.indexA z x i)
   | none => none
  | _, _, _ => none
 | .index t x i => match P.underlying t, iu x, iu i with
  | some .string, some x, some i => some (.indexS x i)
  | _, _, _ => none
 | .extract x i => (iu x).map (.extract · i)
 | .call c => match c.callee with
  | .value (.func f) => match kf f, iO (tq kf) c.args.toList, P.funcs[f]? with
   | some k, some xz, some fn => if fn.origin == "slices.Insert" then (match xz, fn.params.toList with
    | [x, i, v], t :: _ => match m8 P t with
     | some e => match t9 P e, J2 P e with
      | some z, some b => some (.insert k z b x i v)
      | _, _ => none
     | none => none
    | _, _ => none) else some (if md.dt && !md.draw && !(fn.resultTypes.toList.all (Iz P 6)) then .callD k xz else .call k xz (fn.resultTypes.toList.all (Iz P 6)) md.draw)
   | _, _, _ => none
  | .value (.tmp t) => match iO iu c.args.toList with
   | some xz => some (.callV (.tmp t) xz)
   | none => none
  | .builtin .len => match c.args.toList, c.argTypes.toList with
   | [x], [t] => match P.underlying t, iu x with
    | some .string, some x => some (.lenS x)
    | some (.slice _), some x => some (.len x)
    | _, _ => none
   | _, _ => none
  | .builtin .append => match c.args.toList, c.argTypes.toList with
   | [x, y], [t, u] => match m8 P t, P.underlying u, iu x, iu y with
    | some e, some (.slice _), some x, some y => match t9 P e, J2 P e, oM P e with
     | some z, some b, some v => if v.cells.size = z ∧ t = u then some (.append z b x y) else none
     | _, _, _ => none
    | some e, some .string, some x, some y => match P.underlying e, t9 P e, J2 P e, oM P e with
     | some (.int .u8), some 1, some b, some (.int .u8 0) => some (.appendS b x y)
     | _, _, _, _ => none
    | _, _, _, _ => none
   | _, _ => none
  | .builtin .min => match c.args.toList with
   | [x, y] => match iu x, iu y with
    | some x, some y => some (.mm false x y)
    | _, _ => none
   | _ => none
  | .builtin .max => match c.args.toList with
   | [x, y] => match iu x, iu y with
    | some x, some y => some (.mm true x y)
    | _, _ => none
   | _ => none
  | _ => none
 | .makeMap t r => match r with
  | none => if Ml P = some t then some .mkmap else none
  | some _ => none
 | .lookup t x i c => if c then none else match iu x, iu i, pD P t with
  | some x, some i, some (_, e) => match oM P e with
   | some (.int .i64 0) => if Ml P = some t then some (.mget x i) else none
   | _ => none
  | _, _, _ => none
 | .mapUpdate t m k v => match iu m, iu k, iu v with
  | some m, some k, some v => if Ml P = some t then some (.mset m k v) else none
  | _, _, _ => none
 | .makeFunc (.func f) first caps => match kf f, iO iu caps.toList with
  | some k, some cs => if first.isEmpty then some (.mkfn k cs) else none
  | _, _ => none
 | _ => none
def AOp.isF : AOp → Bool
 | .alloc _ => false
 | .box _ => false
 | .buildS _ _ => false
 | .store _ _ _ => false
 | .make _ _ _ => false
 | .append _ _ _ _ => false
 | .appendS _ _ _ => false
 | .callD _ _ => false
 | .slcL _ _ _ _ => false
 | .mkfn _ _ => false
 | .mkmap => false
 | .mset _ _ _ => false
 | .insert _ _ _ _ _ _ => false
 | .storeB _ _ _ => false
 | .allocT _ => false
 | .storeT _ _ _ => false
 | .call _ _ fl fz => fl || fz
 | _ => true
def EY (ops : Array Oper) : Option (Nat × Bool) → Option (Option (Nat × Bool))
 | none => some none
 | some (j, w) => match ops[j]? with
  | some o => match o.dst with
   | some t => some (some (t, w))
   | none => none
  | none => none
def xu (md : Md) (dst : Option Nat) : AOp → AOp
 | .alloc zero => match dst with
  | some t => if md.tr.contains t then .allocT zero.length else .alloc zero
  | none => .alloc zero
 | .store n a v => match a with
  | .tmp t => if md.tr.contains t then .storeT n (.tmp t) v else if md.sb then .storeB n (.tmp t) v else .store n (.tmp t) v
  | a => .store n a v
 | .load g n a => if md.sb then .loadA g n a else .load g n a
 | op => op
def EZ (P : Program) (kf : FuncId → Option Nat) (md : Md) (ops : Array Oper) (o : Oper) : Option AOper :=
 match iS P kf md o.op, EY ops o.guard with
 | some op, some g => some ⟨o.dst, op, g⟩
 | _, _ => none
def zG (P : Program) (kf : FuncId → Option Nat) (md : Md) (ops : Array Oper) (o : Oper) : Option AOper :=
 match EZ P kf md ops o with
 | some x => some ⟨x.dst, xu md o.dst x.op, x.guard⟩
 | none => none
def AOp.opds : AOp → List Opd
 | .mv x => [x]
 | .pick c a b => [c, a, b]
 | .alloc _ => []
 | .box x => [x]
 | .build _ ps => ps.map (·.2.2)
 | .buildS _ ps => ps
 | .load _ _ a => [a]
 | .store _ a v => [a, v]
 | .bin _ x y => [x, y]
 | .eqB _ x y => [x, y]
 | .un _ x => [x]
 | .conv _ x => [x]
 | .b2s x => [x]
 | .make _ _ n => [n]
 | .slcS x lo hi => x :: (lo.toList ++ hi.toList)
 | .fieldA x _ => [x]
 | .field x _ _ _ => [x]
 | .indexA _ x i => [x, i]
 | .indexS x i => [x, i]
 | .extract x _ => [x]
 | .len x => [x]
 | .lenS x => [x]
 | .append _ _ x y => [x, y]
 | .appendS _ x y => [x, y]
 | .call _ xz _ _ => xz
 | .mm _ x y => [x, y]
 | .mkfn _ cs => cs
 | .callV x xz => x :: xz
 | .eqS _ _ x y => [x, y]
 | .slcL _ x lo hi => x :: (lo.toList ++ hi.toList)
 | .s2b x => [x]
 | .callD _ xz => xz
 | .mkmap => []
 | .mget x k => [x, k]
 | .mset x k v => [x, k, v]
 | .insert _ _ _ x i v => [x, i, v]
 | .loadB _ _ a => [a]
 | .slcF _ x lo hi => x :: (lo.toList ++ hi.toList)
 | .buildF _ ps => ps
 | .loadA _ _ a => [a]
 | .storeB _ a v => [a, v]
 | .allocT _ => []
 | .storeT _ a v => [a, v]
def Opd.tmps : Opd → List Nat
 | .tmp n => [n]
 | _ => []
def AOper.reads (o : AOper) : List Nat := o.op.opds.flatMap Opd.tmps ++ (match o.guard with | some (g, _) => [g] | none => [])
def tj (x y : AOper) : Bool :=
 (match x.dst with
  | some d => !(y.reads).contains d && y.dst != some d
  | none => true) &&
 (match y.dst with
  | some d => !(x.reads).contains d
  | none => true)
def AOp.cls : AOp → Nat
 | .load _ _ _ => 1
 | .loadB _ _ _ => 1
 | .loadA _ _ _ => 1
 | .storeB _ _ _ => 3
 | .allocT _ => 2
 | .storeT _ _ _ => 3
 | .b2s _ => 1
 | .indexA _ _ _ => 1
 | .len _ => 1
 | .callV _ _ => 1
 | .mget _ _ => 1
 | .mkmap => 2
 | .mset _ _ _ => 3
 | .insert _ _ _ _ _ _ => 3
 | .call _ _ fl fz => if fl || fz then 1 else 3
 | .alloc _ => 2
 | .box _ => 2
 | .buildS _ _ => 2
 | .make _ _ _ => 2
 | .slcL _ _ _ _ => 2
 | .store _ _ _ => 3
 | .append _ _ _ _ => 3
 | .appendS _ _ _ => 3
 | .callD _ _ => 3
 | .mkfn _ _ => 3
 | _ => 0
def AOp.arrT : AOp → Bool
 | .append _ _ _ _ => true
 | .appendS _ _ _ => true
 | .buildS _ _ => true
 | .make _ _ _ => true
 | .slcL _ _ _ _ => true
 | _ => false
def AOp.isLB : AOp → Bool
 | .loadB _ _ _ => true
 | _ => false
def AOp.isAR : AOp → Bool
 | .loadA _ _ _ => true
 | .indexA _ _ _ => true
 | _ => false
def AOp.isSB : AOp → Bool
 | .storeB _ _ _ => true
 | _ => false
def AOp.isST : AOp → Bool
 | .storeT _ _ _ => true
 | _ => false
def MC : AOp → AOp → Bool
 | .allocT n, .allocT m => n == m
 | _, _ => false
def GC (x y : AOper) : Bool := tj x y && (x.op.cls == 0 || y.op.cls == 0 || (x.op.cls == 1 && Nat.ble y.op.cls 2) || (x.op.isLB && y.op.arrT) || (x.op.arrT && y.op.isLB) || (x.op.isAR && y.op.isSB) || (x.op.isSB && y.op.isAR) || x.op.isST || y.op.isST || MC x.op y.op)
def JU (listed : Array Bool) (k : Nat) : List Oper → Array Bool → Array Bool
 | [], acc => acc
 | o :: r, acc => JU listed k r (acc.push (o.after.any fun e => Region.binds .any e && !(listed.getD e.on true) && (e.on == k || acc.getD e.on false)))
def LW (ops : Array Oper) (oos : List AOper) (listed : Array Bool) (k : Nat) : Bool :=
 let an := JU listed k ops.toList #[]
 (List.range oos.length).all fun j => j == k || listed.getD j true || an.getD j false || (match oos[k]?, oos[j]? with
  | some x, some y => GC x y
  | _, _ => false)
def n5 (ops : Array Oper) (oos : List AOper) : Nat → Nat → Array Bool → Bool
 | 0, _, listed => (Region.ready .any ops listed).isEmpty
 | fuel + 1, k, listed => (Region.ready .any ops listed).contains k && LW ops oos listed k && n5 ops oos fuel (k + 1) (listed.setIfInBounds k true)
def qK (P : Program) (kf : FuncId → Option Nat) (dt : Bool) (tr : List Nat) : Code → Option ACode
 | .skip => some .skip
 | .region _ ops draw => match iO (zG P kf ⟨draw, dt, false, false, tr⟩ ops) ops.toList with
  | some os => if draw then (if n5 ops os ops.size 0 (Array.replicate ops.size false) then some (.region os) else (match iO (zG P kf ⟨draw, dt, true, false, tr⟩ ops) ops.toList, iO (zG P kf ⟨draw, dt, false, true, tr⟩ ops) ops.toList with
   | some os', some os2 => if n5 ops os' ops.size 0 (Array.replicate ops.size false) then some (.region os') else if n5 ops os2 ops.size 0 (Array.replicate ops.size false) then some (.region os2) else none
   | _, _ => none)) else some (.region os)
  | none => none
 | .seq a b => match qK P kf dt tr a, qK P kf dt tr b with
  | some a, some b => some (.seq a b)
  | _, _ => none
 | .cond c a b => match iu c, qK P kf dt tr a, qK P kf dt tr b with
  | some c, some a, some b => some (.cond c a b)
  | _, _, _ => none
 | .block id c => (qK P kf dt tr c).map (.block id)
 | .loop c => (qK P kf dt tr c).map .loop
 | .exit id => some (.exit id)
 | .ret => some .ret
 | _ => none
def Lz (P : Program) : ResultVar → Option ARes
 | .tmp t => some (.tmp t)
 | .cell t ty => match jZ P ty, t9 P ty with
  | some true, some n => some (.cell t n)
  | _, _ => none
def Nl : List String := ["loop.example/g00583/impl.EncodeRecord", "loop.example/g00583/spec.EncodeRecord", "loop.example/g00583/impl.applied", "loop.example/g00583/spec.l23Apply", "loop.example/g00583/impl.SetItemField", "loop.example/g00583/spec.SetItemField", "loop.example/g00583/impl.LocalStore", "loop.example/g00583/spec.LocalStore", "loop.example/g00583/impl.DeviceHas", "loop.example/g00583/spec.DeviceHas", "loop.example/g00583/impl.ReplicasAgree", "loop.example/g00583/spec.ReplicasAgree", "loop.example/g00583/impl.IsSettled", "loop.example/g00583/spec.IsSettled"]
def NU : List (String × List Nat) := [("loop.example/g00583/impl.IsDatabase", [8, 9]), ("loop.example/g00583/spec.IsDatabase", [6, 7])]
def PY (s : String) : List Nat := match NU.find? (fun x => x.1 == s) with
 | some x => x.2
 | none => []
def OO (P : Program) (kf : FuncId → Option Nat) (fn : Func) : Option AFn :=
 match fn.body with
 | some c => match qK P kf (Nl.contains fn.name) (PY fn.name) c, iO (Lz P) fn.results.toList with
  | some b, some rs => if fn.name == "runtime.NumGoroutine" then none else some ⟨fn.ntmps, rs, b⟩
  | _, _ => none
 | none => none
@[simp] abbrev J4 (l : List V) : List V := .one .junk :: .one .junk :: .one .junk :: .one .junk :: l
@[simp] abbrev bV (l : List V) : List V := J4 (J4 (J4 (J4 l)))
end Gi
