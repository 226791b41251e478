/- The pure machine: a small functional reading of the translated Go code (values, operations, control), with a fuel and its limit. No program is named here. -/
import Derived.WalkKit
namespace Gi
open Go
set_option linter.unusedVariables false
set_option linter.unusedSimpArgs false

/-- What a cell holds, read to the bottom: a slice is the list of its elements, an element the list of its cells. -/
inductive PV where
  | int (k : IntKind) (n : Int)
  | bool (b : Bool)
  | str (s : List UInt8)
  | lst (es : List (List PV))

/-- What a cell of the machine's own frame or variables may hold. -/
inductive L where
  | pv (p : PV)
  | ptr (o i j : Nat)
  | ip (e : List PV) (j : Nat)
  | arr (o : Nat)
  | nil
  | own (z : Nat) (es : List (List PV))
  | down (z : Nat) (es : List (List PV))
  | fn (k : Nat) (caps : List (List PV))
  | mp (o : Nat)
  | tp (n : Nat)
  | sub (o c : Nat)
  | junk

/-- A temporary's value: one cell, a struct's cells, several results (each: is it a struct, its cells). -/
inductive V where
  | one (l : L)
  | agg (ls : List L)
  | tup (vs : List (Bool × List L))

inductive AObj where
  | box (cs : List L)
  | arr (z : Nat) (es : List (List PV))
  | froz (z : Nat) (es : List (List PV))
  | darr (z : Nat) (es : List (List PV))
  | zarr (z : Nat) (es : List (List PV))
  | fbox (ps : List PV)
  | imap (kvs : List (Int × Int))
  | tbox (n : Nat)
  | dead
  | res

structure St where
  t : List V
  h : List AObj

inductive Opd where
  | tmp (n : Nat)
  | pv (p : PV)
  | nil
  | fn (k : Nat)

/-- What a cell that is compared holds. -/
inductive EK where
  | b
  | i
  | s

inductive AOp where
  | mv (x : Opd)
  | pick (c a b : Opd)
  | alloc (zero : List L)
  | box (x : Opd)
  | build (zero : List L) (parts : List (Nat × Nat × Opd))
  | buildS (z : Nat) (parts : List Opd)
  | load (isAgg : Bool) (n : Nat) (a : Opd)
  | store (n : Nat) (a v : Opd)
  | bin (op : BinOp) (x y : Opd)
  | eqB (neg : Bool) (x y : Opd)
  | un (op : UnOp) (x : Opd)
  | conv (k : IntKind) (x : Opd)
  | b2s (x : Opd)
  | make (bytes : Nat) (zero : List PV) (n : Opd)
  | slcS (x : Opd) (lo hi : Option Opd)
  | fieldA (x : Opd) (off : Nat)
  | field (x : Opd) (isAgg : Bool) (off n : Nat)
  | indexA (z : Nat) (x i : Opd)
  | indexS (x i : Opd)
  | extract (x : Opd) (i : Nat)
  | len (x : Opd)
  | lenS (x : Opd)
  | append (z bytes : Nat) (x y : Opd)
  | appendS (bytes : Nat) (x y : Opd)
  | call (f : Nat) (args : List Opd) (fl fz : Bool)
  | mm (isMax : Bool) (x y : Opd)
  | mkfn (k : Nat) (caps : List Opd)
  | callV (x : Opd) (args : List Opd)
  | eqS (neg : Bool) (ks : List EK) (x y : Opd)
  | slcL (z : Nat) (x : Opd) (lo hi : Option Opd)
  | s2b (x : Opd)
  | callD (f : Nat) (args : List Opd)
  | mkmap
  | mget (x k : Opd)
  | mset (x k v : Opd)
  | insert (k z bytes : Nat) (x i v : Opd)
  | loadB (isAgg : Bool) (n : Nat) (a : Opd)
  | slcF (z : Nat) (x : Opd) (lo hi : Option Opd)
  | buildF (z : Nat) (parts : List Opd)
  | loadA (isAgg : Bool) (n : Nat) (a : Opd)
  | storeB (n : Nat) (a v : Opd)
  | allocT (n : Nat)
  | storeT (n : Nat) (a v : Opd)
  | storeD (n : Nat) (a v : Opd)
  | buildD (z : Nat) (parts : List Opd)
  | appendD (z bytes : Nat) (x y : Opd)
  | callC (f : Nat) (args : List Opd)
  | lenZ (x : Opd)
  | indexZ (z : Nat) (x i : Opd)
  | loadZ (isAgg : Bool) (n : Nat) (a : Opd)
  | storeZ (n : Nat) (a v : Opd)
  | callF (f : Nat) (args : List Opd)
  | callZ (f : Nat) (args : List Opd)
  | callM (f : Nat) (x k : Opd)
  | allocW (zero : List L)
  | allocAt (i : Nat) (zero : List L)

structure AOper where
  dst : Option Nat
  op : AOp
  guard : Option (Nat × Bool)

inductive ACode where
  | skip
  | region (ops : List AOper)
  | seq (a b : ACode)
  | cond (c : Opd) (thn els : ACode)
  | block (id : Nat) (body : ACode)
  | loop (body : ACode)
  | exit (id : Nat)
  | ret

inductive Ex where
  | normal
  | exit (id : Nat)
  | ret

/-- Where a result lies: a temporary; a variable (its pointer's temporary, how many cells). -/
inductive ARes where
  | tmp (t : Nat)
  | cell (t : Nat) (n : Nat)

structure AFn where
  ntmps : Nat
  results : List ARes
  body : ACode

def V.cells : V → List L
  | .one l => [l]
  | .agg ls => ls
  | .tup _ => [.junk]

def Opd.ev (σ : St) : Opd → V
  | .tmp n => σ.t.getD n (.tup [])
  | .pv p => .one (.pv p)
  | .nil => .one .nil
  | .fn k => .one (.fn k [])

/-- A cell seen as data. -/
def L.view (h : List AObj) : L → Option PV
  | .pv p => some p
  | .nil => some (.lst [])
  | .arr o => match h[o]? with
    | some (.arr _ es) => some (.lst es)
    | some (.froz _ es) => some (.lst es)
    | some (.darr _ es) => some (.lst es)
    | _ => none
  | _ => none

def viewL (h : List AObj) : List L → Option (List PV)
  | [] => some []
  | l :: ls => match l.view h, viewL h ls with
    | some p, some ps => some (p :: ps)
    | _, _ => none

def V.view (h : List AObj) : V → Option V
  | .one (.fn k caps) => some (.one (.fn k caps))
  | .one l => match l.view h with
    | some p => some (.one (.pv p))
    | none => none
  | .agg ls => match viewL h ls with
    | some ps => some (.agg (ps.map .pv))
    | none => none
  | .tup _ => none

def viewArgs (h : List AObj) : List V → Option (List V)
  | [] => some []
  | v :: vs => match v.view h, viewArgs h vs with
    | some p, some ps => some (p :: ps)
    | _, _ => none

/-- The arrays of one's own that a cell names are written no more. -/
def freezeL (h : List AObj) : L → List AObj
  | .arr o => match h[o]? with
    | some (.arr z es) => h.set o (.froz z es)
    | some (.darr z es) => h.set o (.froz z es)
    | _ => h
  | _ => h
def freezeLs (h : List AObj) (ls : List L) : List AObj := ls.foldl freezeL h
def freezeVs (h : List AObj) (vs : List V) : List AObj := vs.foldl (fun h v => freezeLs h v.cells) h

/-- Does the cell name an array of one's own that may still be written? -/
def L.mut (h : List AObj) : L → Bool
  | .arr o => match h[o]? with
    | some (.arr _ _) => true
    | some (.darr _ _) => true
    | _ => false
  | _ => false
def V.mut (h : List AObj) (v : V) : Bool := v.cells.any (L.mut h)

def isInt : V → Option (IntKind × Int)
  | .one (.pv (.int k n)) => some (k, n)
  | _ => none
def isStr : V → Option (List UInt8)
  | .one (.pv (.str s)) => some s
  | _ => none
def isBool : V → Option Bool
  | .one (.pv (.bool b)) => some b
  | _ => none
abbrev vint (k : IntKind) (n : Int) : V := .one (.pv (.int k n))
abbrev vbool (b : Bool) : V := .one (.pv (.bool b))
abbrev vstr (s : List UInt8) : V := .one (.pv (.str s))
abbrev vlst (es : List (List PV)) : V := .one (.pv (.lst es))

def binInt (op : BinOp) (k : IntKind) (a b : Int) : Option V :=
  match op with
  | .add => some (vint k (k.wrap (a + b)))
  | .sub => some (vint k (k.wrap (a - b)))
  | .mul => some (vint k (k.wrap (a * b)))
  | .quo => if b = 0 then none else some (vint k (k.wrap (a.tdiv b)))
  | .rem => if b = 0 then none else some (vint k (a.tmod b))
  | .and => some (vint k (k.wrap ((BitVec.ofInt k.bits a &&& BitVec.ofInt k.bits b).toNat)))
  | .or => some (vint k (k.wrap ((BitVec.ofInt k.bits a ||| BitVec.ofInt k.bits b).toNat)))
  | .eql => some (vbool (a == b))
  | .neq => some (vbool (a != b))
  | .lss => some (vbool (decide (a < b)))
  | .leq => some (vbool (decide (a ≤ b)))
  | .gtr => some (vbool (decide (b < a)))
  | .geq => some (vbool (decide (b ≤ a)))
  | _ => none

def binShift (op : BinOp) (k : IntKind) (a b : Int) : Option V :=
  if b < 0 then none else
  match op with
  | .shl => some (vint k (k.wrap (a * 2 ^ (min b.toNat k.bits))))
  | .shr => some (vint k (a.fdiv (2 ^ (min b.toNat k.bits))))
  | _ => none

def binStr (op : BinOp) (a b : List UInt8) : Option V :=
  match op with
  | .add => if a.length + b.length ≤ 9223372036854775807 then some (vstr (a ++ b)) else none
  | .eql => some (vbool (a == b))
  | .neq => some (vbool (!(a == b)))
  | .lss => some (vbool (Op.bytesLess a b))
  | .leq => some (vbool (Op.bytesLess a b || a == b))
  | .gtr => some (vbool (!(Op.bytesLess a b || a == b)))
  | .geq => some (vbool (!Op.bytesLess a b))
  | _ => none

def bin (op : BinOp) (x y : V) : Option V :=
  match x, y with
  | .one (.pv (.int k a)), .one (.pv (.int k' b)) =>
    match op with
    | .shl | .shr => binShift op k a b
    | _ => if k = k' then binInt op k a b else none
  | .one (.pv (.str a)), .one (.pv (.str b)) => binStr op a b
  | _, _ => none

def un (op : UnOp) (x : V) : Option V :=
  match op, x with
  | .not, .one (.pv (.bool b)) => some (vbool (!b))
  | .neg, .one (.pv (.int k n)) => some (vint k (k.wrap (0 - n)))
  | _, _ => none

/-- n cells from j on, as a value. -/
def cut (isAgg : Bool) (n j : Nat) (cs : List L) : Option V :=
  if j + n ≤ cs.length then
    if isAgg then some (.agg ((cs.drop j).take n))
    else if n = 1 then (match cs[j]? with
      | some l => some (.one l)
      | none => none) else none
  else none

def loadV (h : List AObj) (isAgg : Bool) (n : Nat) (a : V) : Option V :=
  match a with
  | .one (.ptr o i j) => match h[o]? with
    | some (.box cs) => if i = 0 then cut isAgg n j cs else none
    | some (.arr _ es) => match es[i]? with
      | some e => cut isAgg n j (e.map .pv)
      | none => none
    | some (.froz _ es) => match es[i]? with
      | some e => cut isAgg n j (e.map .pv)
      | none => none
    | some (.darr _ es) => match es[i]? with
      | some e => cut isAgg n j (e.map .pv)
      | none => none
    | some (.fbox ps) => if i = 0 then cut isAgg n j (ps.map .pv) else none
    | _ => none
  | .one (.ip e j) => cut isAgg n j (e.map .pv)
  | _ => none

/-- Does the pointer name a variable (no array)? -/
def isVar (h : List AObj) : V → Bool
  | .one (.ptr o _ _) => match h[o]? with
    | some (.box _) => true
    | some (.fbox _) => true
    | _ => false
  | .one (.ip _ _) => true
  | _ => false

/-- cells j.. of cs replaced by ls -/
def putAt {α : Type} (cs : List α) (j : Nat) (ls : List α) : List α := cs.take j ++ ls ++ cs.drop (j + ls.length)

def plain : L → Bool
  | .own _ _ => false
  | .down _ _ => false
  | .mp _ => false
  | .tp _ => false
  | .sub _ _ => false
  | .junk => false
  | _ => true

def L.notArr (o : Nat) : L → Bool
  | .arr o' => !(o' == o)
  | _ => true

def storeV (h : List AObj) (n : Nat) (a v : V) : Option (List AObj) :=
  let ls := v.cells
  if ls.length = n then
    match a with
    | .one (.ptr o i j) => match h[o]? with
      | some (.box cs) => if i = 0 ∧ j + n ≤ cs.length ∧ ls.all plain = true then some (h.set o (.box (putAt cs j ls))) else none
      | some (.arr z es) => match es[i]?, viewL h ls with
        | some e, some ps => if j + n ≤ e.length ∧ ls.all (L.notArr o) = true then some ((freezeLs h ls).set o (.arr z (es.set i (putAt e j ps)))) else none
        | _, _ => none
      | _ => none
    | _ => none
  else none

def fillL (cs : List L) : List (Nat × Nat × V) → Option (List L)
  | [] => some cs
  | (off, n, v) :: rest => if v.cells.length = n ∧ off + n ≤ cs.length ∧ v.cells.all plain = true then fillL (putAt cs off v.cells) rest else none

def asList (h : List AObj) (v : V) : Option (List (List PV)) :=
  match v with
  | .one l => match l.view h with
    | some (.lst es) => some es
    | _ => none
  | _ => none

def elemPtr (h : List AObj) (z : Nat) (x : V) (i : Nat) : Option V :=
  match x with
  | .one (.arr o) => match h[o]? with
    | some (.arr z' es) => if i < es.length ∧ z' = z then some (.one (.ptr o i 0)) else none
    | some (.froz z' es) => if i < es.length ∧ z' = z then some (.one (.ptr o i 0)) else none
    | some (.darr z' es) => if i < es.length ∧ z' = z then some (.one (.ptr o i 0)) else none
    | _ => none
  | .one (.pv (.lst es)) => match es[i]? with
    | some e => if e.length = z then some (.one (.ip e 0)) else none
    | none => none
  | _ => none

/-- Numbers, bools and strings alone. -/
def L.flat : L → Bool
  | .pv (.int _ _) => true
  | .pv (.bool _) => true
  | .pv (.str _) => true
  | _ => false
def V.flat : V → Bool
  | .one l => l.flat
  | .agg ls => ls.all L.flat
  | .tup xs => xs.all fun x => x.2.all L.flat

def bytesOf : List (List PV) → Option (List UInt8)
  | [] => some []
  | [.int .u8 n] :: r => match bytesOf r with
    | some l => some (UInt8.ofNat n.toNat :: l)
    | none => none
  | _ => none
def ofBytes (s : List UInt8) : List (List PV) := s.map fun b => [.int .u8 b.toNat]

/-- A result that has come back: its own arrays become arrays of the caller's. -/
def thawL (h : List AObj) : List L → List L × List AObj
  | [] => ([], h)
  | .own z es :: ls => let r := thawL (h ++ [.arr z es]) ls; (.arr h.length :: r.1, r.2)
  | .down z es :: ls => let r := thawL (h ++ [.darr z es]) ls; (.arr h.length :: r.1, r.2)
  | l :: ls => let r := thawL h ls; (l :: r.1, r.2)
def thawT (h : List AObj) : List (Bool × List L) → List (Bool × List L) × List AObj
  | [] => ([], h)
  | (b, ls) :: vs => let r := thawL h ls; let q := thawT r.2 vs; ((b, r.1) :: q.1, q.2)
def thaw (h : List AObj) : V → V × List AObj
  | .one l => match thawL h [l] with
    | ([l'], h') => (.one l', h')
    | _ => (.one .junk, h)
  | .agg ls => let r := thawL h ls; (.agg r.1, r.2)
  | .tup vs => let r := thawT h vs; (.tup r.1, r.2)

/-- .. or plain data. -/
def setL : L → L
  | .own _ es => .pv (.lst es)
  | .down _ es => .pv (.lst es)
  | l => l
def setV : V → V
  | .one l => .one (setL l)
  | .agg ls => .agg (ls.map setL)
  | .tup vs => .tup (vs.map fun x => (x.1, x.2.map setL))

/-- A variable that a closure names: it is written no more. -/
def capOf (h : List AObj) : V → Option (List PV × List AObj)
  | .one (.ptr o i j) => if i = 0 ∧ j = 0 then (match h[o]? with
    | some (.box cs) => match viewL h cs with
      | some ps => if cs.all (fun l => !(L.mut h l)) then some (ps, h.set o (.fbox ps)) else none
      | none => none
    | some (.fbox ps) => some (ps, h)
    | _ => none) else none
  | .one (.ip e j) => if j = 0 then some (e, h) else none
  | _ => none
def capsOf (h : List AObj) : List V → Option (List (List PV) × List AObj)
  | [] => some ([], h)
  | v :: vs => match capOf h v with
    | some (e, h1) => match capsOf h1 vs with
      | some (es, h2) => some (e :: es, h2)
      | none => none
    | none => none
def capV (e : List PV) : V := .one (.ip e 0)

/-- Two cells of numbers, bools or strings: are they equal? -/
def eqL : EK → L → L → Option Bool
  | .i, .pv (.int k a), .pv (.int k' b) => if k = k' then some (a == b) else none
  | .b, .pv (.bool a), .pv (.bool b) => some (a == b)
  | .s, .pv (.str a), .pv (.str b) => some (a == b)
  | _, _, _ => none
def eqLs : List EK → List L → List L → Option Bool
  | [], _, _ => some true
  | k :: ks, a :: as, b :: bs => match eqL k a b, eqLs ks as bs with
    | some x, some y => some (x && y)
    | _, _ => none
  | _, _, _ => none

def bound (σ : St) (d : Int) : Option Opd → Option Int
  | none => some d
  | some o => match isInt (o.ev σ) with
    | some (_, n) => some n
    | none => none

/-- What a map of numbers holds at a number. -/
def look : List (Int × Int) → Int → Int
  | [], _ => 0
  | (a, b) :: r, x => if x = a then b else look r x
def inR (n : Int) : Bool := decide (-9223372036854775808 ≤ n) && decide (n ≤ 9223372036854775807)

/-- Cells that are data, rows of these. -/
def cellsP : List L → Option (List PV)
  | [] => some []
  | .pv p :: ls => match cellsP ls with
    | some ps => some (p :: ps)
    | none => none
  | _ => none
def rowsP : List V → Option (List (List PV))
  | [] => some []
  | v :: vs => match cellsP v.cells, rowsP vs with
    | some e, some es => some (e :: es)
    | _, _ => none

/-! Arrays that are lent to be written: each of their lists is their own, and nothing else names these. -/
def L.unsub : L → L
  | .sub _ _ => .junk
  | l => l
def AObj.unz : AObj → AObj
  | .zarr z es => .darr z es
  | .box cs => .box (cs.map L.unsub)
  | ob => ob
def lent (h : List AObj) : List AObj := h.map AObj.unz
def AObj.zone : AObj → AObj
  | .arr z es => .zarr z es
  | .darr z es => .zarr z es
  | ob => ob
def thawZ (h : List AObj) (r : V) : V × List AObj := ((thaw h r).1, h ++ (thaw [] r).2.map AObj.zone)
/-- A cell that is no list. -/
def PV.flat : PV → Bool
  | .lst _ => false
  | _ => true
def wid : List (List PV) → Nat
  | [] => 1
  | e :: _ => e.length
def cellAt (z : Nat) (es : List (List PV)) (c : Nat) : Option PV :=
  match es[c / z]? with
  | some e => e[c % z]?
  | none => none
def putCell (z : Nat) (es : List (List PV)) (c : Nat) (p : PV) : List (List PV) := es.set (c / z) (((es[c / z]?).getD []).set (c % z) p)
def loadZV (h : List AObj) (isAgg : Bool) (n : Nat) (a : V) : Option V :=
  match a with
  | .one (.ptr o i j) => match h[o]? with
    | some (.zarr z es) => match es[i]? with
      | some e => match e[j]? with
        | some (.lst _) => if isAgg = false ∧ n = 1 then some (.one (.sub o (i * z + j))) else none
        | _ => none
      | none => none
    | _ => loadV h isAgg n a
  | _ => loadV h isAgg n a
def storeZV (h : List AObj) (n : Nat) (a v : V) : Option (List AObj) :=
  match a with
  | .one (.ptr o i j) => match h[o]? with
    | some (.zarr z es) => match es[i]?, v with
      | some e, .one (.pv p) => match e[j]? with
        | some q => if n = 1 ∧ p.flat = true ∧ q.flat = true then some (h.set o (.zarr z (es.set i (e.set j p)))) else none
        | none => none
      | _, _ => none
    | _ => storeV h n a v
  | _ => storeV h n a v
def modK : Nat := 1048576
/-- A cell that is a number, a bool or a string, or an empty list. -/
def PV.bare : PV → Bool
  | .lst [] => true
  | .lst _ => false
  | _ => true
/-- An array that is handed over to be written. -/
def lendL (h : List AObj) : L → Option L
  | .pv p => if p.bare then some (.pv p) else none
  | .nil => some (.pv (.lst []))
  | .arr o => match h[o]? with
    | some (.zarr z es) => some (.down z es)
    | _ => none
  | _ => none
def lendLs (h : List AObj) : List L → Option (List L)
  | [] => some []
  | l :: ls => match lendL h l, lendLs h ls with
    | some x, some xs => some (x :: xs)
    | _, _ => none
def lendV (h : List AObj) : V → Option V
  | .one l => match lendL h l with
    | some x => some (.one x)
    | none => none
  | .agg ls => match lendLs h ls with
    | some xs => some (.agg xs)
    | none => none
  | .tup _ => none
/-- What has come back. -/
def putOuts (h : List AObj) : List Nat → List (Bool × List L) → Option (List AObj)
  | [], [] => some h
  | o :: os, (false, [.down z es]) :: outs => putOuts (h.set o (.zarr z es)) os outs
  | _, _ => none

/-- The values of an operation that leaves the variables alone. -/
def fop (call : Nat → List V → Option V) (σ : St) : AOp → Option V
  | .mv x => some (x.ev σ)
  | .pick c a b => match isBool (c.ev σ) with
    | some t => some (if t then a.ev σ else b.ev σ)
    | none => none
  | .load g n a => loadV σ.h g n (a.ev σ)
  | .build zero parts => match fillL zero (parts.map fun x => (x.1, x.2.1, x.2.2.ev σ)) with
    | some cs => some (.agg cs)
    | none => none
  | .bin op x y => bin op (x.ev σ) (y.ev σ)
  | .eqB neg x y => match isBool (x.ev σ), isBool (y.ev σ) with
    | some a, some b => some (vbool (if neg then !(a == b) else a == b))
    | _, _ => none
  | .un op x => un op (x.ev σ)
  | .conv k x => match isInt (x.ev σ) with
    | some (_, n) => some (vint k (k.wrap n))
    | none => none
  | .b2s x => match asList σ.h (x.ev σ) with
    | some es => match bytesOf es with
      | some s => some (vstr s)
      | none => none
    | none => none
  | .slcS x lo hi => match isStr (x.ev σ) with
    | some s => match bound σ 0 lo, bound σ (s.length : Int) hi with
      | some l, some r => if 0 ≤ l ∧ l ≤ r ∧ r ≤ s.length then some (vstr ((s.drop l.toNat).take (r.toNat - l.toNat))) else none
      | _, _ => none
    | none => none
  | .fieldA x off => match x.ev σ with
    | .one (.ptr o i j) => some (.one (.ptr o i (j + off)))
    | .one (.ip e j) => some (.one (.ip e (j + off)))
    | _ => none
  | .field x g off n => match x.ev σ with
    | .agg ls => cut g n off ls
    | _ => none
  | .indexA z x i => match isInt (i.ev σ) with
    | some (_, n) => if 0 ≤ n then elemPtr σ.h z (x.ev σ) n.toNat else none
    | none => none
  | .indexS x i => match isStr (x.ev σ), isInt (i.ev σ) with
    | some s, some (_, n) => if 0 ≤ n then (match s[n.toNat]? with
      | some b => some (vint .u8 b.toNat)
      | none => none) else none
    | _, _ => none
  | .extract x i => match x.ev σ with
    | .tup vs => match vs[i]? with
      | some (true, ls) => some (.agg ls)
      | some (false, [l]) => some (.one l)
      | _ => none
    | _ => none
  | .len x => match asList σ.h (x.ev σ) with
    | some es => some (vint .i64 es.length)
    | none => none
  | .lenS x => match isStr (x.ev σ) with
    | some s => some (vint .i64 s.length)
    | none => none
  | .call f args fl fz =>
    if fl || fz then
      let vs := args.map (Opd.ev σ)
      if fl || !(vs.any (V.mut σ.h)) then
        match viewArgs σ.h vs with
        | some as => match call f as with
          | some r => if fl && !r.flat then none else some (setV r)
          | none => none
        | none => none
      else none
    else none
  | .mm isMax x y => match isInt (x.ev σ), isInt (y.ev σ) with
    | some (k, a), some (k', b) => if k = k' then some (vint k (if isMax then (if a < b then b else a) else (if b < a then b else a))) else none
    | _, _ => none
  | .callV x args => match x.ev σ with
    | .one (.fn k caps) => match viewArgs σ.h (args.map (Opd.ev σ)) with
      | some as => match call k (as ++ caps.map capV) with
        | some r => if r.flat then some (setV r) else none
        | none => none
      | none => none
    | _ => none
  | .s2b x => match isStr (x.ev σ) with
    | some s => some (vlst (ofBytes s))
    | none => none
  | .eqS neg ks x y => match x.ev σ, y.ev σ with
    | .agg ls, .agg ls' => match eqLs ks ls ls' with
      | some b => some (vbool (if neg then !b else b))
      | none => none
    | _, _ => none
  | .mget x k => match x.ev σ, k.ev σ with
    | .one (.mp o), .one (.pv (.int .i64 n)) => match σ.h[o]? with
      | some (.imap kvs) => if inR n then some (vint .i64 (look kvs n)) else none
      | _ => none
    | _, _ => none
  | .loadB g n a => if isVar σ.h (a.ev σ) then loadV σ.h g n (a.ev σ) else none
  | .loadA g n a => if isVar σ.h (a.ev σ) then none else loadV σ.h g n (a.ev σ)
  | .slcF z x lo hi => match x.ev σ with
    | .one (.pv (.lst es)) => match bound σ 0 lo, bound σ (es.length : Int) hi with
      | some l, some r => if 0 ≤ l ∧ l ≤ r ∧ r ≤ es.length ∧ es.all (fun e => e.length == z) = true then some (vlst ((es.drop l.toNat).take (r.toNat - l.toNat))) else none
      | _, _ => none
    | _ => none
  | .buildF z parts => match rowsP (parts.map (Opd.ev σ)) with
    | some es => if es.all (fun e => e.length == z) = true ∧ 0 < z ∧ es.length * z ≤ 16777216 then some (match es with | [] => .one .nil | _ :: _ => vlst es) else none
    | none => none
  | .lenZ x => match asList (lent σ.h) (x.ev σ) with
    | some es => some (vint .i64 es.length)
    | none => none
  | .indexZ z x i => match isInt (i.ev σ) with
    | some (_, n) => if 0 ≤ n then elemPtr (lent σ.h) z (x.ev σ) n.toNat else none
    | none => none
  | .loadZ g n a => loadZV σ.h g n (a.ev σ)
  | .callF f args => match viewArgs (lent σ.h) (args.map (Opd.ev σ)) with
    | some as => match call f as with
      | some r => if r.flat then some (setV r) else none
      | none => none
    | none => none
  | _ => none

def viewRows (h : List AObj) : List V → Option (List (List PV))
  | [] => some []
  | v :: vs => match viewL h v.cells, viewRows h vs with
    | some p, some ps => some (p :: ps)
    | _, _ => none

def flatRows (es : List (List PV)) : Bool := es.all fun e => e.all PV.flat
def bareRows (es : List (List PV)) : Bool := es.all fun e => e.all PV.bare
/-- A result that names nothing that was there before. -/
def L.closed : L → Bool
  | .pv p => p.bare
  | .nil => true
  | .own _ es => bareRows es
  | .down _ _ => true
  | _ => false
def V.closed : V → Bool
  | .one l => l.closed
  | .agg ls => ls.all L.closed
  | .tup xs => xs.all fun x => x.2.all L.closed
/-- A cell that may be moved into an array whose lists are its own: a plain one, or an array of one's own all of whose lists are its own. -/
def L.mov (h : List AObj) : L → Bool
  | .pv p => p.bare
  | .nil => true
  | .arr o => match h[o]? with
    | some (.arr _ es) => bareRows es
    | some (.darr _ _) => true
    | _ => false
  | _ => false
def arrsOf (ls : List L) : List Nat := ls.filterMap fun | .arr o => some o | _ => none
/-- What an array holds all of whose lists are its own. -/
def deepOf (h : List AObj) (o : Nat) : Option (Nat × List (List PV)) :=
  match h[o]? with
  | some (.arr z es) => if bareRows es then some (z, es) else none
  | some (.darr z es) => some (z, es)
  | _ => none
/-- What is appended to: nothing, or an array of that width. -/
def srcD (h : List AObj) (z : Nat) : V → Option (Option (Nat × List (List PV)))
  | .one .nil => some none
  | .one (.arr o) => match deepOf h o with
    | some (z', es) => if z' = z then some (some (o, es)) else none
    | none => none
  | _ => none
def srcRows : Option (Nat × List (List PV)) → List (List PV)
  | some x => x.2
  | none => []
def srcNot (src : Option (Nat × List (List PV))) (o : Nat) : Bool :=
  match src with
  | some x => !(x.1 == o)
  | none => true
def srcDead (src : Option (Nat × List (List PV))) (h : List AObj) : List AObj :=
  match src with
  | some x => h.set x.1 .dead
  | none => h
/-- What is appended: an array that is moved, or plain rows. -/
def ysD (h : List AObj) (z : Nat) (src : Option (Nat × List (List PV))) : V → Option (List (List PV))
  | .one (.arr o) => match deepOf h o with
    | some (z', ys) => if z' = z ∧ srcNot src o = true then some ys else none
    | none => none
  | .one (.pv (.lst ys)) => if flatRows ys then some ys else none
  | .one .nil => some []
  | _ => none
def storeD (h : List AObj) (n : Nat) (a v : V) : Option (List AObj) :=
  match a with
  | .one (.ptr o i j) => match deepOf h o with
    | some (z, es) => match es[i]?, viewL h v.cells with
      | some e, some ps => if v.cells.length = n ∧ j + n ≤ e.length ∧ v.cells.all (L.notArr o) = true ∧ v.cells.all (L.mov h) = true ∧ (arrsOf v.cells).Nodup then some ((freezeLs h v.cells).set o (.darr z (es.set i (putAt e j ps)))) else none
      | _, _ => none
    | none => storeV h n a v
  | _ => none

def arrsOfV (v : V) : List Nat := arrsOf v.cells
/-- A call of a function that writes into what its first argument names. -/
def callMV (call : Nat → List V → Option V) (h : List AObj) (f : Nat) (x : V) (n : Int) : Option (V × List AObj) :=
  match x with
  | .one (.sub o c) => match h[o]? with
    | some (.zarr z es) => match cellAt z es c with
      | some (.lst []) => match call (f + modK) [vlst [], vint .i64 n] with
        | some (.tup [(false, [l])]) => if l.flat then some (.one l, h) else none
        | _ => none
      | some (.lst l) => match call (f + modK) [.one (.down (wid l) l), vint .i64 n] with
        | some (.tup [(false, [l']), (false, [.down z' es'])]) => if l'.flat = true ∧ z' = wid l then some (.one l', h.set o (.zarr z (putCell z es c (.lst es')))) else none
        | _ => none
      | _ => none
    | _ => none
  | v => if (arrsOf v.cells).Nodup then (match lendV h v with
    | some a => match call (f + modK) [a, vint .i64 n] with
      | some (.tup ((false, [l]) :: outs)) => if l.flat then (match putOuts h (arrsOf v.cells) outs with
        | some h' => some (.one l, h')
        | none => none) else none
      | _ => none
    | none => none) else none

/-- The operations that turn the variables. -/
def eop (call : Nat → List V → Option V) (σ : St) : AOp → Option (V × List AObj)
  | .alloc zero => some (.one (.ptr σ.h.length 0 0), σ.h ++ [.box zero])
  | .allocW zero => some (.one (.ptr σ.h.length 0 0), σ.h ++ [.box zero, .res])
  | .allocAt i zero => match σ.h[i]? with
    | some .res => some (.one (.ptr i 0 0), σ.h.set i (.box zero))
    | _ => none
  | .box x => if (x.ev σ).cells.all plain then some (.one (.ptr σ.h.length 0 0), σ.h ++ [.box (x.ev σ).cells]) else none
  | .buildS z parts =>
    let vs := parts.map (Opd.ev σ)
    if vs.all (fun v => v.cells.length == z) && decide (0 < z) && decide (vs.length * z ≤ 16777216) then
      match viewRows σ.h vs with
      | some es => some (.one (.arr (freezeVs σ.h vs).length), freezeVs σ.h vs ++ [.arr z es])
      | none => none
    else none
  | .store n a v => match storeV σ.h n (a.ev σ) (v.ev σ) with
    | some h => some (.tup [], h)
    | none => none
  | .storeB n a v => if isVar σ.h (a.ev σ) then (match storeV σ.h n (a.ev σ) (v.ev σ) with
    | some h => some (.tup [], h)
    | none => none) else none
  | .allocT n => some (.one (.tp n), σ.h ++ [.tbox n])
  | .storeT n a v => match a.ev σ with
    | .one (.tp m) => if m = n ∧ (v.ev σ).cells.length = n ∧ (v.ev σ).cells.all plain = true then some (.tup [], σ.h) else none
    | _ => none
  | .make bytes zero n => match isInt (n.ev σ) with
    | some (_, m) => if 0 ≤ m ∧ m * bytes ≤ 140737488355328 ∧ m ≤ 9223372036854775807 ∧ 0 < zero.length then some (.one (.arr σ.h.length), σ.h ++ [.arr zero.length (List.replicate m.toNat zero)]) else none
    | none => none
  | .append z bytes x y => match x.ev σ, asList σ.h (y.ev σ) with
    | .one .nil, some ys => if ys.all (fun e => e.length == z) && decide (0 < z) && decide (ys.length * bytes ≤ 140737488355328) && decide (ys.length ≤ 9223372036854775807)
        then some (.one (.arr σ.h.length), σ.h ++ [.arr z ys]) else none
    | .one (.arr o), some ys => match σ.h[o]? with
      | some (.arr z' es) => if z' = z ∧ ys.all (fun e => e.length == z) = true ∧ (es.length + ys.length) * bytes ≤ 140737488355328 ∧ es.length + ys.length ≤ 9223372036854775807 ∧ (y.ev σ).cells.all (L.notArr o) = true
          then some (.one (.arr σ.h.length), σ.h.set o .dead ++ [.arr z (es ++ ys)]) else none
      | _ => none
    | _, _ => none
  | .appendS bytes x y => match x.ev σ, isStr (y.ev σ) with
    | .one .nil, some s => if s.length * bytes ≤ 140737488355328 ∧ s.length ≤ 9223372036854775807 then some (.one (.arr σ.h.length), σ.h ++ [.arr 1 (ofBytes s)]) else none
    | .one (.arr o), some s => match σ.h[o]? with
      | some (.arr z' es) => if z' = 1 ∧ (es.length + s.length) * bytes ≤ 140737488355328 ∧ es.length + s.length ≤ 9223372036854775807
          then some (.one (.arr σ.h.length), σ.h.set o .dead ++ [.arr 1 (es ++ ofBytes s)]) else none
      | _ => none
    | _, _ => none
  | .slcL z x lo hi => match asList σ.h (x.ev σ) with
    | some es => match bound σ 0 lo, bound σ (es.length : Int) hi with
      | some l, some r => if 0 ≤ l ∧ l ≤ r ∧ r ≤ es.length ∧ es.all (fun e => e.length == z) = true then some (vlst ((es.drop l.toNat).take (r.toNat - l.toNat)), freezeLs σ.h (x.ev σ).cells) else none
      | _, _ => none
    | none => none
  | .callD f args =>
    let vs := args.map (Opd.ev σ)
    match viewArgs σ.h vs with
    | some as => match call f as with
      | some r => some (setV r, freezeVs σ.h vs)
      | none => none
    | none => none
  | .mkmap => some (.one (.mp σ.h.length), σ.h ++ [.imap []])
  | .mset x k v => match x.ev σ, k.ev σ, v.ev σ with
    | .one (.mp o), .one (.pv (.int .i64 n)), .one (.pv (.int .i64 m)) => match σ.h[o]? with
      | some (.imap kvs) => if inR n ∧ inR m ∧ kvs.length < 9223372036854775806 then some (.tup [], σ.h.set o (.imap ((n, m) :: kvs))) else none
      | _ => none
    | _, _, _ => none
  | .insert _ z bytes x i v => match x.ev σ, isInt (i.ev σ), v.ev σ with
    | .one (.arr o), some (.i64, n), .one (.arr o2) => match σ.h[o]?, σ.h[o2]? with
      | some (.arr z1 es), some (.arr z2 vs) => if z1 = z ∧ z2 = z ∧ o ≠ o2 ∧ 0 < es.length ∧ 0 < vs.length ∧ 0 ≤ n ∧ n ≤ es.length ∧ (es.length + vs.length) * bytes ≤ 140737488355328 ∧ es.length + vs.length ≤ 9223372036854775807
          then some (.one (.arr σ.h.length), σ.h.set o .dead ++ [.arr z (es.take n.toNat ++ vs ++ es.drop n.toNat)]) else none
      | _, _ => none
    | _, _, _ => none
  | .mkfn k caps => match capsOf σ.h (caps.map (Opd.ev σ)) with
    | some (cs, h) => some (.one (.fn k cs), h)
    | none => none
  | .callC f args =>
    let vs := args.map (Opd.ev σ)
    match viewArgs σ.h vs with
    | some as => match call f as with
      | some r => some (thaw (if r.closed then σ.h else freezeVs σ.h vs) r)
      | none => none
    | none => none
  | .storeD n a v => match storeD σ.h n (a.ev σ) (v.ev σ) with
    | some h => some (.tup [], h)
    | none => none
  | .buildD z parts =>
    let vs := parts.map (Opd.ev σ)
    let ls := vs.flatMap V.cells
    if vs.all (fun v => v.cells.length == z) && decide (0 < z) && decide (vs.length * z ≤ 16777216) && ls.all (L.mov σ.h) && decide ((arrsOf ls).Nodup) then
      match viewRows σ.h vs with
      | some es => some (.one (.arr (freezeVs σ.h vs).length), freezeVs σ.h vs ++ [.darr z es])
      | none => none
    else none
  | .appendD z bytes x y =>
    match srcD σ.h z (x.ev σ) with
    | none => none
    | some src => match ysD σ.h z src (y.ev σ) with
      | none => none
      | some ys => if ys.all (fun e => e.length == z) = true ∧ 0 < z ∧ ((srcRows src).length + ys.length) * bytes ≤ 140737488355328 ∧ (srcRows src).length + ys.length ≤ 9223372036854775807
          then some (.one (.arr σ.h.length), srcDead src (freezeLs σ.h (y.ev σ).cells) ++ [.darr z (srcRows src ++ ys)]) else none
  | .storeZ n a v => match storeZV σ.h n (a.ev σ) (v.ev σ) with
    | some h => some (.tup [], h)
    | none => none
  | .callZ f args => match viewArgs (lent σ.h) (args.map (Opd.ev σ)) with
    | some as => match call f as with
      | some r => if r.closed then some (thawZ σ.h r) else none
      | none => none
    | none => none
  | .callM f x k => match k.ev σ with
    | .one (.pv (.int .i64 n)) => callMV call σ.h f (x.ev σ) n
    | _ => none
  | .call f args false false =>
    let vs := args.map (Opd.ev σ)
    match viewArgs σ.h vs with
    | some as => match call f as with
      | some r => some (thaw (freezeVs σ.h vs) r)
      | none => none
    | none => none
  | _ => none

def put (t : List V) (d : Option Nat) (v : V) : List V :=
  match d with
  | some d => t.set d v
  | none => t

def wants (σ : St) : Option (Nat × Bool) → Option Bool
  | none => some true
  | some (g, w) => match σ.t.getD g (.tup []) with
    | .one (.pv (.bool b)) => some (b == w)
    | .tup [] => some false
    | _ => none

def stepO (call : Nat → List V → Option V) (o : AOper) (σ : St) : Option St :=
  match wants σ o.guard with
  | some true => match fop call σ o.op with
    | some v => some ⟨put σ.t o.dst v, σ.h⟩
    | none => match eop call σ o.op with
      | some (v, h) => some ⟨put σ.t o.dst v, h⟩
      | none => none
  | some false => some ⟨put σ.t o.dst (.tup []), σ.h⟩
  | none => none

def execOps (call : Nat → List V → Option V) : List AOper → St → Option St
  | [], σ => some σ
  | o :: r, σ => match stepO call o σ with
    | some σ' => execOps call r σ'
    | none => none

def loopN : Nat → (St → Option (Ex × St)) → St → Option (Ex × St)
  | 0, _, _ => none
  | n + 1, f, σ => match f σ with
    | some (.normal, σ') => loopN n f σ'
    | r => r

def exec (call : Nat → List V → Option V) (lp : (St → Option (Ex × St)) → St → Option (Ex × St)) : ACode → St → Option (Ex × St)
  | .skip, σ => some (.normal, σ)
  | .region ops, σ => match execOps call ops σ with
    | some σ' => some (.normal, σ')
    | none => none
  | .seq a b, σ => match exec call lp a σ with
    | some (.normal, σ') => exec call lp b σ'
    | r => r
  | .cond c a b, σ => match isBool (c.ev σ) with
    | some t => if t then exec call lp a σ else exec call lp b σ
    | none => none
  | .block id c, σ => match exec call lp c σ with
    | some (.exit i, σ') => if i = id then some (.normal, σ') else some (.exit i, σ')
    | r => r
  | .loop c, σ => lp (exec call lp c) σ
  | .exit id, σ => some (.exit id, σ)
  | .ret, σ => some (.ret, σ)

/-- A result's cell, ready to be handed over. -/
def giveL (h : List AObj) : L → Option L
  | .pv p => some (.pv p)
  | .nil => some .nil
  | .arr o => match h[o]? with
    | some (.arr z es) => some (.own z es)
    | some (.froz _ es) => some (.pv (.lst es))
    | some (.darr z es) => some (.down z es)
    | _ => none
  | _ => none
def giveLs (h : List AObj) : List L → Option (List L)
  | [] => some []
  | l :: ls => match giveL h l, giveLs h ls with
    | some x, some xs => some (x :: xs)
    | _, _ => none

def resultOf (σ : St) : ARes → Option V
  | .tmp t => some (σ.t.getD t (.tup []))
  | .cell t n => loadV σ.h true n (σ.t.getD t (.tup []))

def resultsOf (σ : St) : List ARes → Option (List V)
  | [] => some []
  | r :: rs => match resultOf σ r, resultsOf σ rs with
    | some x, some xs => some (x :: xs)
    | _, _ => none

def comp (h : List AObj) : V → Option (Bool × List L)
  | .one l => match giveLs h [l] with
    | some xs => some (false, xs)
    | none => none
  | .agg ls => match giveLs h ls with
    | some xs => some (true, xs)
    | none => none
  | .tup _ => none
def comps (h : List AObj) : List V → Option (List (Bool × List L))
  | [] => some []
  | v :: vs => match comp h v, comps h vs with
    | some x, some xs => some (x :: xs)
    | _, _ => none

def finish (σ : St) (rs : List ARes) : Option V :=
  match resultsOf σ rs with
  | none => none
  | some vs =>
    if (arrsOf (vs.flatMap V.cells)).Nodup then
      match comps σ.h vs with
      | some [(true, ls)] => some (.agg ls)
      | some [(false, [l])] => some (.one l)
      | some xs => if xs.length = 1 then none else some (.tup xs)
      | none => none
    else none

def start (fn : AFn) (args : List V) : St := ⟨args ++ List.replicate (fn.ntmps - args.length) (.tup []), []⟩

def done (fn : AFn) : Option (Ex × St) → Option V
  | some (.normal, σ) => finish σ fn.results
  | some (.ret, σ) => finish σ fn.results
  | _ => none

/-! A function that writes into what its arguments name. -/
def thawA : List AObj → List V → List V × List AObj
  | h, [] => ([], h)
  | h, v :: vs => let q := thaw h v; let r := thawA q.2 vs; (q.1 :: r.1, r.2)
def startM (fn : AFn) (args : List V) : St := ⟨(thawA [] args).1 ++ List.replicate (fn.ntmps - args.length) (.tup []), (thawA [] args).2.map AObj.zone⟩
def outsOf : List AObj → Option (List (Bool × List L))
  | [] => some []
  | .zarr z es :: h => match outsOf h with
    | some xs => some ((false, [.down z es]) :: xs)
    | none => none
  | _ => none
/-- It makes nothing that may be lent to be written. -/
def AOp.noZ : AOp → Bool
  | .callZ _ _ => false
  | _ => true
def ACode.noZ : ACode → Bool
  | .region ops => ops.all fun o => o.op.noZ
  | .seq a b => a.noZ && b.noZ
  | .cond _ a b => a.noZ && b.noZ
  | .block _ c => c.noZ
  | .loop c => c.noZ
  | _ => true
def finM (m : Nat) (fn : AFn) (σ : St) : Option V :=
  match finish σ fn.results, outsOf (σ.h.take m) with
  | some (.one l), some os => if l.flat then some (.tup ((false, [l]) :: os)) else none
  | _, _ => none
def doneM (m : Nat) (fn : AFn) : Option (Ex × St) → Option V
  | some (.normal, σ) => finM m fn σ
  | some (.ret, σ) => finM m fn σ
  | _ => none

/-- A function of the table, or one beside it, under a fuel. -/
def run (Φ : Nat → Option AFn) (ext : Nat → List V → Option V) : Nat → Nat → List V → Option V
  | 0, _, _ => none
  | n + 1, k, args => match Φ k with
    | none => if modK ≤ k then (match Φ (k - modK) with
      | some fn => if fn.body.noZ then doneM (thawA [] args).2.length fn (exec (run Φ ext n) (loopN n) fn.body (startM fn args)) else none
      | none => none) else ext k args
    | some fn => done fn (exec (run Φ ext n) (loopN n) fn.body (start fn args))

end Gi
