/- From the model's code to the pure machine's: a program that stops (none) at whatever the pure machine does not have. -/
import Derived.Test.YtfnjohoekldfcaaGreatGic
import Derived.Orders
namespace Gi
open Go
set_option linter.unusedVariables false
set_option linter.unusedSimpArgs false

def cvL : Value → Option L
  | .int k n => some (.pv (.int k n))
  | .bool b => some (.pv (.bool b))
  | .string s => some (.pv (.str s.data.toList))
  | .slice none 0 0 => some .nil
  | _ => none
def cvP : Value → Option PV
  | .int k n => some (.int k n)
  | .bool b => some (.bool b)
  | .string s => some (.str s.data.toList)
  | .slice none 0 0 => some (.lst [])
  | _ => none
def cOpd : Operand → Option Opd
  | .tmp t => some (.tmp t)
  | .const (.int k n) => some (.pv (.int k n))
  | .const (.bool b) => some (.pv (.bool b))
  | .const (.string s) => some (.pv (.str s.data.toList))
  | .const (.slice none 0 0) => some .nil
  | _ => none
def optM {α β : Type} (f : α → Option β) : List α → Option (List β)
  | [] => some []
  | x :: xs => match f x, optM f xs with
    | some y, some ys => some (y :: ys)
    | _, _ => none

def isAggT (P : Program) (t : TypeId) : Option Bool :=
  match P.underlying t with
  | some (.struct _) => some true
  | some (.array _ _) => some true
  | some _ => some false
  | none => none
def szT (P : Program) (t : TypeId) : Option Nat := (P.info? t).map (·.size)
def byT (P : Program) (t : TypeId) : Option Nat := (P.info? t).map (·.bytes)
def zeroT (P : Program) (t : TypeId) : Option Value := (P.info? t).bind (·.zero)
def elemT (P : Program) (t : TypeId) : Option TypeId :=
  match P.underlying t with
  | some (.slice e) => some e
  | _ => none
def fieldT (P : Program) (t : TypeId) (f : Nat) : Option Field :=
  match P.underlying t with
  | some (.struct fs) => fs[f]?
  | _ => none
/-- No slice, no pointer: numbers, bools, strings and structs of these. -/
def plainT (P : Program) : Nat → TypeId → Bool
  | 0, _ => false
  | n + 1, t => match P.underlying t with
    | some .bool => true
    | some (.int _) => true
    | some .string => true
    | some (.struct fs) => fs.toList.all fun f => plainT P n f.type
    | _ => false

/-- The cells of a type whose values are compared cell by cell. -/
def eqFs (P : Program) (g : TypeId → Option (List EK)) : List Field → Nat → Option (List EK)
  | [], _ => some []
  | f :: fs, off => if f.name ≠ "_" ∧ f.offset = off then (match g f.type with
    | some m => if szT P f.type = some m.length ∧ 0 < m.length then (match eqFs P g fs (off + m.length) with
      | some ks => some (m ++ ks)
      | none => none) else none
    | none => none) else none
def eqT (P : Program) : Nat → TypeId → Option (List EK)
  | 0, _ => none
  | n + 1, t => match P.underlying t with
    | some .bool => some [.b]
    | some (.int _) => some [.i]
    | some .string => some [.s]
    | some (.struct fs) => if P.stoodInHeld t then none else eqFs P (eqT P n) fs.toList 0
    | _ => none

/-- How a function's operations are read: in a drawn region; what calls give as plain data. -/
structure Md where
  draw : Bool
  dt : Bool

def cOp (P : Program) (kf : FuncId → Option Nat) (md : Md) : Op → Option AOp
  | .move x => (cOpd x).map .mv
  | .assign x => (cOpd x).map .mv
  | .pick c a b => match cOpd c, cOpd a, cOpd b with
    | some c, some a, some b => some (.pick c a b)
    | _, _, _ => none
  | .alloc t => match zeroT P t with
    | some v => match optM cvL v.cells.toList with
      | some cs => some (.alloc cs)
      | none => none
    | none => none
  | .box _ x => (cOpd x).map .box
  | .build t parts => match P.underlying t, zeroT P t, optM (fun x => match fieldT P t x.1, cOpd x.2 with
        | some f, some y => (szT P f.type).map fun n => (f.offset, n, y)
        | _, _ => none) parts.toList with
    | some (.struct fs), some v, some ps => match optM cvL v.cells.toList with
      | some cs => if fs.toList.all (fun f => (szT P f.type).isSome) then some (.build cs ps) else none
      | none => none
    | _, _, _ => none
  | .buildSlice t n parts => match elemT P t, optM (fun x => cOpd x.2) parts.toList with
    | some e, some ps => match szT P e, zeroT P e with
      | some z, some v => if (parts.toList.map (·.1) == List.range n) && v.cells.size == z then some (.buildS z ps) else none
      | _, _ => none
    | _, _ => none
  | .load t a => match isAggT P t, szT P t, cOpd a with
    | some g, some n, some a => some (.load g n a)
    | _, _, _ => none
  | .store t a v => match szT P t, cOpd a, cOpd v with
    | some n, some a, some v => some (.store n a v)
    | _, _, _ => none
  | .binOp op t x y _ => match P.underlying t, cOpd x, cOpd y with
    | some .bool, some x, some y => match op with
      | .eql => some (.eqB false x y)
      | .neq => some (.eqB true x y)
      | _ => none
    | some (.int _), some x, some y => some (.bin op x y)
    | some .string, some x, some y => some (.bin op x y)
    | some (.struct _), some x, some y => match eqT P 6 t, P.eqGuardType P.depth t with
      | some n, false => match op with
        | .eql => some (.eqS false n x y)
        | .neq => some (.eqS true n x y)
        | _ => none
      | _, _ => none
    | _, _, _ => none
  | .unOp op _ x => (cOpd x).map (.un op)
  | .convert s d x => match P.underlying s, P.underlying d, cOpd x with
    | some (.int _), some (.int k), some x => some (.conv k x)
    | some (.slice e), some .string, some x => match P.underlying e with
      | some (.int .u8) => some (.b2s x)
      | _ => none
    | some .string, some (.slice e), some x => match P.underlying e, szT P e with
      | some (.int .u8), some 1 => some (.s2b x)
      | _, _ => none
    | _, _, _ => none
  | .makeSlice t n m => match elemT P t, cOpd n, cOpd m with
    | some e, some (.tmp a), some (.tmp b) => if a = b then (match byT P e, szT P e, zeroT P e with
      | some by', some z, some v => match optM cvP v.cells.toList with
        | some zs => if zs.length = z then some (.make by' zs (.tmp a)) else none
        | none => none
      | _, _, _ => none) else none
    | _, _, _ => none
  | .slice t x lo hi mx => match P.underlying t, cOpd x, optM cOpd lo.toList, optM cOpd hi.toList, mx with
    | some .string, some x, some lo, some hi, none => some (.slcS x lo.head? hi.head?)
    | some (.slice e), some x, some lo, some hi, none => match szT P e with
      | some z => if z = 0 then none else some (.slcL z x lo.head? hi.head?)
      | none => none
    | _, _, _, _, _ => none
  | .fieldAddr t x f => match fieldT P t f, cOpd x with
    | some fd, some x => match szT P fd.type with
      | some n => if n = 0 then none else some (.fieldA x fd.offset)
      | none => none
    | _, _ => none
  | .field t x f => match fieldT P t f, cOpd x with
    | some fd, some x => match isAggT P fd.type, szT P fd.type with
      | some g, some n => some (.field x g fd.offset n)
      | _, _ => none
    | _, _ => none
  | .indexAddr t x i => match elemT P t, cOpd x, cOpd i with
    | some e, some x, some i => match szT P e with
      | some z => some (.indexA z x i)
      | none => none
    | _, _, _ => none
  | .index t x i => match P.underlying t, cOpd x, cOpd i with
    | some .string, some x, some i => some (.indexS x i)
    | _, _, _ => none
  | .extract x i => (cOpd x).map (.extract · i)
  | .call c => match c.callee with
    | .value (.func f) => match kf f, optM cOpd c.args.toList, P.funcs[f]? with
      | some k, some as, some fn => some (if md.dt && !md.draw && !(fn.resultTypes.toList.all (plainT P 6)) then .callD k as else .call k as (fn.resultTypes.toList.all (plainT P 6)) md.draw)
      | _, _, _ => none
    | .value (.tmp t) => match optM cOpd c.args.toList with
      | some as => some (.callV (.tmp t) as)
      | none => none
    | .builtin .len => match c.args.toList, c.argTypes.toList with
      | [x], [t] => match P.underlying t, cOpd x with
        | some .string, some x => some (.lenS x)
        | some (.slice _), some x => some (.len x)
        | _, _ => none
      | _, _ => none
    | .builtin .append => match c.args.toList, c.argTypes.toList with
      | [x, y], [t, u] => match elemT P t, P.underlying u, cOpd x, cOpd y with
        | some e, some (.slice _), some x, some y => match szT P e, byT P e, zeroT P e with
          | some z, some b, some v => if v.cells.size = z ∧ t = u then some (.append z b x y) else none
          | _, _, _ => none
        | some e, some .string, some x, some y => match P.underlying e, szT P e, byT P e, zeroT P e with
          | some (.int .u8), some 1, some b, some (.int .u8 0) => some (.appendS b x y)
          | _, _, _, _ => none
        | _, _, _, _ => none
      | _, _ => none
    | .builtin .min => match c.args.toList with
      | [x, y] => match cOpd x, cOpd y with
        | some x, some y => some (.mm false x y)
        | _, _ => none
      | _ => none
    | .builtin .max => match c.args.toList with
      | [x, y] => match cOpd x, cOpd y with
        | some x, some y => some (.mm true x y)
        | _, _ => none
      | _ => none
    | _ => none
  | .makeFunc (.func f) first caps => match kf f, optM cOpd caps.toList with
    | some k, some cs => if first.isEmpty then some (.mkfn k cs) else none
    | _, _ => none
  | _ => none

/-- An operation that leaves the variables alone. -/
def AOp.isF : AOp → Bool
  | .alloc _ => false
  | .box _ => false
  | .buildS _ _ => false
  | .store _ _ _ => false
  | .make _ _ _ => false
  | .append _ _ _ _ => false
  | .appendS _ _ _ => false
  | .callD _ _ => false
  | .slcL _ _ _ _ => false
  | .mkfn _ _ => false
  | .call _ _ fl fz => fl || fz
  | _ => true

def cGuard (ops : Array Oper) : Option (Nat × Bool) → Option (Option (Nat × Bool))
  | none => some none
  | some (j, w) => match ops[j]? with
    | some o => match o.dst with
      | some t => some (some (t, w))
      | none => none
    | none => none

def cOper (P : Program) (kf : FuncId → Option Nat) (md : Md) (ops : Array Oper) (o : Oper) : Option AOper :=
  match cOp P kf md o.op, cGuard ops o.guard with
  | some op, some g => some ⟨o.dst, op, g⟩
  | _, _ => none

/-- What an operation reads. -/
def AOp.opds : AOp → List Opd
  | .mv x => [x]
  | .pick c a b => [c, a, b]
  | .alloc _ => []
  | .box x => [x]
  | .build _ ps => ps.map (·.2.2)
  | .buildS _ ps => ps
  | .load _ _ a => [a]
  | .store _ a v => [a, v]
  | .bin _ x y => [x, y]
  | .eqB _ x y => [x, y]
  | .un _ x => [x]
  | .conv _ x => [x]
  | .b2s x => [x]
  | .make _ _ n => [n]
  | .slcS x lo hi => x :: (lo.toList ++ hi.toList)
  | .fieldA x _ => [x]
  | .field x _ _ _ => [x]
  | .indexA _ x i => [x, i]
  | .indexS x i => [x, i]
  | .extract x _ => [x]
  | .len x => [x]
  | .lenS x => [x]
  | .append _ _ x y => [x, y]
  | .appendS _ x y => [x, y]
  | .call _ as _ _ => as
  | .mm _ x y => [x, y]
  | .mkfn _ cs => cs
  | .callV x as => x :: as
  | .eqS _ _ x y => [x, y]
  | .slcL _ x lo hi => x :: (lo.toList ++ hi.toList)
  | .s2b x => [x]
  | .callD _ as => as
def Opd.tmps : Opd → List Nat
  | .tmp n => [n]
  | _ => []
def AOper.reads (o : AOper) : List Nat := o.op.opds.flatMap Opd.tmps ++ (match o.guard with | some (g, _) => [g] | none => [])
def apartA (x y : AOper) : Bool :=
  (match x.dst with
   | some d => !(y.reads).contains d && y.dst != some d
   | none => true) &&
  (match y.dst with
   | some d => !(x.reads).contains d
   | none => true)
def waitsA (ops : Array Oper) (j k : Nat) : Bool := match ops[j]? with
  | some o => o.after.any fun e => Region.binds .any e && e.on == k
  | none => false
def freeA (ops : Array Oper) (oos : List AOper) (listed : Array Bool) (k : Nat) : Bool :=
  (List.range oos.length).all fun j => j == k || listed.getD j true || waitsA ops j k || (match oos[k]?, oos[j]? with
    | some x, some y => apartA x y
    | _, _ => false)
def lexFromA (ops : Array Oper) (oos : List AOper) : Nat → Nat → Array Bool → Bool
  | 0, _, listed => (Region.ready .any ops listed).isEmpty
  | fuel + 1, k, listed => (Region.ready .any ops listed).contains k && freeA ops oos listed k && lexFromA ops oos fuel (k + 1) (listed.setIfInBounds k true)

def cCode (P : Program) (kf : FuncId → Option Nat) (dt : Bool) : Code → Option ACode
  | .skip => some .skip
  | .region _ ops draw => match optM (cOper P kf ⟨draw, dt⟩ ops) ops.toList with
    | some os => if draw then (if lexFromA ops os ops.size 0 (Array.replicate ops.size false) && os.all (fun o => o.op.isF) then some (.region os) else none) else some (.region os)
    | none => none
  | .seq a b => match cCode P kf dt a, cCode P kf dt b with
    | some a, some b => some (.seq a b)
    | _, _ => none
  | .cond c a b => match cOpd c, cCode P kf dt a, cCode P kf dt b with
    | some c, some a, some b => some (.cond c a b)
    | _, _, _ => none
  | .block id c => (cCode P kf dt c).map (.block id)
  | .loop c => (cCode P kf dt c).map .loop
  | .exit id => some (.exit id)
  | .ret => some .ret
  | _ => none

def cRes (P : Program) : ResultVar → Option ARes
  | .tmp t => some (.tmp t)
  | .cell t ty => match isAggT P ty, szT P ty with
    | some true, some n => some (.cell t n)
    | _, _ => none

/-- The functions whose calls give plain data. -/
def dtNames : List String := ["loop.example/g00583/impl.EncodeRecord", "loop.example/g00583/spec.EncodeRecord"]

def cFn (P : Program) (kf : FuncId → Option Nat) (fn : Func) : Option AFn :=
  match fn.body with
  | some c => match cCode P kf (dtNames.contains fn.name) c, optM (cRes P) fn.results.toList with
    | some b, some rs => if fn.name == "runtime.NumGoroutine" then none else some ⟨fn.ntmps, rs, b⟩
    | _, _ => none
  | none => none

end Gi
