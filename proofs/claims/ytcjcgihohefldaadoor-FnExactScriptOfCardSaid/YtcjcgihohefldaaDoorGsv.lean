/- The functions that stand beside the table, and the law at each number by the pure machine's own run. -/
import Derived.Test.YtcjcgihohefldaaDoorGta
import Derived.KernelRfl
namespace Gi
open Go Go.RowKit
set_option linter.unusedSimpArgs false
set_option linter.unusedVariables false
set_option maxHeartbeats 8000000
set_option maxRecDepth 100000
/-- the scripts -/
def scrs : List (List UInt8) := [[115, 101, 116, 32, 48, 32, 53, 59, 112, 117, 116, 32, 48, 32, 49, 32, 97, 59, 115, 101, 110, 100, 32, 48, 32, 49, 32, 97, 59, 101, 110, 100], [103, 101, 116, 32, 48, 32, 49, 32, 97, 59, 97, 100, 100, 32, 48, 32, 48, 59, 112, 117, 116, 32, 48, 32, 50, 32, 98, 59, 115, 101, 110, 100, 32, 48, 32, 50, 32, 98], [102, 101, 116, 99, 104, 32, 48, 32, 115, 116, 121, 108, 101, 59, 105, 102, 32, 48, 32, 51, 59, 112, 117, 116, 32, 48, 32, 51, 32, 100, 111, 110, 101, 59, 115, 101, 116, 32, 49, 32, 55, 59, 115, 101, 110, 100, 32, 49, 32, 51, 32, 100, 111, 110, 101], [115, 101, 116, 32, 48, 32, 49, 59, 115, 101, 110, 100, 32, 48, 32, 48, 32, 97, 59, 115, 101, 116, 32, 48, 32, 50, 59, 115, 101, 110, 100, 32, 48, 32, 48, 32, 97, 59, 115, 101, 116, 32, 48, 32, 51, 59, 112, 117, 116, 32, 48, 32, 48, 32, 97, 59, 103, 111, 116, 111, 32, 54]]
/-- the lines, and what they say -/
def lins : List (List UInt8 × Int × Int × Int × List UInt8) := [([115, 101, 116, 32, 48, 32, 53], 1, 0, 5, []), ([112, 117, 116, 32, 48, 32, 49, 32, 97], 7, 0, 1, [97]), ([115, 101, 110, 100, 32, 48, 32, 49, 32, 97], 8, 0, 1, [97]), ([101, 110, 100], 9, 0, 0, []), ([103, 101, 116, 32, 48, 32, 49, 32, 97], 6, 0, 1, [97]), ([97, 100, 100, 32, 48, 32, 48], 2, 0, 0, []), ([112, 117, 116, 32, 48, 32, 50, 32, 98], 7, 0, 2, [98]), ([115, 101, 110, 100, 32, 48, 32, 50, 32, 98], 8, 0, 2, [98]), ([102, 101, 116, 99, 104, 32, 48, 32, 115, 116, 121, 108, 101], 5, 0, 0, [115, 116, 121, 108, 101]), ([105, 102, 32, 48, 32, 51], 3, 0, 3, []), ([112, 117, 116, 32, 48, 32, 51, 32, 100, 111, 110, 101], 7, 0, 3, [100, 111, 110, 101]), ([115, 101, 116, 32, 49, 32, 55], 1, 1, 7, []), ([115, 101, 110, 100, 32, 49, 32, 51, 32, 100, 111, 110, 101], 8, 1, 3, [100, 111, 110, 101]), ([115, 101, 116, 32, 48, 32, 49], 1, 0, 1, []), ([115, 101, 110, 100, 32, 48, 32, 48, 32, 97], 8, 0, 0, [97]), ([115, 101, 116, 32, 48, 32, 50], 1, 0, 2, []), ([115, 101, 116, 32, 48, 32, 51], 1, 0, 3, []), ([112, 117, 116, 32, 48, 32, 48, 32, 97], 7, 0, 0, [97]), ([103, 111, 116, 111, 32, 54], 4, 0, 6, [])]
def cutAt (c : UInt8) : List UInt8 → List (List UInt8)
  | [] => [[]]
  | x :: r => if x = c then [] :: cutAt c r else match cutAt c r with
    | [] => [[x]]
    | p :: ps => (x :: p) :: ps
def dig (n : Int) : Option (List UInt8) := if 0 ≤ n ∧ n < 10 then some [UInt8.ofNat (48 + n.toNat)] else none
/-- strconv.Itoa of one digit -/
def eItoa : List V → Option V
  | [.one (.pv (.int .i64 n))] => (dig n).map vstr
  | _ => none
def insV (x : Int × Int × Int × List UInt8) : V := .tup [(true, [.pv (.int .i64 x.1), .pv (.int .i64 x.2.1), .pv (.int .i64 x.2.2.1), .pv (.str x.2.2.2)]), (false, [.pv (.bool true)])]
/-- strings.Split of a script -/
def eSplit : List V → Option V
  | [.one (.pv (.str s)), .one (.pv (.str sep))] => if s ∈ scrs ∧ sep = [59] then some (.one (.own 1 ((cutAt 59 s).map fun x => [PV.str x]))) else none
  | _ => none
/-- ParseInstr of a line -/
def eIns : List V → Option V
  | [.one (.pv (.str s))] => (lins.lookup s).map insV
  | _ => none
def ext0 (k : Nat) (xs : List V) : Option V := if k = 68 then eItoa xs else none
def extF (k : Nat) (xs : List V) : Option V := if k = 68 then eItoa xs else if k = 510 then eSplit xs else if k = 511 then eIns xs else none
theorem law0 : run Ph extF 100 502 [vint .i64 0] = some (vbool true) := by kernel_rfl
theorem law1 : run Ph extF 100 502 [vint .i64 1] = some (vbool true) := by kernel_rfl
theorem law2 : run Ph extF 100 502 [vint .i64 2] = some (vbool true) := by kernel_rfl
theorem law3 : run Ph extF 100 502 [vint .i64 3] = some (vbool true) := by kernel_rfl
theorem law4 : run Ph extF 100 502 [vint .i64 4] = some (vbool true) := by kernel_rfl
theorem law_neg (m : Nat) : run Ph extF 100 502 [vint .i64 (Int.negSucc m)] = some (vbool true) := by kernel_rfl
theorem law_big (m : Nat) : run Ph extF 100 502 [vint .i64 (Int.ofNat (m + 5))] = some (vbool true) := by kernel_rfl
theorem law_ScriptOf (n : Int) : callL Ph extF 502 [vint .i64 n] = some (vbool true) := by
  refine callL_spec.2 ⟨100, ?_⟩
  cases n with
  | negSucc m => exact law_neg m
  | ofNat m =>
    match m with
    | 0 => exact law0
    | 1 => exact law1
    | 2 => exact law2
    | 3 => exact law3
    | 4 => exact law4
    | m + 5 => exact law_big m
end Gi
