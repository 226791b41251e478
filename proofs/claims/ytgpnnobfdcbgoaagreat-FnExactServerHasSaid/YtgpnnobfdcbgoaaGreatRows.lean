/-
  No cell of these rows narrows 'for every input' (looked for: loops, veiled, ifaces, maps, wideKeys, modest, calm, conditions, laid).
  DERIVED. THE GIVEN ROWS OF THIS SEAT. 4 by the template 'for every input the law returns true; each argument reads behind the call as it read before'; 0 by the template 'total and deterministic' (their statements: YtgpnnobfdcbgoaaGreatTotals.lean).
  GIVEN WITH THE SEED: the statements are not yours to turn. If you find one false, say at which input.
  Laid BY PROGRAM, IN A SANDBOX (cutbox-rows.mjs): the forced cells as the released guide's own fill.sh prints them over the translation a72c46472a85c789… (all of the seat's roots in one cut). By AI agents, Wed Nov 11 2026. No macro, syntax, notation, axiom, sorry.
-/
import Derived.Test.YtgpnnobfdcbgoaaGreatChecked
import GoSem.Claim
import GoSem.ClaimJoined
import GoSem.ClaimMapViews
import Derived.JoinedTies
import Derived.KernelRfl
namespace Go.Proofs.YtgpnnobfdcbgoaaGreat
/- THE CELL 'sum', in the pinned program and in every row, IS THE sha256 OF THE DUMP (.gsa) THAT YtgpnnobfdcbgoaaGreatProg.lean LOADS. Nothing in Lean hashes anything: it is a label: what it is worth is what the hold of that sum in a sandbox is worth. -/
noncomputable def Tryz.pinned : Pinned := { name := "ytgpnnobfdcbgoaagreat", sum := "a72c46472a85c7894b97d18578ef1498797ad991e4584522251731b5ef93d9a7", checked := Tryz.checked }
namespace Rows
def none {H : Type} : Left H := { results := [], args := [] }

/-- 'laws.FnExactWithinQuota': WHATEVER THE INPUT: true; the input reads as it did. -/
def fnExactWithinQuotaSpec : ChangeSpec := { name := "fnExactWithinQuota", fn := fun _ => fun
  | [d] => { results := [.lit (.bool true)], args := [d] }
  | _ => none }
def fnExactWithinQuotaRow : OpenClaim := { program := "ytgpnnobfdcbgoaagreat", sum := "a72c46472a85c7894b97d18578ef1498797ad991e4584522251731b5ef93d9a7", func := "loop.example/g00583/laws.FnExactWithinQuota", spec := "fnExactWithinQuota", apart := false }
def FnExactWithinQuotaSaid : Prop := fnExactWithinQuotaRow.holds Tryz.pinned (OpenSpec.ofChange fnExactWithinQuotaSpec)

/-- ITS FALSE NEIGHBOUR: 'it returns false'. Refute it at one input. -/
def fnExactWithinQuotaWrong : ChangeSpec := { name := "fnExactWithinQuota", fn := fun _ => fun
  | [d] => { results := [.lit (.bool false)], args := [d] }
  | _ => none }
def FnExactWithinQuotaWrongFalsely : Prop := fnExactWithinQuotaRow.holds Tryz.pinned (OpenSpec.ofChange fnExactWithinQuotaWrong)

/-- 'laws.FnExactRoomFor': WHATEVER THE INPUT: true; the input reads as it did. -/
def fnExactRoomForSpec : ChangeSpec := { name := "fnExactRoomFor", fn := fun _ => fun
  | [d1, d2, d3] => { results := [.lit (.bool true)], args := [d1, d2, d3] }
  | _ => none }
def fnExactRoomForRow : OpenClaim := { program := "ytgpnnobfdcbgoaagreat", sum := "a72c46472a85c7894b97d18578ef1498797ad991e4584522251731b5ef93d9a7", func := "loop.example/g00583/laws.FnExactRoomFor", spec := "fnExactRoomFor", unfollowed := true, recurses := true, apart := false }
def FnExactRoomForSaid : Prop := fnExactRoomForRow.holds Tryz.pinned (OpenSpec.ofChange fnExactRoomForSpec)

/-- ITS FALSE NEIGHBOUR: 'it returns false'. Refute it at one input. -/
def fnExactRoomForWrong : ChangeSpec := { name := "fnExactRoomFor", fn := fun _ => fun
  | [d1, d2, d3] => { results := [.lit (.bool false)], args := [d1, d2, d3] }
  | _ => none }
def FnExactRoomForWrongFalsely : Prop := fnExactRoomForRow.holds Tryz.pinned (OpenSpec.ofChange fnExactRoomForWrong)

/-- 'laws.FnExactServerHas': WHATEVER THE INPUT: true; the input reads as it did. -/
def fnExactServerHasSpec : ChangeSpec := { name := "fnExactServerHas", fn := fun _ => fun
  | [d1, d2, d3, d4] => { results := [.lit (.bool true)], args := [d1, d2, d3, d4] }
  | _ => none }
def fnExactServerHasRow : OpenClaim := { program := "ytgpnnobfdcbgoaagreat", sum := "a72c46472a85c7894b97d18578ef1498797ad991e4584522251731b5ef93d9a7", func := "loop.example/g00583/laws.FnExactServerHas", spec := "fnExactServerHas", unfollowed := true, recurses := true, apart := false }
def FnExactServerHasSaid : Prop := fnExactServerHasRow.holds Tryz.pinned (OpenSpec.ofChange fnExactServerHasSpec)

/-- ITS FALSE NEIGHBOUR: 'it returns false'. Refute it at one input. -/
def fnExactServerHasWrong : ChangeSpec := { name := "fnExactServerHas", fn := fun _ => fun
  | [d1, d2, d3, d4] => { results := [.lit (.bool false)], args := [d1, d2, d3, d4] }
  | _ => none }
def FnExactServerHasWrongFalsely : Prop := fnExactServerHasRow.holds Tryz.pinned (OpenSpec.ofChange fnExactServerHasWrong)

/-- 'laws.FnExactWritesOnce': WHATEVER THE INPUT: true; the input reads as it did. -/
def fnExactWritesOnceSpec : ChangeSpec := { name := "fnExactWritesOnce", fn := fun _ => fun
  | [d] => { results := [.lit (.bool true)], args := [d] }
  | _ => none }
def fnExactWritesOnceRow : OpenClaim := { program := "ytgpnnobfdcbgoaagreat", sum := "a72c46472a85c7894b97d18578ef1498797ad991e4584522251731b5ef93d9a7", func := "loop.example/g00583/laws.FnExactWritesOnce", spec := "fnExactWritesOnce", unfollowed := true, recurses := true, apart := false }
def FnExactWritesOnceSaid : Prop := fnExactWritesOnceRow.holds Tryz.pinned (OpenSpec.ofChange fnExactWritesOnceSpec)

/-- ITS FALSE NEIGHBOUR: 'it returns false'. Refute it at one input. -/
def fnExactWritesOnceWrong : ChangeSpec := { name := "fnExactWritesOnce", fn := fun _ => fun
  | [d] => { results := [.lit (.bool false)], args := [d] }
  | _ => none }
def FnExactWritesOnceWrongFalsely : Prop := fnExactWritesOnceRow.holds Tryz.pinned (OpenSpec.ofChange fnExactWritesOnceWrong)

/- THE SECOND FORM. 'bulk': how many values and letters a reading holds, each counted each time it is reached (what is shared counts as often as it is met; a slice's spare places count too). A statement '..UptoSaid' is the law's where the arguments, and the package variables that the reading takes, are together of bulk at most 1048576: NARROWER than '..Said'. Prove '..Said' where nothing that the law and all that it calls make is longer than what came in: it says more and counts as full. Else prove '..UptoSaid'. A law counts once. -/
mutual
def uptoBulk {H : Type} : DataW H → Nat
  | .lit (.string bytes) => bytes.length + 1
  | .lit _ => 1
  | .nil => 1
  | .ptr d => uptoBulk d + 1
  | .slice elems spare => uptoBulkAll elems + uptoBulkAll spare + 1
  | .agg parts => uptoBulkAll parts + 1
  | .iface _ d => uptoBulk d + 1
  | .map entries => uptoBulkEntries entries + 1
  | .held _ => 1
def uptoBulkAll {H : Type} : List (DataW H) → Nat
  | [] => 0
  | d :: r => uptoBulk d + uptoBulkAll r
def uptoBulkEntries {H : Type} : List (Lit × DataW H) → Nat
  | [] => 0
  | x :: r => uptoBulkEntry x + uptoBulkEntries r
def uptoBulkEntry {H : Type} : Lit × DataW H → Nat
  | (.string bytes, d) => bytes.length + uptoBulk d + 1
  | (_, d) => uptoBulk d + 1
 end
def uptoSmall : (H : Type) → List (DataW H) → Bool := fun _ ds => decide (uptoBulkAll ds ≤ 1048576)
def OpenSpec.upto (s : _root_.Go.ChangeSpec) : _root_.Go.OpenSpec := { _root_.Go.OpenSpec.ofChange s with cond := some uptoSmall }

/-- 'laws.FnExactWithinQuota', WHERE WHAT IT READS IS OF BULK AT MOST 1048576: true; the input reads as it did. -/
def fnExactWithinQuotaUptoRow : OpenClaim := { program := "ytgpnnobfdcbgoaagreat", sum := "a72c46472a85c7894b97d18578ef1498797ad991e4584522251731b5ef93d9a7", func := "loop.example/g00583/laws.FnExactWithinQuota", spec := "fnExactWithinQuota", apart := false, narrowed := true }
def FnExactWithinQuotaUptoSaid : Prop := fnExactWithinQuotaUptoRow.holds Tryz.pinned (OpenSpec.upto fnExactWithinQuotaSpec)

/-- 'laws.FnExactRoomFor', WHERE WHAT IT READS IS OF BULK AT MOST 1048576: true; the input reads as it did. -/
def fnExactRoomForUptoRow : OpenClaim := { program := "ytgpnnobfdcbgoaagreat", sum := "a72c46472a85c7894b97d18578ef1498797ad991e4584522251731b5ef93d9a7", func := "loop.example/g00583/laws.FnExactRoomFor", spec := "fnExactRoomFor", unfollowed := true, recurses := true, apart := false, narrowed := true }
def FnExactRoomForUptoSaid : Prop := fnExactRoomForUptoRow.holds Tryz.pinned (OpenSpec.upto fnExactRoomForSpec)

/-- 'laws.FnExactServerHas', WHERE WHAT IT READS IS OF BULK AT MOST 1048576: true; the input reads as it did. -/
def fnExactServerHasUptoRow : OpenClaim := { program := "ytgpnnobfdcbgoaagreat", sum := "a72c46472a85c7894b97d18578ef1498797ad991e4584522251731b5ef93d9a7", func := "loop.example/g00583/laws.FnExactServerHas", spec := "fnExactServerHas", unfollowed := true, recurses := true, apart := false, narrowed := true }
def FnExactServerHasUptoSaid : Prop := fnExactServerHasUptoRow.holds Tryz.pinned (OpenSpec.upto fnExactServerHasSpec)

/-- 'laws.FnExactWritesOnce', WHERE WHAT IT READS IS OF BULK AT MOST 1048576: true; the input reads as it did. -/
def fnExactWritesOnceUptoRow : OpenClaim := { program := "ytgpnnobfdcbgoaagreat", sum := "a72c46472a85c7894b97d18578ef1498797ad991e4584522251731b5ef93d9a7", func := "loop.example/g00583/laws.FnExactWritesOnce", spec := "fnExactWritesOnce", unfollowed := true, recurses := true, apart := false, narrowed := true }
def FnExactWritesOnceUptoSaid : Prop := fnExactWritesOnceUptoRow.holds Tryz.pinned (OpenSpec.upto fnExactWritesOnceSpec)

end Rows
end Go.Proofs.YtgpnnobfdcbgoaaGreat
