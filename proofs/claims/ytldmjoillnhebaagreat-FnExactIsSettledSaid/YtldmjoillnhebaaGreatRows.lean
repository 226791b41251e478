/-
  No cell of these rows narrows 'for every input' (looked for: loops, veiled, ifaces, maps, wideKeys, modest, calm, conditions, laid).
  DERIVED. THE GIVEN ROWS OF THIS SEAT. 3 by the template 'for every input the law returns true; each argument reads behind the call as it read before'; 0 by the template 'total and deterministic' (their statements: YtldmjoillnhebaaGreatTotals.lean).
  GIVEN WITH THE SEED: the statements are not yours to turn. If you find one false, say at which input.
  Laid BY PROGRAM, IN A SANDBOX (cutbox-rows.mjs): the forced cells as the released guide's own fill.sh prints them over the translation 3b117039c9c8eb63… (all of the seat's roots in one cut). By AI agents, Wed Nov 11 2026. No macro, syntax, notation, axiom, sorry.
-/
import Derived.Test.YtldmjoillnhebaaGreatChecked
import GoSem.Claim
import GoSem.ClaimJoined
import GoSem.ClaimMapViews
import Derived.JoinedTies
import Derived.KernelRfl
namespace Go.Proofs.YtldmjoillnhebaaGreat
/- THE CELL 'sum', in the pinned program and in every row, IS THE sha256 OF THE DUMP (.gsa) THAT YtldmjoillnhebaaGreatProg.lean LOADS. Nothing in Lean hashes anything: it is a label: what it is worth is what the hold of that sum in a sandbox is worth. -/
noncomputable def Tryz.pinned : Pinned := { name := "ytldmjoillnhebaagreat", sum := "3b117039c9c8eb63ea5829bf40dbd60f67f44ec6eabcf178d89755f4d5dba357", checked := Tryz.checked }
namespace Rows
def none {H : Type} : Left H := { results := [], args := [] }

/-- 'laws.FnExactReplicasAgree': WHATEVER THE INPUT: true; the input reads as it did. -/
def fnExactReplicasAgreeSpec : ChangeSpec := { name := "fnExactReplicasAgree", fn := fun _ => fun
  | [d] => { results := [.lit (.bool true)], args := [d] }
  | _ => none }
def fnExactReplicasAgreeRow : OpenClaim := { program := "ytldmjoillnhebaagreat", sum := "3b117039c9c8eb63ea5829bf40dbd60f67f44ec6eabcf178d89755f4d5dba357", func := "loop.example/g00583/laws.FnExactReplicasAgree", spec := "fnExactReplicasAgree", inPlace := ["slices.overlaps[loop.example/g00583/impl.Field]", "internal/bytealg.abigen_runtime_cmpstring", "slices.overlaps[loop.example/g00583/impl.Item]"], unfollowed := true, recurses := true, apart := false }
def FnExactReplicasAgreeSaid : Prop := fnExactReplicasAgreeRow.holds Tryz.pinned (OpenSpec.ofChange fnExactReplicasAgreeSpec)

/-- ITS FALSE NEIGHBOUR: 'it returns false'. Refute it at one input. -/
def fnExactReplicasAgreeWrong : ChangeSpec := { name := "fnExactReplicasAgree", fn := fun _ => fun
  | [d] => { results := [.lit (.bool false)], args := [d] }
  | _ => none }
def FnExactReplicasAgreeWrongFalsely : Prop := fnExactReplicasAgreeRow.holds Tryz.pinned (OpenSpec.ofChange fnExactReplicasAgreeWrong)

/-- 'laws.FnExactIsSettled': WHATEVER THE INPUT: true; the input reads as it did. -/
def fnExactIsSettledSpec : ChangeSpec := { name := "fnExactIsSettled", fn := fun _ => fun
  | [d] => { results := [.lit (.bool true)], args := [d] }
  | _ => none }
def fnExactIsSettledRow : OpenClaim := { program := "ytldmjoillnhebaagreat", sum := "3b117039c9c8eb63ea5829bf40dbd60f67f44ec6eabcf178d89755f4d5dba357", func := "loop.example/g00583/laws.FnExactIsSettled", spec := "fnExactIsSettled", inPlace := ["slices.overlaps[loop.example/g00583/impl.Field]", "internal/bytealg.abigen_runtime_cmpstring", "slices.overlaps[loop.example/g00583/impl.Item]"], unfollowed := true, recurses := true, apart := false }
def FnExactIsSettledSaid : Prop := fnExactIsSettledRow.holds Tryz.pinned (OpenSpec.ofChange fnExactIsSettledSpec)

/-- ITS FALSE NEIGHBOUR: 'it returns false'. Refute it at one input. -/
def fnExactIsSettledWrong : ChangeSpec := { name := "fnExactIsSettled", fn := fun _ => fun
  | [d] => { results := [.lit (.bool false)], args := [d] }
  | _ => none }
def FnExactIsSettledWrongFalsely : Prop := fnExactIsSettledRow.holds Tryz.pinned (OpenSpec.ofChange fnExactIsSettledWrong)

/-- 'laws.FnExactOthersOf': WHATEVER THE INPUT: true; the input reads as it did. -/
def fnExactOthersOfSpec : ChangeSpec := { name := "fnExactOthersOf", fn := fun _ => fun
  | [d1, d2, d3] => { results := [.lit (.bool true)], args := [d1, d2, d3] }
  | _ => none }
def fnExactOthersOfRow : OpenClaim := { program := "ytldmjoillnhebaagreat", sum := "3b117039c9c8eb63ea5829bf40dbd60f67f44ec6eabcf178d89755f4d5dba357", func := "loop.example/g00583/laws.FnExactOthersOf", spec := "fnExactOthersOf", apart := false }
def FnExactOthersOfSaid : Prop := fnExactOthersOfRow.holds Tryz.pinned (OpenSpec.ofChange fnExactOthersOfSpec)

/-- ITS FALSE NEIGHBOUR: 'it returns false'. Refute it at one input. -/
def fnExactOthersOfWrong : ChangeSpec := { name := "fnExactOthersOf", fn := fun _ => fun
  | [d1, d2, d3] => { results := [.lit (.bool false)], args := [d1, d2, d3] }
  | _ => none }
def FnExactOthersOfWrongFalsely : Prop := fnExactOthersOfRow.holds Tryz.pinned (OpenSpec.ofChange fnExactOthersOfWrong)

/- THE SECOND FORM. 'bulk': how many values and letters a reading holds, each counted each time it is reached (what is shared counts as often as it is met; a slice's spare places count too). A statement '..UptoSaid' is the law's where the arguments, and the package variables that the reading takes, are together of bulk at most 1048576: NARROWER than '..Said'. Prove '..Said' where nothing that the law and all that it calls make is longer than what came in: it says more and counts as full. Else prove '..UptoSaid'. A law counts once. -/
mutual
def uptoBulk {H : Type} : DataW H → Nat
  | .lit (.string bytes) => bytes.length + 1
  | .lit _ => 1
  | .nil => 1
  | .ptr d => uptoBulk d + 1
  | .slice elems spare => uptoBulkAll elems + uptoBulkAll spare + 1
  | .agg parts => uptoBulkAll parts + 1
  | .iface _ d => uptoBulk d + 1
  | .map entries => uptoBulkEntries entries + 1
  | .held _ => 1
def uptoBulkAll {H : Type} : List (DataW H) → Nat
  | [] => 0
  | d :: r => uptoBulk d + uptoBulkAll r
def uptoBulkEntries {H : Type} : List (Lit × DataW H) → Nat
  | [] => 0
  | x :: r => uptoBulkEntry x + uptoBulkEntries r
def uptoBulkEntry {H : Type} : Lit × DataW H → Nat
  | (.string bytes, d) => bytes.length + uptoBulk d + 1
  | (_, d) => uptoBulk d + 1
 end
def uptoSmall : (H : Type) → List (DataW H) → Bool := fun _ ds => decide (uptoBulkAll ds ≤ 1048576)
def OpenSpec.upto (s : _root_.Go.ChangeSpec) : _root_.Go.OpenSpec := { _root_.Go.OpenSpec.ofChange s with cond := some uptoSmall }

/-- 'laws.FnExactReplicasAgree', WHERE WHAT IT READS IS OF BULK AT MOST 1048576: true; the input reads as it did. -/
def fnExactReplicasAgreeUptoRow : OpenClaim := { program := "ytldmjoillnhebaagreat", sum := "3b117039c9c8eb63ea5829bf40dbd60f67f44ec6eabcf178d89755f4d5dba357", func := "loop.example/g00583/laws.FnExactReplicasAgree", spec := "fnExactReplicasAgree", inPlace := ["slices.overlaps[loop.example/g00583/impl.Field]", "internal/bytealg.abigen_runtime_cmpstring", "slices.overlaps[loop.example/g00583/impl.Item]"], unfollowed := true, recurses := true, apart := false, narrowed := true }
def FnExactReplicasAgreeUptoSaid : Prop := fnExactReplicasAgreeUptoRow.holds Tryz.pinned (OpenSpec.upto fnExactReplicasAgreeSpec)

/-- 'laws.FnExactIsSettled', WHERE WHAT IT READS IS OF BULK AT MOST 1048576: true; the input reads as it did. -/
def fnExactIsSettledUptoRow : OpenClaim := { program := "ytldmjoillnhebaagreat", sum := "3b117039c9c8eb63ea5829bf40dbd60f67f44ec6eabcf178d89755f4d5dba357", func := "loop.example/g00583/laws.FnExactIsSettled", spec := "fnExactIsSettled", inPlace := ["slices.overlaps[loop.example/g00583/impl.Field]", "internal/bytealg.abigen_runtime_cmpstring", "slices.overlaps[loop.example/g00583/impl.Item]"], unfollowed := true, recurses := true, apart := false, narrowed := true }
def FnExactIsSettledUptoSaid : Prop := fnExactIsSettledUptoRow.holds Tryz.pinned (OpenSpec.upto fnExactIsSettledSpec)

/-- 'laws.FnExactOthersOf', WHERE WHAT IT READS IS OF BULK AT MOST 1048576: true; the input reads as it did. -/
def fnExactOthersOfUptoRow : OpenClaim := { program := "ytldmjoillnhebaagreat", sum := "3b117039c9c8eb63ea5829bf40dbd60f67f44ec6eabcf178d89755f4d5dba357", func := "loop.example/g00583/laws.FnExactOthersOf", spec := "fnExactOthersOf", apart := false, narrowed := true }
def FnExactOthersOfUptoSaid : Prop := fnExactOthersOfUptoRow.holds Tryz.pinned (OpenSpec.upto fnExactOthersOfSpec)

end Rows
end Go.Proofs.YtldmjoillnhebaaGreat
