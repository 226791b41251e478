/-
  No cell of these rows narrows 'for every input' (looked for: loops, veiled, ifaces, maps, wideKeys, modest, calm, conditions, laid).
  DERIVED. THE GIVEN ROWS OF THIS SEAT. 2 by the template 'for every input the law returns true; each argument reads behind the call as it read before'; 0 by the template 'total and deterministic' (their statements: YtebnmoogdmpepaaGreatTotals.lean).
  GIVEN WITH THE SEED: the statements are not yours to turn. If you find one false, say at which input.
  Laid BY PROGRAM, IN A SANDBOX (cutbox-rows.mjs): the forced cells as the released guide's own fill.sh prints them over the translation b8a2636710a9826d… (all of the seat's roots in one cut). By AI agents, Wed Nov 11 2026. No macro, syntax, notation, axiom, sorry.
-/
import Derived.Test.YtebnmoogdmpepaaGreatChecked
import GoSem.Claim
import GoSem.ClaimJoined
import GoSem.ClaimMapViews
import Derived.JoinedTies
import Derived.KernelRfl
namespace Go.Proofs.YtebnmoogdmpepaaGreat
/- THE CELL 'sum', in the pinned program and in every row, IS THE sha256 OF THE DUMP (.gsa) THAT YtebnmoogdmpepaaGreatProg.lean LOADS. Nothing in Lean hashes anything: it is a label: what it is worth is what the hold of that sum in a sandbox is worth. -/
noncomputable def Tryz.pinned : Pinned := { name := "ytebnmoogdmpepaagreat", sum := "b8a2636710a9826db53872af0d58fbdcb73b5baf5a8a4c21a8c5b9d5135a429b", checked := Tryz.checked }
namespace Rows
def none {H : Type} : Left H := { results := [], args := [] }

/-- 'laws.FnExactCrashWorld': WHATEVER THE INPUT: true; the input reads as it did. -/
def fnExactCrashWorldSpec : ChangeSpec := { name := "fnExactCrashWorld", fn := fun _ => fun
  | [d1, d2] => { results := [.lit (.bool true)], args := [d1, d2] }
  | _ => none }
def fnExactCrashWorldRow : OpenClaim := { program := "ytebnmoogdmpepaagreat", sum := "b8a2636710a9826db53872af0d58fbdcb73b5baf5a8a4c21a8c5b9d5135a429b", func := "loop.example/g00583/laws.FnExactCrashWorld", spec := "fnExactCrashWorld", inPlace := ["internal/bytealg.abigen_runtime_cmpstring", "slices.overlaps[loop.example/g00583/impl.Item]"], unfollowed := true, recurses := true, apart := false }
def FnExactCrashWorldSaid : Prop := fnExactCrashWorldRow.holds Tryz.pinned (OpenSpec.ofChange fnExactCrashWorldSpec)

/-- ITS FALSE NEIGHBOUR: 'it returns false'. Refute it at one input. -/
def fnExactCrashWorldWrong : ChangeSpec := { name := "fnExactCrashWorld", fn := fun _ => fun
  | [d1, d2] => { results := [.lit (.bool false)], args := [d1, d2] }
  | _ => none }
def FnExactCrashWorldWrongFalsely : Prop := fnExactCrashWorldRow.holds Tryz.pinned (OpenSpec.ofChange fnExactCrashWorldWrong)

/-- 'laws.FnExactPullBucket': WHATEVER THE INPUT: true; the input reads as it did. -/
def fnExactPullBucketSpec : ChangeSpec := { name := "fnExactPullBucket", fn := fun _ => fun
  | [d1, d2, d3] => { results := [.lit (.bool true)], args := [d1, d2, d3] }
  | _ => none }
def fnExactPullBucketRow : OpenClaim := { program := "ytebnmoogdmpepaagreat", sum := "b8a2636710a9826db53872af0d58fbdcb73b5baf5a8a4c21a8c5b9d5135a429b", func := "loop.example/g00583/laws.FnExactPullBucket", spec := "fnExactPullBucket", inPlace := ["internal/bytealg.abigen_runtime_cmpstring", "slices.overlaps[loop.example/g00583/impl.Item]", "slices.overlaps[loop.example/g00583/impl.Field]"], unfollowed := true, recurses := true, apart := false }
def FnExactPullBucketSaid : Prop := fnExactPullBucketRow.holds Tryz.pinned (OpenSpec.ofChange fnExactPullBucketSpec)

/-- ITS FALSE NEIGHBOUR: 'it returns false'. Refute it at one input. -/
def fnExactPullBucketWrong : ChangeSpec := { name := "fnExactPullBucket", fn := fun _ => fun
  | [d1, d2, d3] => { results := [.lit (.bool false)], args := [d1, d2, d3] }
  | _ => none }
def FnExactPullBucketWrongFalsely : Prop := fnExactPullBucketRow.holds Tryz.pinned (OpenSpec.ofChange fnExactPullBucketWrong)

/- THE SECOND FORM. 'bulk': how many values and letters a reading holds, each counted each time it is reached (what is shared counts as often as it is met; a slice's spare places count too). A statement '..UptoSaid' is the law's where the arguments, and the package variables that the reading takes, are together of bulk at most 1048576: NARROWER than '..Said'. Prove '..Said' where nothing that the law and all that it calls make is longer than what came in: it says more and counts as full. Else prove '..UptoSaid'. A law counts once. -/
mutual
def uptoBulk {H : Type} : DataW H → Nat
  | .lit (.string bytes) => bytes.length + 1
  | .lit _ => 1
  | .nil => 1
  | .ptr d => uptoBulk d + 1
  | .slice elems spare => uptoBulkAll elems + uptoBulkAll spare + 1
  | .agg parts => uptoBulkAll parts + 1
  | .iface _ d => uptoBulk d + 1
  | .map entries => uptoBulkEntries entries + 1
  | .held _ => 1
def uptoBulkAll {H : Type} : List (DataW H) → Nat
  | [] => 0
  | d :: r => uptoBulk d + uptoBulkAll r
def uptoBulkEntries {H : Type} : List (Lit × DataW H) → Nat
  | [] => 0
  | x :: r => uptoBulkEntry x + uptoBulkEntries r
def uptoBulkEntry {H : Type} : Lit × DataW H → Nat
  | (.string bytes, d) => bytes.length + uptoBulk d + 1
  | (_, d) => uptoBulk d + 1
 end
def uptoSmall : (H : Type) → List (DataW H) → Bool := fun _ ds => decide (uptoBulkAll ds ≤ 1048576)
def OpenSpec.upto (s : _root_.Go.ChangeSpec) : _root_.Go.OpenSpec := { _root_.Go.OpenSpec.ofChange s with cond := some uptoSmall }

/-- 'laws.FnExactCrashWorld', WHERE WHAT IT READS IS OF BULK AT MOST 1048576: true; the input reads as it did. -/
def fnExactCrashWorldUptoRow : OpenClaim := { program := "ytebnmoogdmpepaagreat", sum := "b8a2636710a9826db53872af0d58fbdcb73b5baf5a8a4c21a8c5b9d5135a429b", func := "loop.example/g00583/laws.FnExactCrashWorld", spec := "fnExactCrashWorld", inPlace := ["internal/bytealg.abigen_runtime_cmpstring", "slices.overlaps[loop.example/g00583/impl.Item]"], unfollowed := true, recurses := true, apart := false, narrowed := true }
def FnExactCrashWorldUptoSaid : Prop := fnExactCrashWorldUptoRow.holds Tryz.pinned (OpenSpec.upto fnExactCrashWorldSpec)

/-- 'laws.FnExactPullBucket', WHERE WHAT IT READS IS OF BULK AT MOST 1048576: true; the input reads as it did. -/
def fnExactPullBucketUptoRow : OpenClaim := { program := "ytebnmoogdmpepaagreat", sum := "b8a2636710a9826db53872af0d58fbdcb73b5baf5a8a4c21a8c5b9d5135a429b", func := "loop.example/g00583/laws.FnExactPullBucket", spec := "fnExactPullBucket", inPlace := ["internal/bytealg.abigen_runtime_cmpstring", "slices.overlaps[loop.example/g00583/impl.Item]", "slices.overlaps[loop.example/g00583/impl.Field]"], unfollowed := true, recurses := true, apart := false, narrowed := true }
def FnExactPullBucketUptoSaid : Prop := fnExactPullBucketUptoRow.holds Tryz.pinned (OpenSpec.upto fnExactPullBucketSpec)

end Rows
end Go.Proofs.YtebnmoogdmpepaaGreat
