/-
  No cell of these rows narrows 'for every input' (looked for: loops, veiled, ifaces, maps, wideKeys, modest, calm, conditions, laid).
  DERIVED. THE GIVEN ROWS OF THIS SEAT. 9 by the template 'for every input the law returns true; each argument reads behind the call as it read before'; 0 by the template 'total and deterministic' (their statements: YtfnjohoekldfcaaGreatTotals.lean).
  GIVEN WITH THE SEED: the statements are not yours to turn. If you find one false, say at which input.
  Laid BY PROGRAM, IN A SANDBOX (cutbox-rows.mjs): the forced cells as the released guide's own fill.sh prints them over the translation 2290c9bf5189b2b3… (all of the seat's roots in one cut). By AI agents, Wed Nov 11 2026. No macro, syntax, notation, axiom, sorry.
-/
import Derived.Test.YtfnjohoekldfcaaGreatChecked
import GoSem.Claim
import GoSem.ClaimJoined
import GoSem.ClaimMapViews
import Derived.JoinedTies
import Derived.KernelRfl
namespace Go.Proofs.YtfnjohoekldfcaaGreat
/- THE CELL 'sum', in the pinned program and in every row, IS THE sha256 OF THE DUMP (.gsa) THAT YtfnjohoekldfcaaGreatProg.lean LOADS. Nothing in Lean hashes anything: it is a label: what it is worth is what the hold of that sum in a sandbox is worth. -/
noncomputable def Tryz.pinned : Pinned := { name := "ytfnjohoekldfcaagreat", sum := "2290c9bf5189b2b3af3fb344022cdcc34ae6a2df92d412b2998e3717043cec75", checked := Tryz.checked }
namespace Rows
def none {H : Type} : Left H := { results := [], args := [] }

/-- 'laws.FnExactCountBuckets': WHATEVER THE INPUT: true; the input reads as it did. -/
def fnExactCountBucketsSpec : ChangeSpec := { name := "fnExactCountBuckets", fn := fun _ => fun
  | [d] => { results := [.lit (.bool true)], args := [d] }
  | _ => none }
def fnExactCountBucketsRow : OpenClaim := { program := "ytfnjohoekldfcaagreat", sum := "2290c9bf5189b2b3af3fb344022cdcc34ae6a2df92d412b2998e3717043cec75", func := "loop.example/g00583/laws.FnExactCountBuckets", spec := "fnExactCountBuckets", apart := false }
def FnExactCountBucketsSaid : Prop := fnExactCountBucketsRow.holds Tryz.pinned (OpenSpec.ofChange fnExactCountBucketsSpec)

/-- ITS FALSE NEIGHBOUR: 'it returns false'. Refute it at one input. -/
def fnExactCountBucketsWrong : ChangeSpec := { name := "fnExactCountBuckets", fn := fun _ => fun
  | [d] => { results := [.lit (.bool false)], args := [d] }
  | _ => none }
def FnExactCountBucketsWrongFalsely : Prop := fnExactCountBucketsRow.holds Tryz.pinned (OpenSpec.ofChange fnExactCountBucketsWrong)

/-- 'laws.FnExactSentBy': WHATEVER THE INPUT: true; the input reads as it did. -/
def fnExactSentBySpec : ChangeSpec := { name := "fnExactSentBy", fn := fun _ => fun
  | [d1, d2, d3] => { results := [.lit (.bool true)], args := [d1, d2, d3] }
  | _ => none }
def fnExactSentByRow : OpenClaim := { program := "ytfnjohoekldfcaagreat", sum := "2290c9bf5189b2b3af3fb344022cdcc34ae6a2df92d412b2998e3717043cec75", func := "loop.example/g00583/laws.FnExactSentBy", spec := "fnExactSentBy", unfollowed := true, recurses := true, apart := false }
def FnExactSentBySaid : Prop := fnExactSentByRow.holds Tryz.pinned (OpenSpec.ofChange fnExactSentBySpec)

/-- ITS FALSE NEIGHBOUR: 'it returns false'. Refute it at one input. -/
def fnExactSentByWrong : ChangeSpec := { name := "fnExactSentBy", fn := fun _ => fun
  | [d1, d2, d3] => { results := [.lit (.bool false)], args := [d1, d2, d3] }
  | _ => none }
def FnExactSentByWrongFalsely : Prop := fnExactSentByRow.holds Tryz.pinned (OpenSpec.ofChange fnExactSentByWrong)

/-- 'laws.FnExactIsOfBucket': WHATEVER THE INPUT: true; the input reads as it did. -/
def fnExactIsOfBucketSpec : ChangeSpec := { name := "fnExactIsOfBucket", fn := fun _ => fun
  | [d1, d2, d3, d4] => { results := [.lit (.bool true)], args := [d1, d2, d3, d4] }
  | _ => none }
def fnExactIsOfBucketRow : OpenClaim := { program := "ytfnjohoekldfcaagreat", sum := "2290c9bf5189b2b3af3fb344022cdcc34ae6a2df92d412b2998e3717043cec75", func := "loop.example/g00583/laws.FnExactIsOfBucket", spec := "fnExactIsOfBucket", apart := false }
def FnExactIsOfBucketSaid : Prop := fnExactIsOfBucketRow.holds Tryz.pinned (OpenSpec.ofChange fnExactIsOfBucketSpec)

/-- ITS FALSE NEIGHBOUR: 'it returns false'. Refute it at one input. -/
def fnExactIsOfBucketWrong : ChangeSpec := { name := "fnExactIsOfBucket", fn := fun _ => fun
  | [d1, d2, d3, d4] => { results := [.lit (.bool false)], args := [d1, d2, d3, d4] }
  | _ => none }
def FnExactIsOfBucketWrongFalsely : Prop := fnExactIsOfBucketRow.holds Tryz.pinned (OpenSpec.ofChange fnExactIsOfBucketWrong)

/-- 'laws.FnExactWritesOnce': WHATEVER THE INPUT: true; the input reads as it did. -/
def fnExactWritesOnceSpec : ChangeSpec := { name := "fnExactWritesOnce", fn := fun _ => fun
  | [d] => { results := [.lit (.bool true)], args := [d] }
  | _ => none }
def fnExactWritesOnceRow : OpenClaim := { program := "ytfnjohoekldfcaagreat", sum := "2290c9bf5189b2b3af3fb344022cdcc34ae6a2df92d412b2998e3717043cec75", func := "loop.example/g00583/laws.FnExactWritesOnce", spec := "fnExactWritesOnce", unfollowed := true, recurses := true, apart := false }
def FnExactWritesOnceSaid : Prop := fnExactWritesOnceRow.holds Tryz.pinned (OpenSpec.ofChange fnExactWritesOnceSpec)

/-- ITS FALSE NEIGHBOUR: 'it returns false'. Refute it at one input. -/
def fnExactWritesOnceWrong : ChangeSpec := { name := "fnExactWritesOnce", fn := fun _ => fun
  | [d] => { results := [.lit (.bool false)], args := [d] }
  | _ => none }
def FnExactWritesOnceWrongFalsely : Prop := fnExactWritesOnceRow.holds Tryz.pinned (OpenSpec.ofChange fnExactWritesOnceWrong)

/-- 'laws.FnExactPageConsistent': WHATEVER THE INPUT: true; the input reads as it did. -/
def fnExactPageConsistentSpec : ChangeSpec := { name := "fnExactPageConsistent", fn := fun _ => fun
  | [d1, d2] => { results := [.lit (.bool true)], args := [d1, d2] }
  | _ => none }
def fnExactPageConsistentRow : OpenClaim := { program := "ytfnjohoekldfcaagreat", sum := "2290c9bf5189b2b3af3fb344022cdcc34ae6a2df92d412b2998e3717043cec75", func := "loop.example/g00583/laws.FnExactPageConsistent", spec := "fnExactPageConsistent", unfollowed := true, recurses := true, apart := false }
def FnExactPageConsistentSaid : Prop := fnExactPageConsistentRow.holds Tryz.pinned (OpenSpec.ofChange fnExactPageConsistentSpec)

/-- ITS FALSE NEIGHBOUR: 'it returns false'. Refute it at one input. -/
def fnExactPageConsistentWrong : ChangeSpec := { name := "fnExactPageConsistent", fn := fun _ => fun
  | [d1, d2] => { results := [.lit (.bool false)], args := [d1, d2] }
  | _ => none }
def FnExactPageConsistentWrongFalsely : Prop := fnExactPageConsistentRow.holds Tryz.pinned (OpenSpec.ofChange fnExactPageConsistentWrong)

/-- 'laws.FnExactLostWrites': WHATEVER THE INPUT: true; the input reads as it did. -/
def fnExactLostWritesSpec : ChangeSpec := { name := "fnExactLostWrites", fn := fun _ => fun
  | [d1, d2, d3] => { results := [.lit (.bool true)], args := [d1, d2, d3] }
  | _ => none }
def fnExactLostWritesRow : OpenClaim := { program := "ytfnjohoekldfcaagreat", sum := "2290c9bf5189b2b3af3fb344022cdcc34ae6a2df92d412b2998e3717043cec75", func := "loop.example/g00583/laws.FnExactLostWrites", spec := "fnExactLostWrites", unfollowed := true, recurses := true, apart := false }
def FnExactLostWritesSaid : Prop := fnExactLostWritesRow.holds Tryz.pinned (OpenSpec.ofChange fnExactLostWritesSpec)

/-- ITS FALSE NEIGHBOUR: 'it returns false'. Refute it at one input. -/
def fnExactLostWritesWrong : ChangeSpec := { name := "fnExactLostWrites", fn := fun _ => fun
  | [d1, d2, d3] => { results := [.lit (.bool false)], args := [d1, d2, d3] }
  | _ => none }
def FnExactLostWritesWrongFalsely : Prop := fnExactLostWritesRow.holds Tryz.pinned (OpenSpec.ofChange fnExactLostWritesWrong)

/-- 'laws.FnExactServerHas': WHATEVER THE INPUT: true; the input reads as it did. -/
def fnExactServerHasSpec : ChangeSpec := { name := "fnExactServerHas", fn := fun _ => fun
  | [d1, d2, d3, d4] => { results := [.lit (.bool true)], args := [d1, d2, d3, d4] }
  | _ => none }
def fnExactServerHasRow : OpenClaim := { program := "ytfnjohoekldfcaagreat", sum := "2290c9bf5189b2b3af3fb344022cdcc34ae6a2df92d412b2998e3717043cec75", func := "loop.example/g00583/laws.FnExactServerHas", spec := "fnExactServerHas", unfollowed := true, recurses := true, apart := false }
def FnExactServerHasSaid : Prop := fnExactServerHasRow.holds Tryz.pinned (OpenSpec.ofChange fnExactServerHasSpec)

/-- ITS FALSE NEIGHBOUR: 'it returns false'. Refute it at one input. -/
def fnExactServerHasWrong : ChangeSpec := { name := "fnExactServerHas", fn := fun _ => fun
  | [d1, d2, d3, d4] => { results := [.lit (.bool false)], args := [d1, d2, d3, d4] }
  | _ => none }
def FnExactServerHasWrongFalsely : Prop := fnExactServerHasRow.holds Tryz.pinned (OpenSpec.ofChange fnExactServerHasWrong)

/-- 'laws.FnExactWithinQuota': WHATEVER THE INPUT: true; the input reads as it did. -/
def fnExactWithinQuotaSpec : ChangeSpec := { name := "fnExactWithinQuota", fn := fun _ => fun
  | [d] => { results := [.lit (.bool true)], args := [d] }
  | _ => none }
def fnExactWithinQuotaRow : OpenClaim := { program := "ytfnjohoekldfcaagreat", sum := "2290c9bf5189b2b3af3fb344022cdcc34ae6a2df92d412b2998e3717043cec75", func := "loop.example/g00583/laws.FnExactWithinQuota", spec := "fnExactWithinQuota", apart := false }
def FnExactWithinQuotaSaid : Prop := fnExactWithinQuotaRow.holds Tryz.pinned (OpenSpec.ofChange fnExactWithinQuotaSpec)

/-- ITS FALSE NEIGHBOUR: 'it returns false'. Refute it at one input. -/
def fnExactWithinQuotaWrong : ChangeSpec := { name := "fnExactWithinQuota", fn := fun _ => fun
  | [d] => { results := [.lit (.bool false)], args := [d] }
  | _ => none }
def FnExactWithinQuotaWrongFalsely : Prop := fnExactWithinQuotaRow.holds Tryz.pinned (OpenSpec.ofChange fnExactWithinQuotaWrong)

/-- 'laws.FnExactRoomFor': WHATEVER THE INPUT: true; the input reads as it did. -/
def fnExactRoomForSpec : ChangeSpec := { name := "fnExactRoomFor", fn := fun _ => fun
  | [d1, d2, d3] => { results := [.lit (.bool true)], args := [d1, d2, d3] }
  | _ => none }
def fnExactRoomForRow : OpenClaim := { program := "ytfnjohoekldfcaagreat", sum := "2290c9bf5189b2b3af3fb344022cdcc34ae6a2df92d412b2998e3717043cec75", func := "loop.example/g00583/laws.FnExactRoomFor", spec := "fnExactRoomFor", unfollowed := true, recurses := true, apart := false }
def FnExactRoomForSaid : Prop := fnExactRoomForRow.holds Tryz.pinned (OpenSpec.ofChange fnExactRoomForSpec)

/-- ITS FALSE NEIGHBOUR: 'it returns false'. Refute it at one input. -/
def fnExactRoomForWrong : ChangeSpec := { name := "fnExactRoomFor", fn := fun _ => fun
  | [d1, d2, d3] => { results := [.lit (.bool false)], args := [d1, d2, d3] }
  | _ => none }
def FnExactRoomForWrongFalsely : Prop := fnExactRoomForRow.holds Tryz.pinned (OpenSpec.ofChange fnExactRoomForWrong)

/- THE SECOND FORM. 'bulk': how many values and letters a reading holds, each counted each time it is reached (what is shared counts as often as it is met; a slice's spare places count too). A statement '..UptoSaid' is the law's where the arguments, and the package variables that the reading takes, are together of bulk at most 1048576: NARROWER than '..Said'. Prove '..Said' where nothing that the law and all that it calls make is longer than what came in: it says more and counts as full. Else prove '..UptoSaid'. A law counts once. -/
mutual
def uptoBulk {H : Type} : DataW H → Nat
  | .lit (.string bytes) => bytes.length + 1
  | .lit _ => 1
  | .nil => 1
  | .ptr d => uptoBulk d + 1
  | .slice elems spare => uptoBulkAll elems + uptoBulkAll spare + 1
  | .agg parts => uptoBulkAll parts + 1
  | .iface _ d => uptoBulk d + 1
  | .map entries => uptoBulkEntries entries + 1
  | .held _ => 1
def uptoBulkAll {H : Type} : List (DataW H) → Nat
  | [] => 0
  | d :: r => uptoBulk d + uptoBulkAll r
def uptoBulkEntries {H : Type} : List (Lit × DataW H) → Nat
  | [] => 0
  | x :: r => uptoBulkEntry x + uptoBulkEntries r
def uptoBulkEntry {H : Type} : Lit × DataW H → Nat
  | (.string bytes, d) => bytes.length + uptoBulk d + 1
  | (_, d) => uptoBulk d + 1
 end
def uptoSmall : (H : Type) → List (DataW H) → Bool := fun _ ds => decide (uptoBulkAll ds ≤ 1048576)
def OpenSpec.upto (s : _root_.Go.ChangeSpec) : _root_.Go.OpenSpec := { _root_.Go.OpenSpec.ofChange s with cond := some uptoSmall }

/-- 'laws.FnExactCountBuckets', WHERE WHAT IT READS IS OF BULK AT MOST 1048576: true; the input reads as it did. -/
def fnExactCountBucketsUptoRow : OpenClaim := { program := "ytfnjohoekldfcaagreat", sum := "2290c9bf5189b2b3af3fb344022cdcc34ae6a2df92d412b2998e3717043cec75", func := "loop.example/g00583/laws.FnExactCountBuckets", spec := "fnExactCountBuckets", apart := false, narrowed := true }
def FnExactCountBucketsUptoSaid : Prop := fnExactCountBucketsUptoRow.holds Tryz.pinned (OpenSpec.upto fnExactCountBucketsSpec)

/-- 'laws.FnExactSentBy', WHERE WHAT IT READS IS OF BULK AT MOST 1048576: true; the input reads as it did. -/
def fnExactSentByUptoRow : OpenClaim := { program := "ytfnjohoekldfcaagreat", sum := "2290c9bf5189b2b3af3fb344022cdcc34ae6a2df92d412b2998e3717043cec75", func := "loop.example/g00583/laws.FnExactSentBy", spec := "fnExactSentBy", unfollowed := true, recurses := true, apart := false, narrowed := true }
def FnExactSentByUptoSaid : Prop := fnExactSentByUptoRow.holds Tryz.pinned (OpenSpec.upto fnExactSentBySpec)

/-- 'laws.FnExactIsOfBucket', WHERE WHAT IT READS IS OF BULK AT MOST 1048576: true; the input reads as it did. -/
def fnExactIsOfBucketUptoRow : OpenClaim := { program := "ytfnjohoekldfcaagreat", sum := "2290c9bf5189b2b3af3fb344022cdcc34ae6a2df92d412b2998e3717043cec75", func := "loop.example/g00583/laws.FnExactIsOfBucket", spec := "fnExactIsOfBucket", apart := false, narrowed := true }
def FnExactIsOfBucketUptoSaid : Prop := fnExactIsOfBucketUptoRow.holds Tryz.pinned (OpenSpec.upto fnExactIsOfBucketSpec)

/-- 'laws.FnExactWritesOnce', WHERE WHAT IT READS IS OF BULK AT MOST 1048576: true; the input reads as it did. -/
def fnExactWritesOnceUptoRow : OpenClaim := { program := "ytfnjohoekldfcaagreat", sum := "2290c9bf5189b2b3af3fb344022cdcc34ae6a2df92d412b2998e3717043cec75", func := "loop.example/g00583/laws.FnExactWritesOnce", spec := "fnExactWritesOnce", unfollowed := true, recurses := true, apart := false, narrowed := true }
def FnExactWritesOnceUptoSaid : Prop := fnExactWritesOnceUptoRow.holds Tryz.pinned (OpenSpec.upto fnExactWritesOnceSpec)

/-- 'laws.FnExactPageConsistent', WHERE WHAT IT READS IS OF BULK AT MOST 1048576: true; the input reads as it did. -/
def fnExactPageConsistentUptoRow : OpenClaim := { program := "ytfnjohoekldfcaagreat", sum := "2290c9bf5189b2b3af3fb344022cdcc34ae6a2df92d412b2998e3717043cec75", func := "loop.example/g00583/laws.FnExactPageConsistent", spec := "fnExactPageConsistent", unfollowed := true, recurses := true, apart := false, narrowed := true }
def FnExactPageConsistentUptoSaid : Prop := fnExactPageConsistentUptoRow.holds Tryz.pinned (OpenSpec.upto fnExactPageConsistentSpec)

/-- 'laws.FnExactLostWrites', WHERE WHAT IT READS IS OF BULK AT MOST 1048576: true; the input reads as it did. -/
def fnExactLostWritesUptoRow : OpenClaim := { program := "ytfnjohoekldfcaagreat", sum := "2290c9bf5189b2b3af3fb344022cdcc34ae6a2df92d412b2998e3717043cec75", func := "loop.example/g00583/laws.FnExactLostWrites", spec := "fnExactLostWrites", unfollowed := true, recurses := true, apart := false, narrowed := true }
def FnExactLostWritesUptoSaid : Prop := fnExactLostWritesUptoRow.holds Tryz.pinned (OpenSpec.upto fnExactLostWritesSpec)

/-- 'laws.FnExactServerHas', WHERE WHAT IT READS IS OF BULK AT MOST 1048576: true; the input reads as it did. -/
def fnExactServerHasUptoRow : OpenClaim := { program := "ytfnjohoekldfcaagreat", sum := "2290c9bf5189b2b3af3fb344022cdcc34ae6a2df92d412b2998e3717043cec75", func := "loop.example/g00583/laws.FnExactServerHas", spec := "fnExactServerHas", unfollowed := true, recurses := true, apart := false, narrowed := true }
def FnExactServerHasUptoSaid : Prop := fnExactServerHasUptoRow.holds Tryz.pinned (OpenSpec.upto fnExactServerHasSpec)

/-- 'laws.FnExactWithinQuota', WHERE WHAT IT READS IS OF BULK AT MOST 1048576: true; the input reads as it did. -/
def fnExactWithinQuotaUptoRow : OpenClaim := { program := "ytfnjohoekldfcaagreat", sum := "2290c9bf5189b2b3af3fb344022cdcc34ae6a2df92d412b2998e3717043cec75", func := "loop.example/g00583/laws.FnExactWithinQuota", spec := "fnExactWithinQuota", apart := false, narrowed := true }
def FnExactWithinQuotaUptoSaid : Prop := fnExactWithinQuotaUptoRow.holds Tryz.pinned (OpenSpec.upto fnExactWithinQuotaSpec)

/-- 'laws.FnExactRoomFor', WHERE WHAT IT READS IS OF BULK AT MOST 1048576: true; the input reads as it did. -/
def fnExactRoomForUptoRow : OpenClaim := { program := "ytfnjohoekldfcaagreat", sum := "2290c9bf5189b2b3af3fb344022cdcc34ae6a2df92d412b2998e3717043cec75", func := "loop.example/g00583/laws.FnExactRoomFor", spec := "fnExactRoomFor", unfollowed := true, recurses := true, apart := false, narrowed := true }
def FnExactRoomForUptoSaid : Prop := fnExactRoomForUptoRow.holds Tryz.pinned (OpenSpec.upto fnExactRoomForSpec)

end Rows
end Go.Proofs.YtfnjohoekldfcaaGreat
