/-
  DERIVED. GIVEN WITH THE SEED: THE CARDS: each row of YtgpnnobfdcbgoaaGreatDoorRows.lean that lists a variable, with what it lists TIED to the program's text (the seventh form; the later family's looks); each row that meets fmt, with fmt's text TOLD by the authors' own Lean function (tested against real Go, not proved from fmt's source: count such statements apart). THE CARD IS WHAT COUNTS. Prove the row's statement (the work); the ties are given (YtgpnnobfdcbgoaaGreatDoorTie.lean); close each card by the builder's one call (the guide's Derived/Test/ToyasCard.lean, 'card_holds'). Laid BY PROGRAM, IN A SANDBOX (cutbox-door.mjs). By AI agents, Wed Nov 11 2026. No macro, syntax, notation, axiom, sorry.
-/
import Derived.Test.YtgpnnobfdcbgoaaGreatDoorRows
import GoSem.ClaimSeven
namespace Go.Proofs.YtgpnnobfdcbgoaaGreatDoor
namespace Rows

/-- THE TIED CARD OF 'laws.FnExactFormatBucket'. -/
def fnExactFormatBucketCard : Claim7 := { stood := { row := fnExactFormatBucketRow, standIns := [], harness := (true, "6c29eb22d3310c2fce19a1038f93fa46e848426d38137a846d316cba336839c7"), looks := false }, kinds := [], alts := [], laidByText := true, laidKinds := [.data, .data, .data], laidTests := true, laidLooks := .later }
def FnExactFormatBucketCardSaid : Prop := Claim7.holds Tryz.pinned (.plain (OpenSpec.ofChange fnExactFormatBucketSpec)) fnExactFormatBucketCard

/-- THE TIED CARD OF 'laws.FnExactFormatWorld'. -/
def fnExactFormatWorldCard : Claim7 := { stood := { row := fnExactFormatWorldRow, standIns := [], harness := (true, "6c29eb22d3310c2fce19a1038f93fa46e848426d38137a846d316cba336839c7"), looks := false }, kinds := [], alts := [], laidByText := true, laidKinds := [.data, .data, .data], laidTests := true, laidLooks := .later }
def FnExactFormatWorldCardSaid : Prop := Claim7.holds Tryz.pinned (.plain (OpenSpec.ofChange fnExactFormatWorldSpec)) fnExactFormatWorldCard

/-- THE SECOND FORM's CARD OF 'laws.FnExactFormatBucket'. -/
def fnExactFormatBucketUptoCard : Claim7 := { stood := { row := fnExactFormatBucketUptoRow, standIns := [], harness := (true, "6c29eb22d3310c2fce19a1038f93fa46e848426d38137a846d316cba336839c7"), looks := false }, kinds := [], alts := [], laidByText := true, laidKinds := [.data, .data, .data], laidTests := true, laidLooks := .later }
def FnExactFormatBucketUptoCardSaid : Prop := Claim7.holds Tryz.pinned (.plain (OpenSpec.upto fnExactFormatBucketSpec)) fnExactFormatBucketUptoCard

/-- THE SECOND FORM's CARD OF 'laws.FnExactFormatWorld'. -/
def fnExactFormatWorldUptoCard : Claim7 := { stood := { row := fnExactFormatWorldUptoRow, standIns := [], harness := (true, "6c29eb22d3310c2fce19a1038f93fa46e848426d38137a846d316cba336839c7"), looks := false }, kinds := [], alts := [], laidByText := true, laidKinds := [.data, .data, .data], laidTests := true, laidLooks := .later }
def FnExactFormatWorldUptoCardSaid : Prop := Claim7.holds Tryz.pinned (.plain (OpenSpec.upto fnExactFormatWorldSpec)) fnExactFormatWorldUptoCard
end Rows
end Go.Proofs.YtgpnnobfdcbgoaaGreatDoor
