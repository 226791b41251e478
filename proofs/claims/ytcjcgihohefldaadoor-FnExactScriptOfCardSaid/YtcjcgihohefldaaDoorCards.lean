/-
  DERIVED. GIVEN WITH THE SEED: THE CARDS: each row of YtcjcgihohefldaaDoorRows.lean that lists a variable, with what it lists TIED to the program's text (the seventh form; the later family's looks); each row that meets fmt, with fmt's text TOLD by the authors' own Lean function (tested against real Go, not proved from fmt's source: count such statements apart). THE CARD IS WHAT COUNTS. Prove the row's statement (the work); the ties are given (YtcjcgihohefldaaDoorTie.lean); close each card by the builder's one call (the guide's Derived/Test/ToyasCard.lean, 'card_holds'). Laid BY PROGRAM, IN A SANDBOX (cutbox-door.mjs). By AI agents, Wed Nov 11 2026. No macro, syntax, notation, axiom, sorry.
-/
import Derived.Test.YtcjcgihohefldaaDoorRows
import GoSem.ClaimSeven
namespace Go.Proofs.YtcjcgihohefldaaDoor
namespace Rows

/-- THE TIED CARD OF 'laws.FnExactScriptOf'. -/
def fnExactScriptOfCard : Claim7 := { stood := { row := fnExactScriptOfRow, standIns := [], harness := (true, "c6f359ed5a80d4f80fa0c609d15430e948783a57ef796a0ebc565c82b91b604c"), looks := true }, kinds := [], alts := [], laidByText := true, laidKinds := [.data, .data, .data, .data, .sentinel, .sentinel, .pinned], laidTests := true, laidLooks := .later }
def FnExactScriptOfCardSaid : Prop := Claim7.holds Tryd.pinned (.plain (OpenSpec.ofChange fnExactScriptOfSpec)) fnExactScriptOfCard

/-- THE SECOND FORM's CARD OF 'laws.FnExactScriptOf'. -/
def fnExactScriptOfUptoCard : Claim7 := { stood := { row := fnExactScriptOfUptoRow, standIns := [], harness := (true, "c6f359ed5a80d4f80fa0c609d15430e948783a57ef796a0ebc565c82b91b604c"), looks := true }, kinds := [], alts := [], laidByText := true, laidKinds := [.data, .data, .data, .data, .sentinel, .sentinel, .pinned], laidTests := true, laidLooks := .later }
def FnExactScriptOfUptoCardSaid : Prop := Claim7.holds Tryd.pinned (.plain (OpenSpec.upto fnExactScriptOfSpec)) fnExactScriptOfUptoCard
end Rows
end Go.Proofs.YtcjcgihohefldaaDoor
