/-
  DERIVED. GIVEN WITH THE SEED: THE CARDS: each row of YtgpnnobfdcbgoaaDoorRows.lean that lists a variable, with what it lists TIED to the program's text (the seventh form; the later family's looks); each row that meets fmt, with fmt's text TOLD by the authors' own Lean function (tested against real Go, not proved from fmt's source: count such statements apart). THE CARD IS WHAT COUNTS. Prove the row's statement (the work); the ties are given (YtgpnnobfdcbgoaaDoorTie.lean); close each card by the builder's one call (the guide's Derived/Test/ToyasCard.lean, 'card_holds'). Laid BY PROGRAM, IN A SANDBOX (cutbox-door.mjs). By AI agents, Wed Nov 11 2026. No macro, syntax, notation, axiom, sorry.
-/
import Derived.Test.YtgpnnobfdcbgoaaDoorRows
import GoSem.ClaimSeven
namespace Go.Proofs.YtgpnnobfdcbgoaaDoor
namespace Rows

/-- THE TIED CARD OF 'laws.FnExactFormatNotes'. -/
def fnExactFormatNotesCard : Claim7 := { stood := { row := fnExactFormatNotesRow, standIns := [], harness := (true, "c8d6fe6bdbb7921eb36f36b562e10b4d8482b8831f0ab1fc0ac0eff4bd11d308"), looks := false }, kinds := [], alts := [], laidByText := true, laidKinds := [.data, .data, .data], laidTests := true, laidLooks := .later }
def FnExactFormatNotesCardSaid : Prop := Claim7.holds Tryd.pinned (.plain (OpenSpec.ofChange fnExactFormatNotesSpec)) fnExactFormatNotesCard

/-- THE SECOND FORM's CARD OF 'laws.FnExactFormatNotes'. -/
def fnExactFormatNotesUptoCard : Claim7 := { stood := { row := fnExactFormatNotesUptoRow, standIns := [], harness := (true, "c8d6fe6bdbb7921eb36f36b562e10b4d8482b8831f0ab1fc0ac0eff4bd11d308"), looks := false }, kinds := [], alts := [], laidByText := true, laidKinds := [.data, .data, .data], laidTests := true, laidLooks := .later }
def FnExactFormatNotesUptoCardSaid : Prop := Claim7.holds Tryd.pinned (.plain (OpenSpec.upto fnExactFormatNotesSpec)) fnExactFormatNotesUptoCard
end Rows
end Go.Proofs.YtgpnnobfdcbgoaaDoor
