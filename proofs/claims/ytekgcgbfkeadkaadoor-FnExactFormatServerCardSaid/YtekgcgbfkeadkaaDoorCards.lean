/-
  DERIVED. GIVEN WITH THE SEED: THE CARDS: each row of YtekgcgbfkeadkaaDoorRows.lean that lists a variable, with what it lists TIED to the program's text (the seventh form; the later family's looks); each row that meets fmt, with fmt's text TOLD by the authors' own Lean function (tested against real Go, not proved from fmt's source: count such statements apart). THE CARD IS WHAT COUNTS. Prove the row's statement (the work); the ties are given (YtekgcgbfkeadkaaDoorTie.lean); close each card by the builder's one call (the guide's Derived/Test/ToyasCard.lean, 'card_holds'). Laid BY PROGRAM, IN A SANDBOX (cutbox-door.mjs). By AI agents, Wed Nov 11 2026. No macro, syntax, notation, axiom, sorry.
-/
import Derived.Test.YtekgcgbfkeadkaaDoorRows
import GoSem.ClaimSeven
namespace Go.Proofs.YtekgcgbfkeadkaaDoor
namespace Rows

/-- THE TIED CARD OF 'laws.FnExactFormatItem'. -/
def fnExactFormatItemCard : Claim7 := { stood := { row := fnExactFormatItemRow, standIns := [], harness := (true, "6d445fa0ce92b3485e3e2f629413c71abc9423d6e6022bc8ee34f9bc28ef9123"), looks := false }, kinds := [], alts := [], laidByText := true, laidKinds := [.data, .data, .data], laidTests := true, laidLooks := .later }
def FnExactFormatItemCardSaid : Prop := Claim7.holds Tryd.pinned (.plain (OpenSpec.ofChange fnExactFormatItemSpec)) fnExactFormatItemCard

/-- THE TIED CARD OF 'laws.FnExactFormatPage'. -/
def fnExactFormatPageCard : Claim7 := { stood := { row := fnExactFormatPageRow, standIns := [], harness := (true, "6d445fa0ce92b3485e3e2f629413c71abc9423d6e6022bc8ee34f9bc28ef9123"), looks := false }, kinds := [], alts := [], laidByText := true, laidKinds := [.data, .data, .data], laidTests := true, laidLooks := .later }
def FnExactFormatPageCardSaid : Prop := Claim7.holds Tryd.pinned (.plain (OpenSpec.ofChange fnExactFormatPageSpec)) fnExactFormatPageCard

/-- THE TIED CARD OF 'laws.FnExactFormatServer'. -/
def fnExactFormatServerCard : Claim7 := { stood := { row := fnExactFormatServerRow, standIns := [], harness := (true, "6d445fa0ce92b3485e3e2f629413c71abc9423d6e6022bc8ee34f9bc28ef9123"), looks := false }, kinds := [], alts := [], laidByText := true, laidKinds := [.data, .data, .data], laidTests := true, laidLooks := .later }
def FnExactFormatServerCardSaid : Prop := Claim7.holds Tryd.pinned (.plain (OpenSpec.ofChange fnExactFormatServerSpec)) fnExactFormatServerCard

/-- THE TIED CARD OF 'laws.FnExactFormatNotes'. -/
def fnExactFormatNotesCard : Claim7 := { stood := { row := fnExactFormatNotesRow, standIns := [], harness := (true, "6d445fa0ce92b3485e3e2f629413c71abc9423d6e6022bc8ee34f9bc28ef9123"), looks := false }, kinds := [], alts := [], laidByText := true, laidKinds := [.data, .data, .data], laidTests := true, laidLooks := .later }
def FnExactFormatNotesCardSaid : Prop := Claim7.holds Tryd.pinned (.plain (OpenSpec.ofChange fnExactFormatNotesSpec)) fnExactFormatNotesCard

/-- THE TIED CARD OF 'laws.FnExactFormatTx'. -/
def fnExactFormatTxCard : Claim7 := { stood := { row := fnExactFormatTxRow, standIns := [], harness := (true, "6d445fa0ce92b3485e3e2f629413c71abc9423d6e6022bc8ee34f9bc28ef9123"), looks := false }, kinds := [], alts := [], laidByText := true, laidKinds := [.data, .data, .data], laidTests := true, laidLooks := .later }
def FnExactFormatTxCardSaid : Prop := Claim7.holds Tryd.pinned (.plain (OpenSpec.ofChange fnExactFormatTxSpec)) fnExactFormatTxCard

/-- THE SECOND FORM's CARD OF 'laws.FnExactFormatItem'. -/
def fnExactFormatItemUptoCard : Claim7 := { stood := { row := fnExactFormatItemUptoRow, standIns := [], harness := (true, "6d445fa0ce92b3485e3e2f629413c71abc9423d6e6022bc8ee34f9bc28ef9123"), looks := false }, kinds := [], alts := [], laidByText := true, laidKinds := [.data, .data, .data], laidTests := true, laidLooks := .later }
def FnExactFormatItemUptoCardSaid : Prop := Claim7.holds Tryd.pinned (.plain (OpenSpec.upto fnExactFormatItemSpec)) fnExactFormatItemUptoCard

/-- THE SECOND FORM's CARD OF 'laws.FnExactFormatPage'. -/
def fnExactFormatPageUptoCard : Claim7 := { stood := { row := fnExactFormatPageUptoRow, standIns := [], harness := (true, "6d445fa0ce92b3485e3e2f629413c71abc9423d6e6022bc8ee34f9bc28ef9123"), looks := false }, kinds := [], alts := [], laidByText := true, laidKinds := [.data, .data, .data], laidTests := true, laidLooks := .later }
def FnExactFormatPageUptoCardSaid : Prop := Claim7.holds Tryd.pinned (.plain (OpenSpec.upto fnExactFormatPageSpec)) fnExactFormatPageUptoCard

/-- THE SECOND FORM's CARD OF 'laws.FnExactFormatServer'. -/
def fnExactFormatServerUptoCard : Claim7 := { stood := { row := fnExactFormatServerUptoRow, standIns := [], harness := (true, "6d445fa0ce92b3485e3e2f629413c71abc9423d6e6022bc8ee34f9bc28ef9123"), looks := false }, kinds := [], alts := [], laidByText := true, laidKinds := [.data, .data, .data], laidTests := true, laidLooks := .later }
def FnExactFormatServerUptoCardSaid : Prop := Claim7.holds Tryd.pinned (.plain (OpenSpec.upto fnExactFormatServerSpec)) fnExactFormatServerUptoCard

/-- THE SECOND FORM's CARD OF 'laws.FnExactFormatNotes'. -/
def fnExactFormatNotesUptoCard : Claim7 := { stood := { row := fnExactFormatNotesUptoRow, standIns := [], harness := (true, "6d445fa0ce92b3485e3e2f629413c71abc9423d6e6022bc8ee34f9bc28ef9123"), looks := false }, kinds := [], alts := [], laidByText := true, laidKinds := [.data, .data, .data], laidTests := true, laidLooks := .later }
def FnExactFormatNotesUptoCardSaid : Prop := Claim7.holds Tryd.pinned (.plain (OpenSpec.upto fnExactFormatNotesSpec)) fnExactFormatNotesUptoCard

/-- THE SECOND FORM's CARD OF 'laws.FnExactFormatTx'. -/
def fnExactFormatTxUptoCard : Claim7 := { stood := { row := fnExactFormatTxUptoRow, standIns := [], harness := (true, "6d445fa0ce92b3485e3e2f629413c71abc9423d6e6022bc8ee34f9bc28ef9123"), looks := false }, kinds := [], alts := [], laidByText := true, laidKinds := [.data, .data, .data], laidTests := true, laidLooks := .later }
def FnExactFormatTxUptoCardSaid : Prop := Claim7.holds Tryd.pinned (.plain (OpenSpec.upto fnExactFormatTxSpec)) fnExactFormatTxUptoCard
end Rows
end Go.Proofs.YtekgcgbfkeadkaaDoor
