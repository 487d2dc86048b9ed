/-
  DERIVED. GIVEN WITH THE SEED: THE CARDS: each row of YtpkghjoippcjeaaGreatDoorRows.lean that lists a variable, with what it lists TIED to the program's text (the seventh form; the later family's looks); each row that meets fmt, with fmt's text TOLD by the authors' own Lean function (tested against real Go, not proved from fmt's source: count such statements apart). THE CARD IS WHAT COUNTS. Prove the row's statement (the work); the ties are given (YtpkghjoippcjeaaGreatDoorTie.lean); close each card by the builder's one call (the guide's Derived/Test/ToyasCard.lean, 'card_holds'). Laid BY PROGRAM, IN A SANDBOX (cutbox-door.mjs). By AI agents, Wed Nov 11 2026. No macro, syntax, notation, axiom, sorry.
-/
import Derived.Test.YtpkghjoippcjeaaGreatDoorRows
import GoSem.ClaimSeven
namespace Go.Proofs.YtpkghjoippcjeaaGreatDoor
namespace Rows

/-- THE TIED CARD OF 'talismantop.TopLoomSymbols'. -/
def topLoomSymbolsCard : Claim7 := { stood := { row := topLoomSymbolsRow, standIns := [], harness := (true, "0a215c32a327bb99dd4538186b1e071165da8e8e3495e903611d40f86d5482f4"), looks := false }, kinds := [], alts := [], laidByText := true, laidKinds := [.data, .data, .data], laidTests := true, laidLooks := .later }
def TopLoomSymbolsCardSaid : Prop := Claim7.holds Tryz.pinned (.plain (OpenSpec.ofChange topLoomSymbolsSpec)) topLoomSymbolsCard

/-- THE SECOND FORM's CARD OF 'talismantop.TopLoomSymbols'. -/
def topLoomSymbolsUptoCard : Claim7 := { stood := { row := topLoomSymbolsUptoRow, standIns := [], harness := (true, "0a215c32a327bb99dd4538186b1e071165da8e8e3495e903611d40f86d5482f4"), looks := false }, kinds := [], alts := [], laidByText := true, laidKinds := [.data, .data, .data], laidTests := true, laidLooks := .later }
def TopLoomSymbolsUptoCardSaid : Prop := Claim7.holds Tryz.pinned (.plain (OpenSpec.upto topLoomSymbolsSpec)) topLoomSymbolsUptoCard
end Rows
end Go.Proofs.YtpkghjoippcjeaaGreatDoor
