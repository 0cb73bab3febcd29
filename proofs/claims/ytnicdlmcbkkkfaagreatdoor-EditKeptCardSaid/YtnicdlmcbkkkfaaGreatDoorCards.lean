/-
  DERIVED. GIVEN WITH THE SEED: THE CARDS: each row of YtnicdlmcbkkkfaaGreatDoorRows.lean that lists a variable, with what it lists TIED to the program's text (the seventh form; the later family's looks); each row that meets fmt, with fmt's text TOLD by the authors' own Lean function (tested against real Go, not proved from fmt's source: count such statements apart). THE CARD IS WHAT COUNTS. Prove the row's statement (the work); the ties are given (YtnicdlmcbkkkfaaGreatDoorTie.lean); close each card by the builder's one call (the guide's Derived/Test/ToyasCard.lean, 'card_holds'). Laid BY PROGRAM, IN A SANDBOX (cutbox-door.mjs). By AI agents, Wed Nov 11 2026. No macro, syntax, notation, axiom, sorry.
-/
import Derived.Test.YtnicdlmcbkkkfaaGreatDoorRows
import GoSem.ClaimSeven
namespace Go.Proofs.YtnicdlmcbkkkfaaGreatDoor
namespace Rows

/-- THE TIED CARD OF 'tintypelaw37.EditKept'. -/
def editKeptCard : Claim7 := { stood := { row := editKeptRow, standIns := [], harness := (true, "77be1f870818881ea87d9152ca40ca3270320240b1c2227a2f78ad3476d62b91"), looks := true }, kinds := [], alts := [], laidByText := true, laidKinds := [.data, .data, .data, .sentinel, .sentinel, .sentinel], laidTests := true, laidLooks := .later }
def EditKeptCardSaid : Prop := Claim7.holds Tryz.pinned (.plain (OpenSpec.ofChange editKeptSpec)) editKeptCard

/-- THE SECOND FORM's CARD OF 'tintypelaw37.EditKept'. -/
def editKeptUptoCard : Claim7 := { stood := { row := editKeptUptoRow, standIns := [], harness := (true, "77be1f870818881ea87d9152ca40ca3270320240b1c2227a2f78ad3476d62b91"), looks := true }, kinds := [], alts := [], laidByText := true, laidKinds := [.data, .data, .data, .sentinel, .sentinel, .sentinel], laidTests := true, laidLooks := .later }
def EditKeptUptoCardSaid : Prop := Claim7.holds Tryz.pinned (.plain (OpenSpec.upto editKeptSpec)) editKeptUptoCard
end Rows
end Go.Proofs.YtnicdlmcbkkkfaaGreatDoor
