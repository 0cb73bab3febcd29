/-
  DERIVED. GIVEN WITH THE SEED: THE CARDS: each row of YtaehfpigjdndkaaGreatDoorRows.lean that lists a variable, with what it lists TIED to the program's text (the seventh form; the later family's looks); each row that meets fmt, with fmt's text TOLD by the authors' own Lean function (tested against real Go, not proved from fmt's source: count such statements apart). THE CARD IS WHAT COUNTS. Prove the row's statement (the work); the ties are given (YtaehfpigjdndkaaGreatDoorTie.lean); close each card by the builder's one call (the guide's Derived/Test/ToyasCard.lean, 'card_holds'). Laid BY PROGRAM, IN A SANDBOX (cutbox-door.mjs). By AI agents, Wed Nov 11 2026. No macro, syntax, notation, axiom, sorry.
-/
import Derived.Test.YtaehfpigjdndkaaGreatDoorRows
import GoSem.ClaimSeven
namespace Go.Proofs.YtaehfpigjdndkaaGreatDoor
namespace Rows

/-- THE TIED CARD OF 'tintypelaw33.CoverTells'. -/
def coverTellsCard : Claim7 := { stood := { row := coverTellsRow, standIns := [], harness := (true, "1e52b9a4ffd6c37111ffcce10fceec886e7868f16a99bdd32fb405916c0f578d"), looks := true }, kinds := [], alts := [], laidByText := true, laidKinds := [.sentinel], laidTests := true, laidLooks := .later }
def CoverTellsCardSaid : Prop := Claim7.holds Tryz.pinned (.plain (OpenSpec.ofChange coverTellsSpec)) coverTellsCard

/-- THE SECOND FORM's CARD OF 'tintypelaw33.CoverTells'. -/
def coverTellsUptoCard : Claim7 := { stood := { row := coverTellsUptoRow, standIns := [], harness := (true, "1e52b9a4ffd6c37111ffcce10fceec886e7868f16a99bdd32fb405916c0f578d"), looks := true }, kinds := [], alts := [], laidByText := true, laidKinds := [.sentinel], laidTests := true, laidLooks := .later }
def CoverTellsUptoCardSaid : Prop := Claim7.holds Tryz.pinned (.plain (OpenSpec.upto coverTellsSpec)) coverTellsUptoCard
end Rows
end Go.Proofs.YtaehfpigjdndkaaGreatDoor
