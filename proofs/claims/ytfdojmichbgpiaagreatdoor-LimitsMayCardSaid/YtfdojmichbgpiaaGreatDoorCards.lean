/-
  DERIVED. GIVEN WITH THE SEED: THE CARDS: each row of YtfdojmichbgpiaaGreatDoorRows.lean that lists a variable, with what it lists TIED to the program's text (the seventh form; the later family's looks); each row that meets fmt, with fmt's text TOLD by the authors' own Lean function (tested against real Go, not proved from fmt's source: count such statements apart). THE CARD IS WHAT COUNTS. Prove the row's statement (the work); the ties are given (YtfdojmichbgpiaaGreatDoorTie.lean); close each card by the builder's one call (the guide's Derived/Test/ToyasCard.lean, 'card_holds'). Laid BY PROGRAM, IN A SANDBOX (cutbox-door.mjs). By AI agents, Wed Nov 11 2026. No macro, syntax, notation, axiom, sorry.
-/
import Derived.Test.YtfdojmichbgpiaaGreatDoorRows
import GoSem.ClaimSeven
namespace Go.Proofs.YtfdojmichbgpiaaGreatDoor
namespace Rows

/-- THE TIED CARD OF 'tintypelaw30.LimitsEach'. -/
def limitsEachCard : Claim7 := { stood := { row := limitsEachRow, standIns := [], harness := (true, "0e0c883aeb0d921b531ac1ce928cb1d908d43e1ff52140fd9eaa71535541bb93"), looks := true }, kinds := [], alts := [], laidByText := true, laidKinds := [.sentinel], laidTests := true, laidLooks := .later }
def LimitsEachCardSaid : Prop := Claim7.holds Tryz.pinned (.plain (OpenSpec.ofChange limitsEachSpec)) limitsEachCard

/-- THE TIED CARD OF 'tintypelaw30.LimitsImages'. -/
def limitsImagesCard : Claim7 := { stood := { row := limitsImagesRow, standIns := [], harness := (true, "0e0c883aeb0d921b531ac1ce928cb1d908d43e1ff52140fd9eaa71535541bb93"), looks := true }, kinds := [], alts := [], laidByText := true, laidKinds := [.sentinel], laidTests := true, laidLooks := .later }
def LimitsImagesCardSaid : Prop := Claim7.holds Tryz.pinned (.plain (OpenSpec.ofChange limitsImagesSpec)) limitsImagesCard

/-- THE TIED CARD OF 'tintypelaw30.LimitsFirst'. -/
def limitsFirstCard : Claim7 := { stood := { row := limitsFirstRow, standIns := [], harness := (true, "0e0c883aeb0d921b531ac1ce928cb1d908d43e1ff52140fd9eaa71535541bb93"), looks := true }, kinds := [], alts := [], laidByText := true, laidKinds := [.sentinel], laidTests := true, laidLooks := .later }
def LimitsFirstCardSaid : Prop := Claim7.holds Tryz.pinned (.plain (OpenSpec.ofChange limitsFirstSpec)) limitsFirstCard

/-- THE TIED CARD OF 'tintypelaw30.LimitsMay'. -/
def limitsMayCard : Claim7 := { stood := { row := limitsMayRow, standIns := [], harness := (true, "0e0c883aeb0d921b531ac1ce928cb1d908d43e1ff52140fd9eaa71535541bb93"), looks := true }, kinds := [], alts := [], laidByText := true, laidKinds := [.sentinel], laidTests := true, laidLooks := .later }
def LimitsMayCardSaid : Prop := Claim7.holds Tryz.pinned (.plain (OpenSpec.ofChange limitsMaySpec)) limitsMayCard

/-- THE SECOND FORM's CARD OF 'tintypelaw30.LimitsEach'. -/
def limitsEachUptoCard : Claim7 := { stood := { row := limitsEachUptoRow, standIns := [], harness := (true, "0e0c883aeb0d921b531ac1ce928cb1d908d43e1ff52140fd9eaa71535541bb93"), looks := true }, kinds := [], alts := [], laidByText := true, laidKinds := [.sentinel], laidTests := true, laidLooks := .later }
def LimitsEachUptoCardSaid : Prop := Claim7.holds Tryz.pinned (.plain (OpenSpec.upto limitsEachSpec)) limitsEachUptoCard

/-- THE SECOND FORM's CARD OF 'tintypelaw30.LimitsImages'. -/
def limitsImagesUptoCard : Claim7 := { stood := { row := limitsImagesUptoRow, standIns := [], harness := (true, "0e0c883aeb0d921b531ac1ce928cb1d908d43e1ff52140fd9eaa71535541bb93"), looks := true }, kinds := [], alts := [], laidByText := true, laidKinds := [.sentinel], laidTests := true, laidLooks := .later }
def LimitsImagesUptoCardSaid : Prop := Claim7.holds Tryz.pinned (.plain (OpenSpec.upto limitsImagesSpec)) limitsImagesUptoCard

/-- THE SECOND FORM's CARD OF 'tintypelaw30.LimitsFirst'. -/
def limitsFirstUptoCard : Claim7 := { stood := { row := limitsFirstUptoRow, standIns := [], harness := (true, "0e0c883aeb0d921b531ac1ce928cb1d908d43e1ff52140fd9eaa71535541bb93"), looks := true }, kinds := [], alts := [], laidByText := true, laidKinds := [.sentinel], laidTests := true, laidLooks := .later }
def LimitsFirstUptoCardSaid : Prop := Claim7.holds Tryz.pinned (.plain (OpenSpec.upto limitsFirstSpec)) limitsFirstUptoCard

/-- THE SECOND FORM's CARD OF 'tintypelaw30.LimitsMay'. -/
def limitsMayUptoCard : Claim7 := { stood := { row := limitsMayUptoRow, standIns := [], harness := (true, "0e0c883aeb0d921b531ac1ce928cb1d908d43e1ff52140fd9eaa71535541bb93"), looks := true }, kinds := [], alts := [], laidByText := true, laidKinds := [.sentinel], laidTests := true, laidLooks := .later }
def LimitsMayUptoCardSaid : Prop := Claim7.holds Tryz.pinned (.plain (OpenSpec.upto limitsMaySpec)) limitsMayUptoCard
end Rows
end Go.Proofs.YtfdojmichbgpiaaGreatDoor
