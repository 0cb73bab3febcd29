/-
  DERIVED. GIVEN WITH THE SEED: THE CARDS: each row of YtcfjfbeadhnknaaGreatDoorRows.lean that lists a variable, with what it lists TIED to the program's text (the seventh form; the later family's looks); each row that meets fmt, with fmt's text TOLD by the authors' own Lean function (tested against real Go, not proved from fmt's source: count such statements apart). THE CARD IS WHAT COUNTS. Prove the row's statement (the work); the ties are given (YtcfjfbeadhnknaaGreatDoorTie.lean); close each card by the builder's one call (the guide's Derived/Test/ToyasCard.lean, 'card_holds'). Laid BY PROGRAM, IN A SANDBOX (cutbox-door.mjs). By AI agents, Wed Nov 11 2026. No macro, syntax, notation, axiom, sorry.
-/
import Derived.Test.YtcfjfbeadhnknaaGreatDoorRows
import GoSem.ClaimSeven
namespace Go.Proofs.YtcfjfbeadhnknaaGreatDoor
namespace Rows

/-- THE TIED CARD OF 'tintypelaw31.WriteStays'. -/
def writeStaysCard : Claim7 := { stood := { row := writeStaysRow, standIns := [], harness := (true, "7c5a78b13e580046f8ba806aa747af33bdf407bdc8cfc17e1b389fc28d39d364"), looks := true }, kinds := [], alts := [], laidByText := true, laidKinds := [.sentinel], laidTests := true, laidLooks := .later }
def WriteStaysCardSaid : Prop := Claim7.holds Tryz.pinned (.plain (OpenSpec.ofChange writeStaysSpec)) writeStaysCard

/-- THE TIED CARD OF 'tintypelaw31.WriteTiles'. -/
def writeTilesCard : Claim7 := { stood := { row := writeTilesRow, standIns := [], harness := (true, "7c5a78b13e580046f8ba806aa747af33bdf407bdc8cfc17e1b389fc28d39d364"), looks := true }, kinds := [], alts := [], laidByText := true, laidKinds := [.sentinel], laidTests := true, laidLooks := .later }
def WriteTilesCardSaid : Prop := Claim7.holds Tryz.pinned (.plain (OpenSpec.ofChange writeTilesSpec)) writeTilesCard

/-- THE TIED CARD OF 'tintypelaw32.ReadBack'. -/
def readBackCard : Claim7 := { stood := { row := readBackRow, standIns := [], harness := (true, "7c5a78b13e580046f8ba806aa747af33bdf407bdc8cfc17e1b389fc28d39d364"), looks := true }, kinds := [], alts := [], laidByText := true, laidKinds := [.sentinel], laidTests := true, laidLooks := .later }
def ReadBackCardSaid : Prop := Claim7.holds Tryz.pinned (.plain (OpenSpec.ofChange readBackSpec)) readBackCard

/-- THE TIED CARD OF 'tintypelaw33.CoverTiles'. -/
def coverTilesCard : Claim7 := { stood := { row := coverTilesRow, standIns := [], harness := (true, "7c5a78b13e580046f8ba806aa747af33bdf407bdc8cfc17e1b389fc28d39d364"), looks := true }, kinds := [], alts := [], laidByText := true, laidKinds := [.sentinel], laidTests := true, laidLooks := .later }
def CoverTilesCardSaid : Prop := Claim7.holds Tryz.pinned (.plain (OpenSpec.ofChange coverTilesSpec)) coverTilesCard

/-- THE TIED CARD OF 'tintypelaw32.ReadAgain'. -/
def readAgainCard : Claim7 := { stood := { row := readAgainRow, standIns := [], harness := (true, "7c5a78b13e580046f8ba806aa747af33bdf407bdc8cfc17e1b389fc28d39d364"), looks := true }, kinds := [], alts := [], laidByText := true, laidKinds := [.sentinel], laidTests := true, laidLooks := .later }
def ReadAgainCardSaid : Prop := Claim7.holds Tryz.pinned (.plain (OpenSpec.ofChange readAgainSpec)) readAgainCard

/-- THE TIED CARD OF 'tintypelaw33.CoverWritten'. -/
def coverWrittenCard : Claim7 := { stood := { row := coverWrittenRow, standIns := [], harness := (true, "7c5a78b13e580046f8ba806aa747af33bdf407bdc8cfc17e1b389fc28d39d364"), looks := true }, kinds := [], alts := [], laidByText := true, laidKinds := [.sentinel], laidTests := true, laidLooks := .later }
def CoverWrittenCardSaid : Prop := Claim7.holds Tryz.pinned (.plain (OpenSpec.ofChange coverWrittenSpec)) coverWrittenCard

/-- THE TIED CARD OF 'tintypelaw33.CoverSays'. -/
def coverSaysCard : Claim7 := { stood := { row := coverSaysRow, standIns := [], harness := (true, "7c5a78b13e580046f8ba806aa747af33bdf407bdc8cfc17e1b389fc28d39d364"), looks := true }, kinds := [], alts := [], laidByText := true, laidKinds := [.sentinel], laidTests := true, laidLooks := .later }
def CoverSaysCardSaid : Prop := Claim7.holds Tryz.pinned (.plain (OpenSpec.ofChange coverSaysSpec)) coverSaysCard

/-- THE TIED CARD OF 'tintypelaw35.SplitOther'. -/
def splitOtherCard : Claim7 := { stood := { row := splitOtherRow, standIns := [], harness := (true, "7c5a78b13e580046f8ba806aa747af33bdf407bdc8cfc17e1b389fc28d39d364"), looks := true }, kinds := [], alts := [], laidByText := true, laidKinds := [.sentinel], laidTests := true, laidLooks := .later }
def SplitOtherCardSaid : Prop := Claim7.holds Tryz.pinned (.plain (OpenSpec.ofChange splitOtherSpec)) splitOtherCard

/-- THE TIED CARD OF 'tintypelaw35.SplitAny'. -/
def splitAnyCard : Claim7 := { stood := { row := splitAnyRow, standIns := [], harness := (true, "7c5a78b13e580046f8ba806aa747af33bdf407bdc8cfc17e1b389fc28d39d364"), looks := true }, kinds := [], alts := [], laidByText := true, laidKinds := [.sentinel], laidTests := true, laidLooks := .later }
def SplitAnyCardSaid : Prop := Claim7.holds Tryz.pinned (.plain (OpenSpec.ofChange splitAnySpec)) splitAnyCard

/-- THE TIED CARD OF 'tintypelaw34.ValidWritten'. -/
def validWrittenCard : Claim7 := { stood := { row := validWrittenRow, standIns := [], harness := (true, "7c5a78b13e580046f8ba806aa747af33bdf407bdc8cfc17e1b389fc28d39d364"), looks := true }, kinds := [], alts := [], laidByText := true, laidKinds := [.sentinel], laidTests := true, laidLooks := .later }
def ValidWrittenCardSaid : Prop := Claim7.holds Tryz.pinned (.plain (OpenSpec.ofChange validWrittenSpec)) validWrittenCard

/-- THE TIED CARD OF 'tintypelaw35.SplitBack'. -/
def splitBackCard : Claim7 := { stood := { row := splitBackRow, standIns := [], harness := (true, "7c5a78b13e580046f8ba806aa747af33bdf407bdc8cfc17e1b389fc28d39d364"), looks := true }, kinds := [], alts := [], laidByText := true, laidKinds := [.sentinel], laidTests := true, laidLooks := .later }
def SplitBackCardSaid : Prop := Claim7.holds Tryz.pinned (.plain (OpenSpec.ofChange splitBackSpec)) splitBackCard

/-- THE TIED CARD OF 'tintypelaw35.SplitTurned'. -/
def splitTurnedCard : Claim7 := { stood := { row := splitTurnedRow, standIns := [], harness := (true, "7c5a78b13e580046f8ba806aa747af33bdf407bdc8cfc17e1b389fc28d39d364"), looks := true }, kinds := [], alts := [], laidByText := true, laidKinds := [.sentinel], laidTests := true, laidLooks := .later }
def SplitTurnedCardSaid : Prop := Claim7.holds Tryz.pinned (.plain (OpenSpec.ofChange splitTurnedSpec)) splitTurnedCard

/-- THE SECOND FORM's CARD OF 'tintypelaw31.WriteStays'. -/
def writeStaysUptoCard : Claim7 := { stood := { row := writeStaysUptoRow, standIns := [], harness := (true, "7c5a78b13e580046f8ba806aa747af33bdf407bdc8cfc17e1b389fc28d39d364"), looks := true }, kinds := [], alts := [], laidByText := true, laidKinds := [.sentinel], laidTests := true, laidLooks := .later }
def WriteStaysUptoCardSaid : Prop := Claim7.holds Tryz.pinned (.plain (OpenSpec.upto writeStaysSpec)) writeStaysUptoCard

/-- THE SECOND FORM's CARD OF 'tintypelaw31.WriteTiles'. -/
def writeTilesUptoCard : Claim7 := { stood := { row := writeTilesUptoRow, standIns := [], harness := (true, "7c5a78b13e580046f8ba806aa747af33bdf407bdc8cfc17e1b389fc28d39d364"), looks := true }, kinds := [], alts := [], laidByText := true, laidKinds := [.sentinel], laidTests := true, laidLooks := .later }
def WriteTilesUptoCardSaid : Prop := Claim7.holds Tryz.pinned (.plain (OpenSpec.upto writeTilesSpec)) writeTilesUptoCard

/-- THE SECOND FORM's CARD OF 'tintypelaw32.ReadBack'. -/
def readBackUptoCard : Claim7 := { stood := { row := readBackUptoRow, standIns := [], harness := (true, "7c5a78b13e580046f8ba806aa747af33bdf407bdc8cfc17e1b389fc28d39d364"), looks := true }, kinds := [], alts := [], laidByText := true, laidKinds := [.sentinel], laidTests := true, laidLooks := .later }
def ReadBackUptoCardSaid : Prop := Claim7.holds Tryz.pinned (.plain (OpenSpec.upto readBackSpec)) readBackUptoCard

/-- THE SECOND FORM's CARD OF 'tintypelaw33.CoverTiles'. -/
def coverTilesUptoCard : Claim7 := { stood := { row := coverTilesUptoRow, standIns := [], harness := (true, "7c5a78b13e580046f8ba806aa747af33bdf407bdc8cfc17e1b389fc28d39d364"), looks := true }, kinds := [], alts := [], laidByText := true, laidKinds := [.sentinel], laidTests := true, laidLooks := .later }
def CoverTilesUptoCardSaid : Prop := Claim7.holds Tryz.pinned (.plain (OpenSpec.upto coverTilesSpec)) coverTilesUptoCard

/-- THE SECOND FORM's CARD OF 'tintypelaw32.ReadAgain'. -/
def readAgainUptoCard : Claim7 := { stood := { row := readAgainUptoRow, standIns := [], harness := (true, "7c5a78b13e580046f8ba806aa747af33bdf407bdc8cfc17e1b389fc28d39d364"), looks := true }, kinds := [], alts := [], laidByText := true, laidKinds := [.sentinel], laidTests := true, laidLooks := .later }
def ReadAgainUptoCardSaid : Prop := Claim7.holds Tryz.pinned (.plain (OpenSpec.upto readAgainSpec)) readAgainUptoCard

/-- THE SECOND FORM's CARD OF 'tintypelaw33.CoverWritten'. -/
def coverWrittenUptoCard : Claim7 := { stood := { row := coverWrittenUptoRow, standIns := [], harness := (true, "7c5a78b13e580046f8ba806aa747af33bdf407bdc8cfc17e1b389fc28d39d364"), looks := true }, kinds := [], alts := [], laidByText := true, laidKinds := [.sentinel], laidTests := true, laidLooks := .later }
def CoverWrittenUptoCardSaid : Prop := Claim7.holds Tryz.pinned (.plain (OpenSpec.upto coverWrittenSpec)) coverWrittenUptoCard

/-- THE SECOND FORM's CARD OF 'tintypelaw33.CoverSays'. -/
def coverSaysUptoCard : Claim7 := { stood := { row := coverSaysUptoRow, standIns := [], harness := (true, "7c5a78b13e580046f8ba806aa747af33bdf407bdc8cfc17e1b389fc28d39d364"), looks := true }, kinds := [], alts := [], laidByText := true, laidKinds := [.sentinel], laidTests := true, laidLooks := .later }
def CoverSaysUptoCardSaid : Prop := Claim7.holds Tryz.pinned (.plain (OpenSpec.upto coverSaysSpec)) coverSaysUptoCard

/-- THE SECOND FORM's CARD OF 'tintypelaw35.SplitOther'. -/
def splitOtherUptoCard : Claim7 := { stood := { row := splitOtherUptoRow, standIns := [], harness := (true, "7c5a78b13e580046f8ba806aa747af33bdf407bdc8cfc17e1b389fc28d39d364"), looks := true }, kinds := [], alts := [], laidByText := true, laidKinds := [.sentinel], laidTests := true, laidLooks := .later }
def SplitOtherUptoCardSaid : Prop := Claim7.holds Tryz.pinned (.plain (OpenSpec.upto splitOtherSpec)) splitOtherUptoCard

/-- THE SECOND FORM's CARD OF 'tintypelaw35.SplitAny'. -/
def splitAnyUptoCard : Claim7 := { stood := { row := splitAnyUptoRow, standIns := [], harness := (true, "7c5a78b13e580046f8ba806aa747af33bdf407bdc8cfc17e1b389fc28d39d364"), looks := true }, kinds := [], alts := [], laidByText := true, laidKinds := [.sentinel], laidTests := true, laidLooks := .later }
def SplitAnyUptoCardSaid : Prop := Claim7.holds Tryz.pinned (.plain (OpenSpec.upto splitAnySpec)) splitAnyUptoCard

/-- THE SECOND FORM's CARD OF 'tintypelaw34.ValidWritten'. -/
def validWrittenUptoCard : Claim7 := { stood := { row := validWrittenUptoRow, standIns := [], harness := (true, "7c5a78b13e580046f8ba806aa747af33bdf407bdc8cfc17e1b389fc28d39d364"), looks := true }, kinds := [], alts := [], laidByText := true, laidKinds := [.sentinel], laidTests := true, laidLooks := .later }
def ValidWrittenUptoCardSaid : Prop := Claim7.holds Tryz.pinned (.plain (OpenSpec.upto validWrittenSpec)) validWrittenUptoCard

/-- THE SECOND FORM's CARD OF 'tintypelaw35.SplitBack'. -/
def splitBackUptoCard : Claim7 := { stood := { row := splitBackUptoRow, standIns := [], harness := (true, "7c5a78b13e580046f8ba806aa747af33bdf407bdc8cfc17e1b389fc28d39d364"), looks := true }, kinds := [], alts := [], laidByText := true, laidKinds := [.sentinel], laidTests := true, laidLooks := .later }
def SplitBackUptoCardSaid : Prop := Claim7.holds Tryz.pinned (.plain (OpenSpec.upto splitBackSpec)) splitBackUptoCard

/-- THE SECOND FORM's CARD OF 'tintypelaw35.SplitTurned'. -/
def splitTurnedUptoCard : Claim7 := { stood := { row := splitTurnedUptoRow, standIns := [], harness := (true, "7c5a78b13e580046f8ba806aa747af33bdf407bdc8cfc17e1b389fc28d39d364"), looks := true }, kinds := [], alts := [], laidByText := true, laidKinds := [.sentinel], laidTests := true, laidLooks := .later }
def SplitTurnedUptoCardSaid : Prop := Claim7.holds Tryz.pinned (.plain (OpenSpec.upto splitTurnedSpec)) splitTurnedUptoCard
end Rows
end Go.Proofs.YtcfjfbeadhnknaaGreatDoor
