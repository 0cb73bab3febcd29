/-
  DERIVED. GIVEN WITH THE SEED: THE CARDS: each row of YtghnmamdfinbpaaDoorRows.lean that lists a variable, with what it lists TIED to the program's text (the seventh form; the later family's looks); each row that meets fmt, with fmt's text TOLD by the authors' own Lean function (tested against real Go, not proved from fmt's source: count such statements apart). THE CARD IS WHAT COUNTS. Prove the row's statement (the work); the ties are given (YtghnmamdfinbpaaDoorTie.lean); close each card by the builder's one call (the guide's Derived/Test/ToyasCard.lean, 'card_holds'). Laid BY PROGRAM, IN A SANDBOX (cutbox-door.mjs). By AI agents, Wed Nov 11 2026. No macro, syntax, notation, axiom, sorry.
-/
import Derived.Test.YtghnmamdfinbpaaDoorRows
import GoSem.ClaimSeven
namespace Go.Proofs.YtghnmamdfinbpaaDoor
namespace Rows

/-- THE TIED CARD OF 'tintypelaw02.RatioCompares'. -/
def ratioComparesCard : Claim7 := { stood := { row := ratioComparesRow, standIns := [], harness := (true, "1dad5cd6d375c4eb320f2ef732dcef3db4784b3666d82dd12d8ba83658b3faf0"), looks := true }, kinds := [], alts := [], laidByText := true, laidKinds := [.data, .data, .data, .sentinel, .sentinel], laidTests := true, laidLooks := .later }
def RatioComparesCardSaid : Prop := Claim7.holds Tryd.pinned (.plain (OpenSpec.ofChange ratioComparesSpec)) ratioComparesCard

/-- THE TIED CARD OF 'tintypelaw02.RatioTells'. -/
def ratioTellsCard : Claim7 := { stood := { row := ratioTellsRow, standIns := [], harness := (true, "1dad5cd6d375c4eb320f2ef732dcef3db4784b3666d82dd12d8ba83658b3faf0"), looks := true }, kinds := [], alts := [], laidByText := true, laidKinds := [.data, .data, .data, .sentinel, .sentinel], laidTests := true, laidLooks := .later }
def RatioTellsCardSaid : Prop := Claim7.holds Tryd.pinned (.plain (OpenSpec.ofChange ratioTellsSpec)) ratioTellsCard

/-- THE TIED CARD OF 'tintypelaw02.RatioNearest'. -/
def ratioNearestCard : Claim7 := { stood := { row := ratioNearestRow, standIns := [], harness := (true, "1dad5cd6d375c4eb320f2ef732dcef3db4784b3666d82dd12d8ba83658b3faf0"), looks := true }, kinds := [], alts := [], laidByText := true, laidKinds := [.data, .data, .data, .sentinel, .sentinel], laidTests := true, laidLooks := .later }
def RatioNearestCardSaid : Prop := Claim7.holds Tryd.pinned (.plain (OpenSpec.ofChange ratioNearestSpec)) ratioNearestCard

/-- THE SECOND FORM's CARD OF 'tintypelaw02.RatioCompares'. -/
def ratioComparesUptoCard : Claim7 := { stood := { row := ratioComparesUptoRow, standIns := [], harness := (true, "1dad5cd6d375c4eb320f2ef732dcef3db4784b3666d82dd12d8ba83658b3faf0"), looks := true }, kinds := [], alts := [], laidByText := true, laidKinds := [.data, .data, .data, .sentinel, .sentinel], laidTests := true, laidLooks := .later }
def RatioComparesUptoCardSaid : Prop := Claim7.holds Tryd.pinned (.plain (OpenSpec.upto ratioComparesSpec)) ratioComparesUptoCard

/-- THE SECOND FORM's CARD OF 'tintypelaw02.RatioTells'. -/
def ratioTellsUptoCard : Claim7 := { stood := { row := ratioTellsUptoRow, standIns := [], harness := (true, "1dad5cd6d375c4eb320f2ef732dcef3db4784b3666d82dd12d8ba83658b3faf0"), looks := true }, kinds := [], alts := [], laidByText := true, laidKinds := [.data, .data, .data, .sentinel, .sentinel], laidTests := true, laidLooks := .later }
def RatioTellsUptoCardSaid : Prop := Claim7.holds Tryd.pinned (.plain (OpenSpec.upto ratioTellsSpec)) ratioTellsUptoCard

/-- THE SECOND FORM's CARD OF 'tintypelaw02.RatioNearest'. -/
def ratioNearestUptoCard : Claim7 := { stood := { row := ratioNearestUptoRow, standIns := [], harness := (true, "1dad5cd6d375c4eb320f2ef732dcef3db4784b3666d82dd12d8ba83658b3faf0"), looks := true }, kinds := [], alts := [], laidByText := true, laidKinds := [.data, .data, .data, .sentinel, .sentinel], laidTests := true, laidLooks := .later }
def RatioNearestUptoCardSaid : Prop := Claim7.holds Tryd.pinned (.plain (OpenSpec.upto ratioNearestSpec)) ratioNearestUptoCard
end Rows
end Go.Proofs.YtghnmamdfinbpaaDoor
