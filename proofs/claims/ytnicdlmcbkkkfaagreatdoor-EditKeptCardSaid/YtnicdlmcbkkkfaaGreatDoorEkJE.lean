/-
  One of the closed facts of the card EditKept: the tests' harness is the program's.
-/
import Derived.Test.YtnicdlmcbkkkfaaGreatDoorRows
import Derived.Test.YtnicdlmcbkkkfaaGreatDoorCards
import Derived.KernelRfl
namespace Go.Proofs.YtnicdlmcbkkkfaaGreatDoor.lawKept
theorem joinM : Tryz.pinned.checked.prog.mainIs = some (Rows.editKeptCard.stood.harness.1, Rows.editKeptCard.stood.harness.2.toList) := by kernel_rfl
end Go.Proofs.YtnicdlmcbkkkfaaGreatDoor.lawKept
