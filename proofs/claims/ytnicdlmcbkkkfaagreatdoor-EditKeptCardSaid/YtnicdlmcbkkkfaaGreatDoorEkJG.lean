/-
  One of the closed facts of the card EditKept: what the program looks at.
-/
import Derived.Test.YtnicdlmcbkkkfaaGreatDoorRows
import Derived.Test.YtnicdlmcbkkkfaaGreatDoorCards
import Derived.KernelRfl
namespace Go.Proofs.YtnicdlmcbkkkfaaGreatDoor.lawKept
theorem joinL : true = Tryz.pinned.checked.prog.looks [] := by kernel_rfl
theorem joinW : Rows.editKeptRow.wfByText (OpenSpec.ofChange Rows.editKeptSpec) = true := by kernel_rfl
end Go.Proofs.YtnicdlmcbkkkfaaGreatDoor.lawKept
