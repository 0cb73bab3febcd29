/-
  One of the closed facts of the row EditKept: what its list says of the functions that it reaches.
-/
import Derived.Test.YtnicdlmcbkkkfaaGreatDoorRows
import Derived.KernelRfl
namespace Go.Proofs.YtnicdlmcbkkkfaaGreatDoor.lawKept
theorem joinC : (Rows.editKeptRow.recurses == Tryz.prog.recurses 3) = true := by kernel_rfl
end Go.Proofs.YtnicdlmcbkkkfaaGreatDoor.lawKept
