/-
  One of the closed facts of the row CoverTells: what its list says of the functions that it reaches.
-/
import Derived.Test.YtaehfpigjdndkaaGreatDoorRows
import Derived.KernelRfl
namespace Go.Proofs.YtaehfpigjdndkaaGreatDoor.lawTells
theorem joinC : (Rows.coverTellsRow.recurses == Tryz.prog.recurses 3) = true := by kernel_rfl
end Go.Proofs.YtaehfpigjdndkaaGreatDoor.lawTells
