import Derived.Test.YtcfjfbeadhnknaaGreatDoorRows
import Derived.Test.YtcfjfbeadhnknaaGreatDoorCards
import Derived.KernelRfl
namespace Go.Proofs.YtcfjfbeadhnknaaGreatDoor
namespace lawBack
open Go.Proofs.YtcfjfbeadhnknaaGreatDoor
theorem abI:Tryz.pinned.checked.prog.mainIs=some (Rows.readBackCard.stood.harness.1,Rows.readBackCard.stood.harness.2.toList):=by kernel_rfl
end lawBack
end Go.Proofs.YtcfjfbeadhnknaaGreatDoor
