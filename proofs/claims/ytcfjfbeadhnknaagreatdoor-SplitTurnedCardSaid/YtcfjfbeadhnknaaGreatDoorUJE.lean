import Derived.Test.YtcfjfbeadhnknaaGreatDoorRows
import Derived.Test.YtcfjfbeadhnknaaGreatDoorCards
import Derived.KernelRfl
namespace Go.Proofs.YtcfjfbeadhnknaaGreatDoor
namespace je
open Go.Proofs.YtcfjfbeadhnknaaGreatDoor
theorem ab6:Tryz.pinned.checked.prog.mainIs=some (Rows.splitTurnedCard.stood.harness.1,Rows.splitTurnedCard.stood.harness.2.toList):=by kernel_rfl
end je
end Go.Proofs.YtcfjfbeadhnknaaGreatDoor
