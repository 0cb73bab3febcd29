import Derived.Test.YtcfjfbeadhnknaaGreatDoorRows
import Derived.Test.YtcfjfbeadhnknaaGreatDoorCards
import Derived.KernelRfl
namespace Go.Proofs.YtcfjfbeadhnknaaGreatDoor
namespace lawTiles
open Go.Proofs.YtcfjfbeadhnknaaGreatDoor
theorem Za:Tryz.pinned.checked.prog.mainIs=some (Rows.writeTilesCard.stood.harness.1,Rows.writeTilesCard.stood.harness.2.toList):=by kernel_rfl
end lawTiles
end Go.Proofs.YtcfjfbeadhnknaaGreatDoor
