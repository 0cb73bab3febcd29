import Derived.Test.YtcfjfbeadhnknaaGreatDoorRows
import Derived.Test.YtcfjfbeadhnknaaGreatDoorCards
import Derived.KernelRfl
namespace Go.Proofs.YtcfjfbeadhnknaaGreatDoor
namespace jj
open Go.Proofs.YtcfjfbeadhnknaaGreatDoor
theorem aca:Tryz.pinned.checked.prog.mainIs=some (Rows.splitBackCard.stood.harness.1,Rows.splitBackCard.stood.harness.2.toList):=by kernel_rfl
end jj
end Go.Proofs.YtcfjfbeadhnknaaGreatDoor
