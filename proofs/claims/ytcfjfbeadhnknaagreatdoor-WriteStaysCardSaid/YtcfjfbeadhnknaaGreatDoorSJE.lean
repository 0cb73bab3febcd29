import Derived.Test.YtcfjfbeadhnknaaGreatDoorRows
import Derived.Test.YtcfjfbeadhnknaaGreatDoorCards
import Derived.KernelRfl
namespace Go.Proofs.YtcfjfbeadhnknaaGreatDoor
namespace lawStays
open Go.Proofs.YtcfjfbeadhnknaaGreatDoor
theorem Vc:Tryz.pinned.checked.prog.mainIs=some (Rows.writeStaysCard.stood.harness.1,Rows.writeStaysCard.stood.harness.2.toList):=by kernel_rfl
end lawStays
end Go.Proofs.YtcfjfbeadhnknaaGreatDoor
